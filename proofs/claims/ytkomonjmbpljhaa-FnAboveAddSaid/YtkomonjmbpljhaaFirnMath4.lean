/-
  What the laws on depths and masses above them ask, as facts on plain lists, in the walk's own spelling. No program in sight.
-/
import Derived.Test.YtkomonjmbpljhaaFirnMath3
namespace Go.Proofs.Ytkomonjmbpljhaa

theorem aboveV_yes {l : List (Int × Int)} {d : Int} (h : okA l d = true) : aboveV l d = above l d := by simp [aboveV, h]
theorem depthV_yes {l : List (Int × Int)} {d : Int} (h : okD l d = true) : depthV l d = depthI l d := by simp [depthV, h]
theorem okA_no {l : List (Int × Int)} {d : Int} (h : thickR l < d ∨ d < 0) : okA l d = false := inB_not (by omega)
theorem beq_of {a b : Int} (h : a = b) : (a == b) = true := by simp [h]
theorem above_bd {l : List (Int × Int)} {d : Int} (h : okA l d = true) : vFirn l = true ∧ 0 ≤ d ∧ d ≤ 20000 ∧ d ≤ thickR l ∧ 0 ≤ aboveV l d ∧ aboveV l d ≤ 18340000 := by
  obtain ⟨hv, h0, h1⟩ := okA_yes h
  have hb := all_bd hv
  have := above_nonneg l (vFirn_ok hv).1 d h0
  have := above_le h
  rw [aboveV_yes h, thickR_yes hv]
  exact ⟨hv, h0, by omega, h1, by omega, by omega⟩
theorem depth_bd {l : List (Int × Int)} {m : Int} (h : okD l m = true) : vFirn l = true ∧ 0 ≤ m ∧ m ≤ 18340000 ∧ m ≤ massR l ∧ 0 ≤ depthV l m ∧ depthV l m ≤ 20000 ∧ okA l (depthV l m) = true := by
  obtain ⟨hv, h0, h1⟩ := okD_yes h
  have hb := all_bd hv
  obtain ⟨a, b, _, _⟩ := isDepth l (vFirn_ok hv).1 m h0 h1
  rw [depthV_yes h, massR_yes hv]
  exact ⟨hv, h0, by omega, h1, a, by omega, okA_mk hv a b⟩
theorem law_above {l : List (Int × Int)} {d : Int} (h : okA l d = true) :
    okA l 0 = true ∧ (aboveV l 0 == 0) = true ∧ okA l (thickR l) = true ∧ (aboveV l (thickR l) == massR l) = true ∧
    ((okA l (d + 1) = false ∧ (d == thickR l) = true) ∨ (okA l (d + 1) = true ∧ decide (aboveV l d < aboveV l (d + 1)) = true ∧ decide (aboveV l (d + 1) ≤ aboveV l d + 917) = true)) := by
  obtain ⟨hv, h0, h1⟩ := okA_yes h
  obtain ⟨ho, _⟩ := vFirn_ok hv
  have hb := all_bd hv
  have ht := thickR_yes hv
  have hm := massR_yes hv
  have a0 : okA l 0 = true := okA_mk hv (Int.le_refl _) (by omega)
  have a1 : okA l (thickR l) = true := okA_mk hv (by omega) (by omega)
  refine ⟨a0, beq_of (by rw [aboveV_yes a0, above_zero l ho]), a1, beq_of (by rw [aboveV_yes a1, hm, ht, above_full l ho _ (Int.le_refl _)]), ?_⟩
  by_cases hd : d = thickOf l
  · exact .inl ⟨okA_no (by omega), beq_of (by omega)⟩
  · have a2 : okA l (d + 1) = true := okA_mk hv (by omega) (by omega)
    have := above_succ l ho d h0 (by omega)
    refine .inr ⟨a2, ?_, ?_⟩ <;> (rw [aboveV_yes h, aboveV_yes a2]; simp; omega)
theorem law_slabs {l : List (Int × Int)} {d : Int} (h : okA l d = true) (k : Nat) :
    okA l (thickR (l.take k)) = true ∧ (aboveV l (thickR (l.take k)) == massR (l.take k)) = true ∧ decide (aboveV l d ≤ massR l) = true := by
  obtain ⟨hv, h0, h1⟩ := okA_yes h
  obtain ⟨ho, _⟩ := vFirn_ok hv
  have ht := thickR_yes (vFirn_take hv k)
  have hm := massR_yes (vFirn_take hv k)
  have a1 : okA l (thickR (l.take k)) = true := okA_mk hv (by have := all_bd (vFirn_take hv k); omega) (by have := thick_take_le l ho k; omega)
  refine ⟨a1, beq_of (by rw [aboveV_yes a1, ht, hm, above_slabs l ho]), ?_⟩
  have := above_le h
  rw [aboveV_yes h, massR_yes hv]
  simp; omega
theorem law_add {l : List (Int × Int)} {d : Int} (h : okA l d = true) (hl : l.length ≤ 19) : okA ((3, 300) :: l) (d + 3) = true ∧ (aboveV ((3, 300) :: l) (d + 3) == aboveV l d + 900) = true := by
  have a1 := okA_cons3 h hl
  obtain ⟨hv, h0, h1⟩ := okA_yes h
  exact ⟨a1, beq_of (by rw [aboveV_yes h, aboveV_yes a1, above_cons3 h0])⟩
theorem law_rises {l : List (Int × Int)} {m : Int} (h : okD l m = true) :
    okD l (massR l) = true ∧ (depthV l (massR l) == thickR l) = true ∧ (okD l (m + 1) = false ∨ (okD l (m + 1) = true ∧ ((depthV l (m + 1) == depthV l m) = true ∨ ((depthV l (m + 1) == depthV l m) = false ∧ (depthV l (m + 1) == depthV l m + 1) = true)))) := by
  obtain ⟨hv, h0, h1⟩ := okD_yes h
  have ht := thickR_yes hv
  have hm := massR_yes hv
  obtain ⟨a, b⟩ := depth_all hv
  rw [← hm] at a b
  refine ⟨a, beq_of (by rw [depthV_yes a, b, ht]), ?_⟩
  rcases Bool.eq_false_or_eq_true (okD l (m + 1)) with h' | h'
  · refine .inr ⟨h', ?_⟩
    rw [depthV_yes h, depthV_yes h']
    rcases depth_rises h h' with e | e
    · exact .inl (beq_of e)
    · exact .inr ⟨by rw [e]; simp; omega, beq_of e⟩
  · exact .inl h'
theorem law_depth_above {l : List (Int × Int)} {d : Int} (h : okA l d = true) : okD l (aboveV l d) = true ∧ (depthV l (aboveV l d) == d) = true := by
  obtain ⟨a, b⟩ := depth_above h
  rw [aboveV_yes h]
  exact ⟨a, beq_of (by rw [depthV_yes a, b])⟩
theorem law_depth_mass {l : List (Int × Int)} {m : Int} (h : okD l m = true) :
    okA l (depthV l m) = true ∧ decide (m ≤ aboveV l (depthV l m)) = true ∧ ((okA l (depthV l m - 1) = false ∧ (depthV l m == 0) = true) ∨ (okA l (depthV l m - 1) = true ∧ decide (aboveV l (depthV l m - 1) < m) = true)) := by
  obtain ⟨hv, h0, h1⟩ := okD_yes h
  obtain ⟨ho, _⟩ := vFirn_ok hv
  have ht := thickR_yes hv
  obtain ⟨_, _, _, _, _, _, a0⟩ := depth_bd h
  obtain ⟨a1, a2, a3, a4⟩ := isDepth l ho m h0 h1
  rw [depthV_yes h] at a0 ⊢
  refine ⟨a0, by rw [aboveV_yes a0]; simpa using a3, ?_⟩
  by_cases hz : depthI l m = 0
  · exact .inl ⟨okA_no (by omega), beq_of hz⟩
  · have a5 : okA l (depthI l m - 1) = true := okA_mk hv (by omega) (by omega)
    refine .inr ⟨a5, ?_⟩
    have := a4 (depthI l m - 1) (by omega) (by omega)
    rw [aboveV_yes a5]
    simpa using this
end Go.Proofs.Ytkomonjmbpljhaa
