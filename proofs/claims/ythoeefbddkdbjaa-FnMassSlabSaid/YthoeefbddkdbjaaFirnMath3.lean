/-
  Settled firn, and the plain laws on firn, as lists. No program in sight.
-/
import Derived.Test.YthoeefbddkdbjaaFirnMath2
namespace Go.Proofs.Ythoeefbddkdbjaa

/-- a slab settled to the density d -/
def stl (d : Int) (p : Int × Int) : Int × Int := if p.2 < d then (max 1 (p.1 * p.2 / d), d) else p
def stlL (l : List (Int × Int)) (d : Int) : List (Int × Int) := l.map (stl d)
def okS (l : List (Int × Int)) (d : Int) : Bool := vFirn l && inB d 1 917
def stlV (l : List (Int × Int)) (d : Int) : List (Int × Int) := if okS l d then stlL l d else []
theorem okS_yes {l : List (Int × Int)} {d : Int} (h : okS l d = true) : vFirn l = true ∧ 1 ≤ d ∧ d ≤ 917 := by
  simp only [okS, Bool.and_eq_true] at h
  exact ⟨h.1, inB_true h.2⟩
theorem okS_mk {l : List (Int × Int)} {d : Int} (h : vFirn l = true) (h1 : 1 ≤ d) (h2 : d ≤ 917) : okS l d = true := by
  simp [okS, h, inB_of h1 h2]

theorem div_bd (m d : Int) (hm : 0 ≤ m) (hd : 1 ≤ d) : 0 ≤ m / d ∧ m / d * d ≤ m ∧ m < m / d * d + d ∧ m / d ≤ m := by
  have h1 := Int.mul_ediv_add_emod m d
  have h2 := Int.emod_nonneg m (show d ≠ 0 by omega)
  have h3 := Int.emod_lt_of_pos m (show 0 < d by omega)
  rw [Int.mul_comm] at h1
  exact ⟨Int.ediv_nonneg hm (by omega), by omega, by omega, Int.ediv_le_self _ hm⟩

theorem stl_bd (d : Int) (p : Int × Int) (hp : vOk p) (hd : 1 ≤ d) (hd2 : d ≤ 917) :
    vOk (stl d p) ∧ d ≤ (stl d p).2 ∧ p.2 ≤ (stl d p).2 ∧ (stl d p).1 ≤ p.1 ∧ (stl d p).1 * (stl d p).2 ≤ max d (p.1 * p.2) ∧ p.1 * p.2 - (stl d p).1 * (stl d p).2 < d := by
  obtain ⟨a, b, c, e⟩ := hp
  unfold stl
  split
  · rename_i hlt
    have hm := mass_bd p ⟨a, b, c, e⟩
    obtain ⟨q0, q1, q2, q3⟩ := div_bd (p.1 * p.2) d (by omega) hd
    have h1 : p.1 * p.2 ≤ p.1 * d := Int.mul_le_mul_of_nonneg_left (by omega) (by omega)
    generalize p.1 * p.2 = m at *
    have h2 : m / d ≤ p.1 := by
      rcases Int.lt_or_le p.1 (m / d) with h | h
      · have := Int.mul_lt_mul_of_pos_right h (show 0 < d by omega)
        omega
      · exact h
    generalize hq : m / d = q at *
    show vOk (max 1 q, d) ∧ d ≤ d ∧ p.2 ≤ d ∧ max 1 q ≤ p.1 ∧ max 1 q * d ≤ max d m ∧ m - max 1 q * d < d
    refine ⟨⟨by show 1 ≤ max 1 q; omega, by show max 1 q ≤ 1000; omega, hd, hd2⟩, Int.le_refl _, by omega, by omega, ?_, ?_⟩
    · rcases Int.lt_or_le q 1 with h | h
      · rw [show max 1 q = 1 by omega]; omega
      · rw [show max 1 q = q by omega]; omega
    · rcases Int.lt_or_le q 1 with h | h
      · rw [show max 1 q = 1 by omega]
        have : q = 0 := by omega
        subst this
        omega
      · rw [show max 1 q = q by omega]; omega
  · rename_i hge
    refine ⟨⟨a, b, c, e⟩, by omega, by omega, by omega, by omega, by omega⟩
theorem stl_same (d : Int) (p : Int × Int) (h : d ≤ p.2) : stl d p = p := by
  unfold stl
  rw [if_neg (by omega)]
/-- as the program reckons it -/
theorem stl_impl (d : Int) (p : Int × Int) (hp : vOk p) : stl d p = (max 1 (p.1 * p.2 / max p.2 d), max p.2 d) := by
  obtain ⟨a, b, c, e⟩ := hp
  unfold stl
  split
  · rename_i hlt
    rw [show max p.2 d = d by omega]
  · rename_i hge
    rw [show max p.2 d = p.2 by omega, Int.mul_ediv_cancel _ (by omega), show max 1 p.1 = p.1 by omega]

theorem stlL_len (l : List (Int × Int)) (d : Int) : (stlL l d).length = l.length := by simp [stlL]
theorem stlL_at {l : List (Int × Int)} {d : Int} {k : Nat} (hk : k < l.length) : px (stlL l d) k = (stl d (px l k, py l k)).1 ∧ py (stlL l d) k = (stl d (px l k, py l k)).2 := by
  rw [px_eq (l := stlL l d) (by rw [stlL_len]; exact hk), py_eq (l := stlL l d) (by rw [stlL_len]; exact hk), px_eq hk, py_eq hk]
  simp [stlL]
theorem stlL_ok {l : List (Int × Int)} {d : Int} (h : okS l d = true) : vFirn (stlL l d) = true := by
  obtain ⟨hv, h1, h2⟩ := okS_yes h
  obtain ⟨ho, hl⟩ := vFirn_ok hv
  refine vFirn_mk (fun p hp => ?_) (by rw [stlL_len]; exact hl)
  simp only [stlL, List.mem_map] at hp
  obtain ⟨q, hq, rfl⟩ := hp
  exact (stl_bd d q (ho q hq) h1 h2).1
/-- what the laws ask of each place -/
theorem stl_place {l : List (Int × Int)} {d : Int} (h : okS l d = true) {k : Nat} (hk : k < l.length) :
    d ≤ py (stlL l d) k ∧ py l k ≤ py (stlL l d) k ∧ px (stlL l d) k ≤ px l k ∧ px (stlL l d) k * py (stlL l d) k ≤ max d (px l k * py l k) ∧ px l k * py l k - px (stlL l d) k * py (stlL l d) k < d ∧ 1 ≤ px (stlL l d) k ∧ py (stlL l d) k ≤ 917 := by
  obtain ⟨hv, h1, h2⟩ := okS_yes h
  obtain ⟨ho, hl⟩ := vFirn_ok hv
  have := stl_bd d (px l k, py l k) (by have := vOk_at ho hk; exact this) h1 h2
  obtain ⟨e1, e2⟩ := stlL_at (d := d) hk
  rw [e1, e2]
  obtain ⟨⟨o1, o2, o3, o4⟩, a, b, c, e, f⟩ := this
  exact ⟨a, b, c, e, f, o1, o4⟩
theorem stlL_same {l : List (Int × Int)} {d : Int} (h : ∀ p ∈ l, d ≤ p.2) : stlL l d = l := by
  unfold stlL
  rw [List.map_congr_left (g := id) (fun p hp => stl_same d p (h p hp))]
  simp
theorem stlL_twice {l : List (Int × Int)} {d : Int} (h : okS l d = true) : stlL (stlL l d) d = stlL l d := by
  obtain ⟨hv, h1, h2⟩ := okS_yes h
  obtain ⟨ho, hl⟩ := vFirn_ok hv
  refine stlL_same fun p hp => ?_
  simp only [stlL, List.mem_map] at hp
  obtain ⟨q, hq, rfl⟩ := hp
  exact (stl_bd d q (ho q hq) h1 h2).2.1
theorem stlL_one {l : List (Int × Int)} (h : vFirn l = true) : stlL l 1 = l := stlL_same fun p hp => ((vFirn_ok h).1 p hp).2.2.1
theorem stlL_solid {l : List (Int × Int)} {d : Int} (h : okS l d = true) : solidR (stlL l d) d = 0 := by
  have hv := stlL_ok h
  unfold solidR
  rw [if_pos hv, solidAt_all]
  · rfl
  · intro i hi
    rw [stlL_len] at hi
    exact (stl_place h hi).1
theorem stlL_thick {l : List (Int × Int)} {d : Int} (h : okS l d = true) : thickOf (stlL l d) ≤ thickOf l := by
  obtain ⟨hv, h1, h2⟩ := okS_yes h
  obtain ⟨ho, hl⟩ := vFirn_ok hv
  clear h hv hl
  induction l with
  | nil => simp [stlL]
  | cons p r ih =>
    have := ih (fun q hq => ho q (by simp [hq]))
    have h3 := (stl_bd d p (ho p (by simp)) h1 h2).2.2.2.1
    simp only [stlL, thickOf, List.map_cons, List.sum_cons] at *
    omega

theorem above_cons3 {l : List (Int × Int)} {d : Int} (hd : 0 ≤ d) : above ((3, 300) :: l) (d + 3) = above l d + 900 := by
  rw [above]
  simp only
  rw [show min (d + 3) 3 = 3 by omega, show d + 3 - 3 = d by omega]
  omega
theorem okA_cons3 {l : List (Int × Int)} {d : Int} (h : okA l d = true) (hl : l.length ≤ 19) : okA ((3, 300) :: l) (d + 3) = true := by
  obtain ⟨hv, h0, h1⟩ := okA_yes h
  obtain ⟨ho, _⟩ := vFirn_ok hv
  refine okA_mk (vFirn_mk ?_ (by simp; omega)) (by omega) (by simp [thickOf] at h1 ⊢; omega)
  intro p hp
  simp only [List.mem_cons] at hp
  rcases hp with rfl | hp
  · exact ⟨by decide, by decide, by decide, by decide⟩
  · exact ho p hp
theorem above_slabs (l : List (Int × Int)) (h : ∀ p ∈ l, vOk p) (k : Nat) : above l (thickOf (l.take k)) = massOf (l.take k) := by
  induction l generalizing k with
  | nil => simp [above, massOf]
  | cons p r ih =>
    have hp := h p (by simp)
    have hr : ∀ q ∈ r, vOk q := fun q hq => h q (by simp [hq])
    cases k with
    | zero => simp only [List.take_zero]; rw [show thickOf [] = 0 from rfl, show massOf [] = 0 from rfl]; exact above_zero _ h
    | succ k =>
      have ht := thick_nonneg (r.take k) (take_ok hr k)
      have := ih hr k
      unfold vOk at hp
      simp only [List.take_succ_cons, thickOf, massOf, List.map_cons, List.sum_cons] at *
      rw [above, show min (p.1 + ((r.take k).map fun p => p.1).sum) p.1 = p.1 by omega, show p.1 + ((r.take k).map fun p => p.1).sum - p.1 = ((r.take k).map fun p => p.1).sum by omega, this]
theorem thick_take_le (l : List (Int × Int)) (h : ∀ p ∈ l, vOk p) (k : Nat) : thickOf (l.take k) ≤ thickOf l := by
  have h1 := thick_app (l.take k) (l.drop k)
  rw [List.take_append_drop] at h1
  have h2 := thick_nonneg (l.drop k) (drop_ok h k)
  omega
theorem above_le {l : List (Int × Int)} {d : Int} (h : okA l d = true) : above l d ≤ massOf l := by
  obtain ⟨hv, h0, h1⟩ := okA_yes h
  obtain ⟨ho, _⟩ := vFirn_ok hv
  have := above_lt l ho d (thickOf l) h0 h1 (Int.le_refl _)
  rw [above_full l ho (thickOf l) (Int.le_refl _)] at this
  omega
theorem depth_above {l : List (Int × Int)} {d : Int} (h : okA l d = true) : okD l (above l d) = true ∧ depthI l (above l d) = d := by
  obtain ⟨hv, h0, h1⟩ := okA_yes h
  obtain ⟨ho, _⟩ := vFirn_ok hv
  have hn := above_nonneg l ho d h0
  have hle := above_le h
  refine ⟨okD_mk hv hn hle, ?_⟩
  refine (depth_found hv hn hle h0 h1 (Int.le_refl _) fun i hi hid => ?_).symm
  have := above_lt l ho i d hi (by omega) h1
  omega
theorem depth_all {l : List (Int × Int)} (hv : vFirn l = true) : okD l (massOf l) = true ∧ depthI l (massOf l) = thickOf l := by
  obtain ⟨ho, _⟩ := vFirn_ok hv
  have hb := all_bd hv
  have h := okA_mk hv hb.1 (Int.le_refl _)
  have := depth_above h
  rwa [above_full l ho (thickOf l) (Int.le_refl _)] at this
theorem depth_rises {l : List (Int × Int)} {m : Int} (h : okD l m = true) (h' : okD l (m + 1) = true) : depthI l (m + 1) = depthI l m ∨ depthI l (m + 1) = depthI l m + 1 := by
  obtain ⟨hv, h0, h1⟩ := okD_yes h
  obtain ⟨_, _, h3⟩ := okD_yes h'
  obtain ⟨ho, _⟩ := vFirn_ok hv
  obtain ⟨a1, a2, a3, a4⟩ := isDepth l ho m h0 h1
  obtain ⟨b1, b2, b3, b4⟩ := isDepth l ho (m + 1) (by omega) h3
  generalize depthI l m = x at *
  generalize depthI l (m + 1) = y at *
  rcases Int.lt_trichotomy x y with hxy | hxy | hxy
  · right
    rcases Int.lt_or_le (x + 1) y with hlt | hle
    · have := b4 (x + 1) (by omega) hlt
      have := above_lt l ho x (x + 1) a1 (by omega) (by omega)
      omega
    · omega
  · left; omega
  · have := a4 y b1 hxy; omega
theorem vFirn_take {l : List (Int × Int)} (h : vFirn l = true) (k : Nat) : vFirn (l.take k) = true :=
  vFirn_mk (take_ok (vFirn_ok h).1 k) (by have := (vFirn_ok h).2; have := List.length_take_le' k l; omega)
theorem vFirn_drop {l : List (Int × Int)} (h : vFirn l = true) (k : Nat) : vFirn (l.drop k) = true :=
  vFirn_mk (drop_ok (vFirn_ok h).1 k) (by have := (vFirn_ok h).2; simp; omega)
theorem thickR_yes {l : List (Int × Int)} (h : vFirn l = true) : thickR l = thickOf l := by simp [thickR, h]
theorem massR_yes {l : List (Int × Int)} (h : vFirn l = true) : massR l = massOf l := by simp [massR, h]
theorem solidR_yes {l : List (Int × Int)} {d : Int} (h : vFirn l = true) : solidR l d = solidAt l d l.length := by simp [solidR, h]
theorem thickR_ok {l : List (Int × Int)} (h : 0 ≤ thickR l) : vFirn l = true := by
  unfold thickR at h
  split at h
  · assumption
  · omega
theorem massR_ok {l : List (Int × Int)} (h : 0 ≤ massR l) : vFirn l = true := by
  unfold massR at h
  split at h
  · assumption
  · omega
theorem solidR_ok {l : List (Int × Int)} {d : Int} (h : 0 ≤ solidR l d) : vFirn l = true := by
  unfold solidR at h
  split at h
  · assumption
  · omega
theorem thickR_parts {l : List (Int × Int)} (h : vFirn l = true) (k : Nat) : thickR (l.take k) + thickR (l.drop k) = thickR l := by
  rw [thickR_yes h, thickR_yes (vFirn_take h k), thickR_yes (vFirn_drop h k), ← thick_app, List.take_append_drop]
theorem massR_parts {l : List (Int × Int)} (h : vFirn l = true) (k : Nat) : massR (l.take k) + massR (l.drop k) = massR l := by
  rw [massR_yes h, massR_yes (vFirn_take h k), massR_yes (vFirn_drop h k), ← mass_app, List.take_append_drop]
theorem thickR_len {l : List (Int × Int)} (h : vFirn l = true) : (l.length : Int) ≤ thickR l := by
  rw [thickR_yes h]
  exact thick_nonneg l (vFirn_ok h).1
theorem solid_all0 {l : List (Int × Int)} (h : vFirn l = true) : solidR l 0 = 0 := by
  rw [solidR_yes h, solidAt_all]
  · rfl
  · intro i hi
    have := vOk_at (vFirn_ok h).1 hi
    omega
theorem solid_none918 {l : List (Int × Int)} (h : vFirn l = true) : solidR l 918 = l.length := by
  rw [solidR_yes h, solidAt_none]
  intro i hi
  have := vOk_at (vFirn_ok h).1 hi
  omega
theorem solid_facts {l : List (Int × Int)} (h : vFirn l = true) (d : Int) : ∃ s : Nat, solidR l d = (s : Int) ∧ s ≤ l.length ∧ (∀ j, s = j + 1 → py l j < d) ∧ (∀ i, s ≤ i → i < l.length → d ≤ py l i) ∧ solidR l (d - 1) ≤ (s : Int) := by
  refine ⟨solidAt l d l.length, solidR_yes h, solidAt_le _ _ _, fun j hj => ?_, fun i h1 h2 => solidAt_down l d _ i h1 h2, ?_⟩
  · have := solidAt_up l d l.length (by omega)
    rwa [hj] at this
  · rw [solidR_yes h]
    have := solidAt_mono l d (d - 1) (by omega) l.length
    omega
theorem massR_pos {l : List (Int × Int)} (h : vFirn l = true) (hl : 0 < l.length) : 0 < massR l := by
  have h1 := thick_nonneg l (vFirn_ok h).1
  have h2 := mass_sum_bd l (vFirn_ok h).1
  rw [massR_yes h]
  omega
theorem mass_slab {l : List (Int × Int)} (h : vFirn l = true) (hl : l.length ≤ 19) : massR (l ++ [(2, 400)]) = massR l + 800 ∧ thickR (l ++ [(2, 400)]) = thickR l + 2 := by
  have hv : vFirn (l ++ [(2, 400)]) = true := by
    refine vFirn_mk (fun p hp => ?_) (by simp; omega)
    simp only [List.mem_append, List.mem_singleton] at hp
    rcases hp with hp | rfl
    · exact (vFirn_ok h).1 p hp
    · exact ⟨by decide, by decide, by decide, by decide⟩
  rw [massR_yes hv, thickR_yes hv, massR_yes h, thickR_yes h, mass_app, thick_app]
  simp [massOf, thickOf]
theorem firn_bad (l : List (Int × Int)) : vFirn (l ++ [(0, 1)]) = false := by
  have : (l ++ [(0, 1)]).all vSlab = false := by
    rw [List.all_eq_false]
    exact ⟨(0, 1), by simp, by decide⟩
  simp only [vFirn, this, Bool.false_and]
/-- are the first k slabs dense -/
def allB (l : List (Int × Int)) (d : Int) (k : Nat) : Bool := (l.take k).all fun p => decide (d ≤ p.2)
theorem allB_succ {l : List (Int × Int)} {d : Int} {k : Nat} (hk : k < l.length) : allB l d (k + 1) = (allB l d k && decide (d ≤ py l k)) := by
  unfold allB
  rw [List.take_succ_eq_append_getElem hk, List.all_append, py_eq hk]
  simp
theorem stl_all {l : List (Int × Int)} {d : Int} {k : Nat} (hl : l.length = k) (h : allB l d k = true) : decide (stlL l d = l) = true := by
  unfold allB at h
  rw [← hl, List.take_length, List.all_eq_true] at h
  rw [decide_eq_true_eq]
  exact stlL_same fun p hp => of_decide_eq_true (h p hp)
end Go.Proofs.Ythoeefbddkdbjaa
