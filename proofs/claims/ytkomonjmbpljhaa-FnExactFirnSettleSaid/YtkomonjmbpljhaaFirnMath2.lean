/-
  More on firn as plain lists: the first solid slab, mass above a depth, the depth of a mass, slab by slab.
-/
import Derived.Test.YtkomonjmbpljhaaFirnMath
namespace Go.Proofs.Ytkomonjmbpljhaa

theorem solidAt_yes {l : List (Int × Int)} {d : Int} {k : Nat} (h : d ≤ py l k) : solidAt l d (k + 1) = solidAt l d k := by simp [solidAt, h]
theorem solidAt_no {l : List (Int × Int)} {d : Int} {k : Nat} (h : py l k < d) : solidAt l d (k + 1) = k + 1 := by
  rw [solidAt, if_neg (by omega)]
theorem solidAt_le (l : List (Int × Int)) (d : Int) (k : Nat) : solidAt l d k ≤ k := by
  induction k with
  | zero => simp [solidAt]
  | succ k ih => rw [solidAt]; split <;> omega
theorem solidAt_down (l : List (Int × Int)) (d : Int) (k i : Nat) (h1 : solidAt l d k ≤ i) (h2 : i < k) : d ≤ py l i := by
  induction k with
  | zero => omega
  | succ k ih =>
    rw [solidAt] at h1
    split at h1
    · rename_i hd
      by_cases e : i = k
      · rw [e]; exact hd
      · exact ih h1 (by omega)
    · omega
theorem solidAt_up (l : List (Int × Int)) (d : Int) (k : Nat) (h : solidAt l d k ≠ 0) : py l (solidAt l d k - 1) < d := by
  induction k with
  | zero => simp [solidAt] at h
  | succ k ih =>
    rw [solidAt] at h ⊢
    split
    · rename_i hd
      rw [if_pos hd] at h
      exact ih h
    · rename_i hd
      simp; omega
theorem solidAt_mono (l : List (Int × Int)) (d e : Int) (h : e ≤ d) (k : Nat) : solidAt l e k ≤ solidAt l d k := by
  induction k with
  | zero => simp [solidAt]
  | succ k ih =>
    have := solidAt_le l e k
    rw [solidAt, solidAt]
    split <;> split <;> omega
theorem solidAt_all (l : List (Int × Int)) (d : Int) (k : Nat) (h : ∀ i, i < k → d ≤ py l i) : solidAt l d k = 0 := by
  induction k with
  | zero => rfl
  | succ k ih =>
    rw [solidAt_yes (h k (by omega))]
    exact ih fun i hi => h i (by omega)
theorem solidAt_none (l : List (Int × Int)) (d : Int) (k : Nat) (h : ∀ i, i < k → py l i < d) : solidAt l d k = k := by
  cases k with
  | zero => rfl
  | succ k => exact solidAt_no (h k (by omega))

theorem above_drop {l : List (Int × Int)} {k : Nat} (hk : k < l.length) (d : Int) : above (l.drop k) d = min d (px l k) * py l k + above (l.drop (k + 1)) (d - min d (px l k)) := by
  rw [List.drop_eq_getElem_cons hk, px_eq hk, py_eq hk, above]
theorem above_end {l : List (Int × Int)} {k : Nat} (hk : l.length = k) (d : Int) : above (l.drop k) d = 0 := by
  rw [← hk, List.drop_length, above]
theorem depthI_drop {l : List (Int × Int)} {k : Nat} (hk : k < l.length) (m : Int) : depthI (l.drop k) m = if m ≤ px l k * py l k then (m + py l k - 1) / py l k else px l k + depthI (l.drop (k + 1)) (m - px l k * py l k) := by
  rw [List.drop_eq_getElem_cons hk, px_eq hk, py_eq hk, depthI]
theorem depthI_end {l : List (Int × Int)} {k : Nat} (hk : l.length = k) (m : Int) : depthI (l.drop k) m = 0 := by
  rw [← hk, List.drop_length, depthI]
/-- part of a slab: its bounds -/
theorem part_bd {l : List (Int × Int)} (h : ∀ p ∈ l, vOk p) {k : Nat} (hk : k < l.length) (d : Int) (h0 : 0 ≤ d) :
    0 ≤ min d (px l k) ∧ min d (px l k) ≤ d ∧ 0 ≤ min d (px l k) * py l k ∧ min d (px l k) * py l k ≤ 917 * min d (px l k) := by
  obtain ⟨a, b, c, e⟩ := vOk_at h hk
  have h1 : 0 ≤ min d (px l k) := by omega
  refine ⟨h1, by omega, Int.mul_nonneg h1 (by omega), ?_⟩
  have := Int.mul_le_mul_of_nonneg_left e h1
  omega

def okA (l : List (Int × Int)) (d : Int) : Bool := inB d 0 (thickR l)
def aboveV (l : List (Int × Int)) (d : Int) : Int := if okA l d then above l d else 0
def okD (l : List (Int × Int)) (m : Int) : Bool := inB m 0 (massR l)
def depthV (l : List (Int × Int)) (m : Int) : Int := if okD l m then depthI l m else 0
theorem okA_yes {l : List (Int × Int)} {d : Int} (h : okA l d = true) : vFirn l = true ∧ 0 ≤ d ∧ d ≤ thickOf l := by
  have := inB_true h
  unfold thickR at this
  split at this
  · rename_i hv; exact ⟨hv, this⟩
  · omega
theorem okA_mk {l : List (Int × Int)} {d : Int} (hv : vFirn l = true) (h0 : 0 ≤ d) (h1 : d ≤ thickOf l) : okA l d = true := inB_of h0 (by simp [thickR, hv, h1])
theorem okD_yes {l : List (Int × Int)} {d : Int} (h : okD l d = true) : vFirn l = true ∧ 0 ≤ d ∧ d ≤ massOf l := by
  have := inB_true h
  unfold massR at this
  split at this
  · rename_i hv; exact ⟨hv, this⟩
  · omega
theorem okD_mk {l : List (Int × Int)} {d : Int} (hv : vFirn l = true) (h0 : 0 ≤ d) (h1 : d ≤ massOf l) : okD l d = true := inB_of h0 (by simp [massR, hv, h1])
theorem all_bd {l : List (Int × Int)} (hv : vFirn l = true) : 0 ≤ thickOf l ∧ thickOf l ≤ 20000 ∧ 0 ≤ massOf l ∧ massOf l ≤ 18340000 := by
  have h := vFirn_ok hv
  have := sums_at h.1 h.2 l.length
  rwa [List.take_length] at this
theorem thickR_bd (l : List (Int × Int)) : -1 ≤ thickR l ∧ thickR l ≤ 20000 := by
  unfold thickR
  split
  · rename_i hv
    have := all_bd hv
    omega
  · omega
theorem massR_bd (l : List (Int × Int)) : -1 ≤ massR l ∧ massR l ≤ 18340000 := by
  unfold massR
  split
  · rename_i hv
    have := all_bd hv
    omega
  · omega
theorem depth_found {l : List (Int × Int)} {m : Int} (hv : vFirn l = true) (h0 : 0 ≤ m) (h1 : m ≤ massOf l) {j : Int} (hj : 0 ≤ j) (hj2 : j ≤ thickOf l) (h2 : m ≤ above l j) (h3 : ∀ i : Int, 0 ≤ i → i < j → above l i < m) : j = depthI l m :=
  depth_unique l m j _ ⟨hj, hj2, h2, h3⟩ (isDepth l (vFirn_ok hv).1 m h0 h1)
end Go.Proofs.Ytkomonjmbpljhaa
