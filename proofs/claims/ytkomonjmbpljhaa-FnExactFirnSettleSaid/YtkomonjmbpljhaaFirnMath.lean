/-
  Firn as plain lists: what the program's functions on slabs compute, with no program in sight.
-/
import Derived.Test.YtkomonjmbpljhaaWords
namespace Go.Proofs.Ytkomonjmbpljhaa

def vSlab (p : Int × Int) : Bool := inB p.1 1 1000 && inB p.2 1 917
def vFirn (l : List (Int × Int)) : Bool := l.all vSlab && decide (l.length ≤ 20)

theorem all_take_succ (l : List (Int × Int)) (k : Nat) (hk : k < l.length) (h : (l.take k).all vSlab = true) (h1 : inB (px l k) 1 1000 = true) (h2 : inB (py l k) 1 917 = true) : (l.take (k + 1)).all vSlab = true := by
  rw [px_eq hk] at h1
  rw [py_eq hk] at h2
  rw [List.take_succ_eq_append_getElem hk, List.all_append, h]
  simp [vSlab, h1, h2]
theorem vFirn_bad (l : List (Int × Int)) (k : Nat) (hk : k < l.length) (h : inB (px l k) 1 1000 = false ∨ inB (py l k) 1 917 = false) : vFirn l = false := by
  rw [px_eq hk, py_eq hk] at h
  have : l.all vSlab = false := by
    rw [List.all_eq_false]
    exact ⟨l[k], List.getElem_mem hk, by rcases h with h | h <;> simp [vSlab, h]⟩
  simp [vFirn, this]
theorem vFirn_end (l : List (Int × Int)) (n : Nat) (hn : l.length = n) (h : (l.take n).all vSlab = true) : vFirn l = decide ((n : Int) ≤ 20) := by
  subst hn
  rw [List.take_length] at h
  simp [vFirn, h]
  omega
def massOf (l : List (Int × Int)) : Int := (l.map fun p => p.1 * p.2).sum
def thickOf (l : List (Int × Int)) : Int := (l.map fun p => p.1).sum
def vOk (p : Int × Int) : Prop := 1 ≤ p.1 ∧ p.1 ≤ 1000 ∧ 1 ≤ p.2 ∧ p.2 ≤ 917
def above : List (Int × Int) → Int → Int
  | [], _ => 0
  | p :: r, d => min d p.1 * p.2 + above r (d - min d p.1)
def depthI : List (Int × Int) → Int → Int
  | [], _ => 0
  | p :: r, m => if m ≤ p.1 * p.2 then (m + p.2 - 1) / p.2 else p.1 + depthI r (m - p.1 * p.2)

theorem mass_bd (p : Int × Int) (h : vOk p) : p.1 ≤ p.1 * p.2 ∧ p.1 * p.2 ≤ p.1 * 917 ∧ p.1 * p.2 ≤ 917000 ∧ p.2 ≤ p.1 * p.2 := by
  obtain ⟨a, b, c, d⟩ := h
  refine ⟨?_, ?_, ?_, ?_⟩
  · have := Int.mul_le_mul_of_nonneg_left c (show 0 ≤ p.1 by omega); omega
  · exact Int.mul_le_mul_of_nonneg_left d (show 0 ≤ p.1 by omega)
  · have := Int.mul_le_mul b d (by omega) (by omega); omega
  · have := Int.mul_le_mul_of_nonneg_right a (show 0 ≤ p.2 by omega); omega

theorem above_zero (l : List (Int × Int)) (h : ∀ p ∈ l, vOk p) : above l 0 = 0 := by
  induction l with
  | nil => rfl
  | cons p r ih =>
    have hp := h p (by simp)
    have : min 0 p.1 = 0 := by unfold vOk at hp; omega
    rw [above, this]; simp [ih (fun q hq => h q (by simp [hq]))]

theorem above_nonneg (l : List (Int × Int)) (h : ∀ p ∈ l, vOk p) (d : Int) (hd : 0 ≤ d) : 0 ≤ above l d := by
  induction l generalizing d with
  | nil => simp [above]
  | cons p r ih =>
    have hp := h p (by simp)
    unfold vOk at hp
    have h1 := ih (fun q hq => h q (by simp [hq])) (d - min d p.1) (by omega)
    have h2 : 0 ≤ min d p.1 * p.2 := Int.mul_nonneg (by omega) (by omega)
    rw [above]; omega

theorem thick_nonneg (l : List (Int × Int)) (h : ∀ p ∈ l, vOk p) : (l.length : Int) ≤ thickOf l := by
  induction l with
  | nil => simp [thickOf]
  | cons p r ih =>
    have hp := h p (by simp)
    unfold vOk at hp
    have := ih (fun q hq => h q (by simp [hq]))
    simp only [thickOf, List.map_cons, List.sum_cons, List.length_cons] at *
    omega

theorem above_full (l : List (Int × Int)) (h : ∀ p ∈ l, vOk p) (d : Int) (hd : thickOf l ≤ d) : above l d = massOf l := by
  induction l generalizing d with
  | nil => simp [above, massOf]
  | cons p r ih =>
    have hp := h p (by simp)
    have hr : ∀ q ∈ r, vOk q := fun q hq => h q (by simp [hq])
    have ht := thick_nonneg r hr
    simp only [thickOf, List.map_cons, List.sum_cons] at hd ht
    have hm : min d p.1 = p.1 := by omega
    have := ih hr (d - p.1) (by simp only [thickOf]; omega)
    rw [above, hm, this]; simp [massOf]

/-- one step deeper -/
theorem above_succ (l : List (Int × Int)) (h : ∀ p ∈ l, vOk p) (d : Int) (hd : 0 ≤ d) (hd2 : d < thickOf l) : above l d + 1 ≤ above l (d + 1) ∧ above l (d + 1) ≤ above l d + 917 := by
  induction l generalizing d with
  | nil => simp [thickOf] at hd2; omega
  | cons p r ih =>
    have hp := h p (by simp)
    have hr : ∀ q ∈ r, vOk q := fun q hq => h q (by simp [hq])
    simp only [thickOf, List.map_cons, List.sum_cons] at hd2
    unfold vOk at hp
    simp only [above]
    by_cases hlt : d < p.1
    · rw [show min d p.1 = d by omega, show min (d + 1) p.1 = d + 1 by omega, show d - d = 0 by omega, show d + 1 - (d + 1) = 0 by omega, above_zero r hr, Int.add_mul]
      omega
    · rw [show min d p.1 = p.1 by omega, show min (d + 1) p.1 = p.1 by omega]
      have := ih hr (d - p.1) (by omega) (by simp only [thickOf]; omega)
      rw [show d + 1 - p.1 = d - p.1 + 1 by omega]
      omega

theorem above_mono (l : List (Int × Int)) (h : ∀ p ∈ l, vOk p) (d : Int) (hd : 0 ≤ d) (k : Nat) (hd2 : d + k ≤ thickOf l) : above l d + k ≤ above l (d + k) := by
  induction k with
  | zero => simp
  | succ k ih =>
    have h1 := ih (by omega)
    have h2 := above_succ l h (d + k) (by omega) (by omega)
    rw [show d + ((k + 1 : Nat) : Int) = d + k + 1 by omega]
    omega
theorem above_lt (l : List (Int × Int)) (h : ∀ p ∈ l, vOk p) (d e : Int) (hd : 0 ≤ d) (hde : d ≤ e) (he : e ≤ thickOf l) : above l d + (e - d) ≤ above l e := by
  have := above_mono l h d hd (e - d).toNat (by omega)
  rw [show d + ((e - d).toNat : Int) = e by omega] at this
  omega

def IsDepth (l : List (Int × Int)) (m d : Int) : Prop := 0 ≤ d ∧ d ≤ thickOf l ∧ m ≤ above l d ∧ ∀ j, 0 ≤ j → j < d → above l j < m

theorem depth_unique (l : List (Int × Int)) (m d e : Int) (h1 : IsDepth l m d) (h2 : IsDepth l m e) : d = e := by
  obtain ⟨a1, a2, a3, a4⟩ := h1
  obtain ⟨b1, b2, b3, b4⟩ := h2
  rcases Int.lt_trichotomy d e with h | h | h
  · have := b4 d a1 h; omega
  · exact h
  · have := a4 e b1 h; omega

theorem ceil_div (m b : Int) (hm : 0 ≤ m) (hb : 1 ≤ b) : m ≤ (m + b - 1) / b * b ∧ ((m + b - 1) / b - 1) * b < m ∧ 0 ≤ (m + b - 1) / b := by
  have h1 := Int.mul_ediv_add_emod (m + b - 1) b
  have h2 := Int.emod_nonneg (m + b - 1) (show b ≠ 0 by omega)
  have h3 := Int.emod_lt_of_pos (m + b - 1) (show 0 < b by omega)
  have h4 : 0 ≤ (m + b - 1) / b := Int.ediv_nonneg (by omega) (by omega)
  rw [Int.mul_comm] at h1
  refine ⟨by omega, ?_, h4⟩
  rw [Int.sub_mul]; omega

theorem isDepth (l : List (Int × Int)) (h : ∀ p ∈ l, vOk p) (m : Int) (hm : 0 ≤ m) (hm2 : m ≤ massOf l) : IsDepth l m (depthI l m) := by
  induction l generalizing m with
  | nil => simp [massOf] at hm2; exact ⟨by simp [depthI], by simp [depthI, thickOf], by simp [above]; omega, by simp [depthI]; omega⟩
  | cons p r ih =>
    have hp := h p (by simp)
    have hr : ∀ q ∈ r, vOk q := fun q hq => h q (by simp [hq])
    have hb := mass_bd p hp
    have ht := thick_nonneg r hr
    have hcons : thickOf (p :: r) = p.1 + thickOf r := by simp [thickOf]
    have hmc : massOf (p :: r) = p.1 * p.2 + massOf r := by simp [massOf]
    unfold vOk at hp
    unfold depthI
    split
    · rename_i hle
      obtain ⟨c1, c2, c3⟩ := ceil_div m p.2 hm hp.2.2.1
      generalize (m + p.2 - 1) / p.2 = q at *
      have hq : q ≤ p.1 := by
        rcases Int.lt_or_le p.1 q with hlt | hge
        · have := Int.mul_le_mul_of_nonneg_right (show p.1 ≤ q - 1 by omega) (show 0 ≤ p.2 by omega)
          omega
        · exact hge
      refine ⟨c3, by omega, ?_, ?_⟩
      · rw [above, show min q p.1 = q by omega, show q - q = 0 by omega, above_zero r hr]; omega
      · intro j hj0 hj
        rw [above, show min j p.1 = j by omega, show j - j = 0 by omega, above_zero r hr]
        have := Int.mul_le_mul_of_nonneg_right (show j ≤ q - 1 by omega) (show 0 ≤ p.2 by omega)
        omega
    · rename_i hgt
      obtain ⟨d1, d2, d3, d4⟩ := ih hr (m - p.1 * p.2) (by omega) (by omega)
      generalize depthI r (m - p.1 * p.2) = q at *
      refine ⟨by omega, by omega, ?_, ?_⟩
      · rw [above, show min (p.1 + q) p.1 = p.1 by omega, show p.1 + q - p.1 = q by omega]; omega
      · intro j hj0 hj
        rw [above]
        by_cases hjp : j < p.1
        · rw [show min j p.1 = j by omega, show j - j = 0 by omega, above_zero r hr]
          have := Int.mul_le_mul_of_nonneg_right (show j ≤ p.1 by omega) (show 0 ≤ p.2 by omega)
          omega
        · rw [show min j p.1 = p.1 by omega]
          have := d4 (j - p.1) (by omega) (by omega)
          omega

theorem vFirn_ok {l : List (Int × Int)} (h : vFirn l = true) : (∀ p ∈ l, vOk p) ∧ l.length ≤ 20 := by
  simp only [vFirn, Bool.and_eq_true, List.all_eq_true, decide_eq_true_iff] at h
  refine ⟨fun p hp => ?_, h.2⟩
  have := h.1 p hp
  simp only [vSlab, Bool.and_eq_true] at this
  exact ⟨(inB_true this.1).1, (inB_true this.1).2, (inB_true this.2).1, (inB_true this.2).2⟩
theorem vFirn_mk {l : List (Int × Int)} (h : ∀ p ∈ l, vOk p) (hl : l.length ≤ 20) : vFirn l = true := by
  simp only [vFirn, Bool.and_eq_true, List.all_eq_true, decide_eq_true_iff]
  refine ⟨fun p hp => ?_, hl⟩
  obtain ⟨a, b, c, d⟩ := h p hp
  simp [vSlab, inB_of a b, inB_of c d]
theorem vOk_at {l : List (Int × Int)} (h : ∀ p ∈ l, vOk p) {k : Nat} (hk : k < l.length) : 1 ≤ px l k ∧ px l k ≤ 1000 ∧ 1 ≤ py l k ∧ py l k ≤ 917 := by
  rw [px_eq hk, py_eq hk]
  exact h _ (List.getElem_mem hk)
theorem prod_at {l : List (Int × Int)} (h : ∀ p ∈ l, vOk p) {k : Nat} (hk : k < l.length) : px l k ≤ px l k * py l k ∧ px l k * py l k ≤ 917000 ∧ py l k ≤ px l k * py l k := by
  have := mass_bd _ (h _ (List.getElem_mem hk))
  rw [px_eq hk, py_eq hk]
  omega
theorem thick_app (l m : List (Int × Int)) : thickOf (l ++ m) = thickOf l + thickOf m := by simp [thickOf]
theorem mass_app (l m : List (Int × Int)) : massOf (l ++ m) = massOf l + massOf m := by simp [massOf]
theorem thick_take {l : List (Int × Int)} {k : Nat} (hk : k < l.length) : thickOf (l.take (k + 1)) = thickOf (l.take k) + px l k := by
  rw [List.take_succ_eq_append_getElem hk, px_eq hk, thick_app]
  congr 1
  simp [thickOf]
theorem mass_take {l : List (Int × Int)} {k : Nat} (hk : k < l.length) : massOf (l.take (k + 1)) = massOf (l.take k) + px l k * py l k := by
  rw [List.take_succ_eq_append_getElem hk, px_eq hk, py_eq hk, mass_app]
  congr 1
  simp [massOf]
theorem thick_bd (l : List (Int × Int)) (h : ∀ p ∈ l, vOk p) : 0 ≤ thickOf l ∧ thickOf l ≤ 1000 * l.length := by
  induction l with
  | nil => simp [thickOf]
  | cons p r ih =>
    have hp := h p (by simp)
    have := ih (fun q hq => h q (by simp [hq]))
    simp only [thickOf, List.map_cons, List.sum_cons, List.length_cons] at *
    unfold vOk at hp
    omega
theorem mass_sum_bd (l : List (Int × Int)) (h : ∀ p ∈ l, vOk p) : thickOf l ≤ massOf l ∧ massOf l ≤ 917 * thickOf l := by
  induction l with
  | nil => simp [thickOf, massOf]
  | cons p r ih =>
    have hp := mass_bd p (h p (by simp))
    have := ih (fun q hq => h q (by simp [hq]))
    simp only [thickOf, massOf, List.map_cons, List.sum_cons] at *
    omega
theorem take_ok {l : List (Int × Int)} (h : ∀ p ∈ l, vOk p) (k : Nat) : ∀ p ∈ l.take k, vOk p := fun p hp => h p (List.mem_of_mem_take hp)
theorem drop_ok {l : List (Int × Int)} (h : ∀ p ∈ l, vOk p) (k : Nat) : ∀ p ∈ l.drop k, vOk p := fun p hp => h p (List.mem_of_mem_drop hp)
theorem sums_at {l : List (Int × Int)} (h : ∀ p ∈ l, vOk p) (hl : l.length ≤ 20) (k : Nat) : 0 ≤ thickOf (l.take k) ∧ thickOf (l.take k) ≤ 20000 ∧ 0 ≤ massOf (l.take k) ∧ massOf (l.take k) ≤ 18340000 := by
  have h1 := thick_bd _ (take_ok h k)
  have h2 := mass_sum_bd _ (take_ok h k)
  have h3 := List.length_take_le k l
  have h4 := List.length_take_le' k l
  omega

def thickR (l : List (Int × Int)) : Int := if vFirn l then thickOf l else -1
def massR (l : List (Int × Int)) : Int := if vFirn l then massOf l else -1
/-- from place k on upwards: the first slab from which all down to k are dense -/
def solidAt (l : List (Int × Int)) (d : Int) : Nat → Nat
  | 0 => 0
  | k + 1 => if d ≤ py l k then solidAt l d k else k + 1
def solidR (l : List (Int × Int)) (d : Int) : Int := if vFirn l then (solidAt l d l.length : Int) else -1
end Go.Proofs.Ytkomonjmbpljhaa
