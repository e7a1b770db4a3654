/-
  Curves as lists of pairs of integers: which are valid. No function of the program in sight.
-/
import Derived.Test.YtfngdemjlglliaaWords
namespace Go.Proofs.Ytfngdemjlglliaa

/-- the knot at place k is in range and rises from the one before -/
def vK (l : List (Int × Int)) (k : Nat) : Bool := inB (px l k) 0 30000 && inB (py l k) 0 30000 && (decide (k = 0) || (decide (px l (k - 1) < px l k) && decide (py l (k - 1) < py l k)))
/-- CurveValid -/
def vC (l : List (Int × Int)) : Bool := (List.range l.length).all (vK l) && inB (l.length : Int) 2 12
theorem vC_step {l : List (Int × Int)} {k : Nat} (h : (List.range k).all (vK l) = true) (hk : vK l k = true) : (List.range (k + 1)).all (vK l) = true := by
  rw [List.range_succ, List.all_append, h]
  simp [hk]
theorem vC_bad {l : List (Int × Int)} {k : Nat} (hk : k < l.length) (h : vK l k = false) : vC l = false := by
  have : (List.range l.length).all (vK l) = false := by
    rw [List.all_eq_false]
    exact ⟨k, List.mem_range.2 hk, by simp [h]⟩
  rw [vC, this]
  rfl
theorem vC_end {l : List (Int × Int)} {n : Nat} (hn : l.length = n) (h : (List.range n).all (vK l) = true) : vC l = inB (n : Int) 2 12 := by
  subst hn
  rw [vC, h]
  rfl
theorem vK_x {l : List (Int × Int)} {k : Nat} (h : inB (px l k) 0 30000 = false) : vK l k = false := by simp [vK, h]
theorem vK_y {l : List (Int × Int)} {k : Nat} (h : inB (py l k) 0 30000 = false) : vK l k = false := by simp [vK, h]
theorem vK_dx {l : List (Int × Int)} {k : Nat} (hk : 0 < k) (h : ¬ px l (k - 1) < px l k) : vK l k = false := by
  have h0 : ¬ k = 0 := by omega
  simp [vK, h, h0]
theorem vK_dy {l : List (Int × Int)} {k : Nat} (hk : 0 < k) (h : ¬ py l (k - 1) < py l k) : vK l k = false := by
  have h0 : ¬ k = 0 := by omega
  simp [vK, h, h0]
theorem vK_0 {l : List (Int × Int)} (hx : inB (px l 0) 0 30000 = true) (hy : inB (py l 0) 0 30000 = true) : vK l 0 = true := by simp [vK, hx, hy]
theorem vK_ok {l : List (Int × Int)} {k : Nat} (hx : inB (px l k) 0 30000 = true) (hy : inB (py l k) 0 30000 = true) (h1 : px l (k - 1) < px l k) (h2 : py l (k - 1) < py l k) : vK l k = true := by simp [vK, hx, hy, h1, h2]
theorem vC_yes {l : List (Int × Int)} (h : vC l = true) :
    (∀ k, k < l.length → 0 ≤ px l k ∧ px l k ≤ 30000 ∧ 0 ≤ py l k ∧ py l k ≤ 30000) ∧ (∀ k, 0 < k → k < l.length → px l (k - 1) < px l k ∧ py l (k - 1) < py l k) ∧ 2 ≤ l.length ∧ l.length ≤ 12 := by
  rw [vC, Bool.and_eq_true] at h
  have hb := inB_true h.2
  have hk : ∀ k, k < l.length → vK l k = true := fun k hk => List.all_eq_true.1 h.1 k (List.mem_range.2 hk)
  refine ⟨fun k h1 => ?_, fun k h0 h1 => ?_, by omega, by omega⟩
  · have := hk k h1
    simp only [vK, Bool.and_eq_true] at this
    have a := inB_true this.1.1
    have b := inB_true this.1.2
    omega
  · have := hk k h1
    simp only [vK, Bool.and_eq_true, Bool.or_eq_true, decide_eq_true_eq] at this
    rcases this.2 with h | h
    · omega
    · exact h
theorem vC_mk {l : List (Int × Int)} (h1 : ∀ k, k < l.length → 0 ≤ px l k ∧ px l k ≤ 30000 ∧ 0 ≤ py l k ∧ py l k ≤ 30000) (h2 : ∀ k, 0 < k → k < l.length → px l (k - 1) < px l k ∧ py l (k - 1) < py l k) (h3 : 2 ≤ l.length) (h4 : l.length ≤ 12) : vC l = true := by
  rw [vC, Bool.and_eq_true]
  refine ⟨List.all_eq_true.2 fun k hk => ?_, inB_of (by omega) (by omega)⟩
  have hk := List.mem_range.1 hk
  obtain ⟨a, b, c, d⟩ := h1 k hk
  rcases Nat.eq_zero_or_pos k with h0 | h0
  · subst h0
    exact vK_0 (inB_of a b) (inB_of c d)
  · obtain ⟨e, f⟩ := h2 k h0 hk
    exact vK_ok (inB_of a b) (inB_of c d) e f
theorem vC_mono {l : List (Int × Int)} (h : vC l = true) {i j : Nat} (hij : i < j) (hj : j < l.length) : px l i < px l j ∧ py l i < py l j := by
  obtain ⟨_, h2, _⟩ := vC_yes h
  induction j with
  | zero => omega
  | succ j ih =>
    have h3 := h2 (j + 1) (by omega) hj
    rw [Nat.add_sub_cancel] at h3
    by_cases e : i = j
    · subst e; exact h3
    · have := ih (by omega) (by omega)
      omega

/-- the last Y, or 0 -/
def lastY (l : List (Int × Int)) : Int := py l (l.length - 1)
/-- GasCurve: what the first k knots leave -/
def gasP (l : List (Int × Int)) (g : Nat → Int) : Nat → List (Int × Int)
  | 0 => []
  | k + 1 => if 0 ≤ py l k - g k ∧ (gasP l g k = [] ∨ lastY (gasP l g k) < py l k - g k) then gasP l g k ++ [(px l k, py l k - g k)] else gasP l g k
theorem gasP_len (l : List (Int × Int)) (g : Nat → Int) (k : Nat) : (gasP l g k).length ≤ k := by
  induction k with
  | zero => simp [gasP]
  | succ k ih =>
    rw [gasP]
    split
    · simp; omega
    · omega
theorem gasP_yes {l : List (Int × Int)} {g : Nat → Int} {k : Nat} (h0 : 0 ≤ py l k - g k) (h1 : gasP l g k = [] ∨ lastY (gasP l g k) < py l k - g k) : gasP l g (k + 1) = gasP l g k ++ [(px l k, py l k - g k)] := by
  rw [gasP, if_pos ⟨h0, h1⟩]
theorem gasP_no {l : List (Int × Int)} {g : Nat → Int} {k : Nat} (h : ¬ 0 ≤ py l k - g k ∨ (gasP l g k ≠ [] ∧ ¬ lastY (gasP l g k) < py l k - g k)) : gasP l g (k + 1) = gasP l g k := by
  rw [gasP, if_neg]
  rintro ⟨h0, h1⟩
  rcases h with h | ⟨h2, h3⟩
  · exact h h0
  · rcases h1 with h1 | h1
    · exact h2 h1
    · exact h3 h1
/-- the lags are in range -/
def lagB (x : Int) : Bool := inB x 0 10000
def lagAll (g : Nat → Int) (n : Nat) : Bool := (List.range n).all fun i => lagB (g i)
theorem lag_step {g : Nat → Int} {k : Nat} (h : lagAll g k = true) (hk : lagB (g k) = true) : lagAll g (k + 1) = true := by
  rw [lagAll, List.range_succ, List.all_append]
  rw [lagAll] at h
  simp [h, hk]
theorem lag_bad {g : Nat → Int} {k n : Nat} (hk : k < n) (h : lagB (g k) = false) : lagAll g n = false := by
  rw [lagAll, List.all_eq_false]
  exact ⟨k, List.mem_range.2 hk, by simp [h]⟩
theorem lag_yes {g : Nat → Int} {n : Nat} (h : lagAll g n = true) {k : Nat} (hk : k < n) : 0 ≤ g k ∧ g k ≤ 10000 := inB_true (List.all_eq_true.1 h k (List.mem_range.2 hk))
/-- GasCurve over the curve l and m lags -/
def okG (l : List (Int × Int)) (m : Nat) (g : Nat → Int) : Bool := vC l && decide (m = l.length) && lagAll g l.length && vC (gasP l g l.length)
def gV (l : List (Int × Int)) (m : Nat) (g : Nat → Int) : List (Int × Int) := if okG l m g then gasP l g l.length else []
theorem okG_curve {l : List (Int × Int)} {m : Nat} {g : Nat → Int} (h : vC l = false) : okG l m g = false := by simp [okG, h]
theorem okG_len {l : List (Int × Int)} {m : Nat} {g : Nat → Int} (h : m ≠ l.length) : okG l m g = false := by simp [okG, h]
theorem okG_lag {l : List (Int × Int)} {m : Nat} {g : Nat → Int} (h : lagAll g l.length = false) : okG l m g = false := by simp [okG, h]
theorem okG_out {l : List (Int × Int)} {m : Nat} {g : Nat → Int} (h : vC (gasP l g l.length) = false) : okG l m g = false := by simp [okG, h]
theorem okG_mk {l : List (Int × Int)} {m : Nat} {g : Nat → Int} (h1 : vC l = true) (h2 : m = l.length) (h3 : lagAll g l.length = true) (h4 : vC (gasP l g l.length) = true) : okG l m g = true := by simp [okG, h1, h2, h3, h4]
theorem okG_yes {l : List (Int × Int)} {m : Nat} {g : Nat → Int} (h : okG l m g = true) : vC l = true ∧ m = l.length ∧ lagAll g l.length = true ∧ vC (gasP l g l.length) = true := by
  simp only [okG, Bool.and_eq_true, decide_eq_true_eq] at h
  exact ⟨h.1.1.1, h.1.1.2, h.1.2, h.2⟩
theorem gV_no {l : List (Int × Int)} {m : Nat} {g : Nat → Int} (h : okG l m g = false) : gV l m g = [] := by rw [gV, h]; rfl
theorem gV_yes {l : List (Int × Int)} {m : Nat} {g : Nat → Int} (h : okG l m g = true) : gV l m g = gasP l g l.length := by rw [gV, if_pos h]
theorem gV_len {l : List (Int × Int)} {m : Nat} {g : Nat → Int} : (gV l m g).length ≤ 12 := by
  rcases Bool.eq_false_or_eq_true (okG l m g) with h | h
  · rw [gV_yes h]
    exact (vC_yes (okG_yes h).2.2.2).2.2.2
  · rw [gV_no h]; simp
end Go.Proofs.Ytfngdemjlglliaa
