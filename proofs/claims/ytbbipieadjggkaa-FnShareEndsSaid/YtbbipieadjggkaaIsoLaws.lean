/-
  Laws of deltas, of steps and of shares as fractions. No function of the program in sight.
-/
import Derived.Test.YtbbipieadjggkaaIsoMath
import Derived.Test.YtbbipieadjggkaaFracOpsWords
namespace Go.Proofs.Ytbbipieadjggkaa

theorem less_val {x y x' y' N D N' D' : Int} (h : IsFrac x y N D) (h' : IsFrac x' y' N' D') (hv : vF N D = true) (hv' : vF N' D' = true) (hy : 0 < y) (hy' : 0 < y') : lessF N D N' D' = decide (x * y' < x' * y) := by
  have := less_of h h' hy hy'
  simp [lessF, two, hv, hv', this]
theorem vF_self {N D : Int} (hv : vF N D = true) : IsFrac N D N D := by
  obtain ⟨v1, _, _, _, v5⟩ := vF_yes hv
  exact ⟨by omega, rfl, v5⟩
theorem vF_whole {n : Int} (h0 : -1000000000 ≤ n) (h1 : n ≤ 1000000000) : vF n 1 = true := vF_mk (by omega) (by omega) h0 h1 (by simp)
theorem of_self {N D : Int} (hv : vF N D = true) : okF N D = true ∧ nF N D = N ∧ dF N D = D := by
  obtain ⟨v1, v2, v3, v4, v5⟩ := vF_yes hv
  exact ofF_is (by omega) (lim_mk (by omega) (by omega)) (lim_mk (by omega) (by omega)) hv rfl

/-- the facts of a delta: it is 0 for the standard, negative below it, and at least -1000 -/
theorem delta_facts {a h sn sd : Int} (hv : vW a h = true) (hs : vF sn sd = true) (h1 : 1 ≤ sn) (ho : okF (1000 * (h * sd - a * sn)) (a * sn) = true) :
    (nF (1000 * (h * sd - a * sn)) (a * sn) = 0 ↔ nF h a = sn ∧ dF h a = sd) ∧ lessF (nF h a) (dF h a) sn sd = decide (nF (1000 * (h * sd - a * sn)) (a * sn) < 0) ∧ lessF (nF (1000 * (h * sd - a * sn)) (a * sn)) (dF (1000 * (h * sd - a * sn)) (a * sn)) (-1000) 1 = false := by
  obtain ⟨a1, a2, a3, a4⟩ := vW_yes hv
  obtain ⟨s1, s2, s3, s4, _⟩ := vF_yes hs
  have hY : 0 < a * sn := Int.mul_pos (by omega) (by omega)
  obtain ⟨hf, hfv⟩ := okF_val ho
  obtain ⟨hr, hrv, _⟩ := ratio_val hv
  have hS := vF_self hs
  obtain ⟨g1, g2, _⟩ := sign_of hf hY
  refine ⟨?_, ?_, ?_⟩
  · rw [g2]
    have he := eq_of hr hS (by omega) (by omega)
    constructor
    · intro e
      exact vF_unique hrv hs (he.2 (by rw [Int.mul_comm sn a]; omega))
    · rintro ⟨e1, e2⟩
      have := he.1 (by rw [e1, e2])
      rw [Int.mul_comm sn a] at this
      omega
  · rw [less_val hr hS hrv hs (by omega) (by omega), decide_eq_decide, g1, Int.mul_comm sn a]
    omega
  · rw [less_val hf (vF_self (vF_whole (n := -1000) (by omega) (by omega))) hfv (vF_whole (by omega) (by omega)) hY (by omega), decide_eq_false_iff_not]
    have : 0 ≤ h * sd := Int.mul_nonneg (by omega) (by omega)
    omega
theorem delta_more {a h sn sd : Int} (hv : vW a h = true) (hs : vF sn sd = true) (h1 : 1 ≤ sn) (ho : okF (1000 * (h * sd - a * sn)) (a * sn) = true) (ho' : okF (1000 * ((h + 1) * sd - a * sn)) (a * sn) = true) :
    lessF (nF (1000 * (h * sd - a * sn)) (a * sn)) (dF (1000 * (h * sd - a * sn)) (a * sn)) (nF (1000 * ((h + 1) * sd - a * sn)) (a * sn)) (dF (1000 * ((h + 1) * sd - a * sn)) (a * sn)) = true := by
  obtain ⟨a1, a2, a3, a4⟩ := vW_yes hv
  obtain ⟨s1, s2, s3, s4, _⟩ := vF_yes hs
  have hY : 0 < a * sn := Int.mul_pos (by omega) (by omega)
  obtain ⟨hf, hfv⟩ := okF_val ho
  obtain ⟨hf', hfv'⟩ := okF_val ho'
  rw [less_val hf hf' hfv hfv' hY hY, decide_eq_true_iff]
  refine Int.mul_lt_mul_of_pos_right ?_ hY
  rw [Int.add_mul]
  omega
/-- a greater standard: t1 / t2 is sn / sd and 1 -/
theorem delta_standard {a h sn sd t1 t2 : Int} (hv : vW a h = true) (hs : vF sn sd = true) (h1 : 1 ≤ sn) (ho : okF (1000 * (h * sd - a * sn)) (a * sn) = true)
    (ht : IsFrac (sn * 1 + 1 * sd) (sd * 1) t1 t2) (h2 : 1 ≤ t1) (ho' : okF (1000 * (h * t2 - a * t1)) (a * t1) = true) :
    (h = 0 → nF (1000 * (h * t2 - a * t1)) (a * t1) = -1000 ∧ dF (1000 * (h * t2 - a * t1)) (a * t1) = 1) ∧
    (h ≠ 0 → lessF (nF (1000 * (h * t2 - a * t1)) (a * t1)) (dF (1000 * (h * t2 - a * t1)) (a * t1)) (nF (1000 * (h * sd - a * sn)) (a * sn)) (dF (1000 * (h * sd - a * sn)) (a * sn)) = true) := by
  obtain ⟨a1, a2, a3, a4⟩ := vW_yes hv
  obtain ⟨s1, s2, s3, s4, _⟩ := vF_yes hs
  have hY : 0 < a * sn := Int.mul_pos (by omega) (by omega)
  have hY' : 0 < a * t1 := Int.mul_pos (by omega) (by omega)
  obtain ⟨hf, hfv⟩ := okF_val ho
  obtain ⟨hf', hfv'⟩ := okF_val ho'
  constructor
  · intro h0
    exact vF_unique hfv' (vF_whole (by omega) (by omega)) ((eq_of hf' (vF_self (vF_whole (n := -1000) (by omega) (by omega))) hY' (by omega)).2 (by rw [h0]; omega))
  · intro h0
    rw [less_val hf' hf hfv' hfv hY' hY, decide_eq_true_iff]
    have hp := ht.pos
    have e := ht.val
    have k1 : 0 < h * a * (sd * t2) := Int.mul_pos (Int.mul_pos (by omega) (by omega)) (Int.mul_pos (by omega) hp)
    have k2 : h * a * (t1 * sd) = h * a * (sn * t2) + h * a * (sd * t2) := by
      rw [← Int.mul_add, ← Int.add_mul]
      congr 1
      simpa using e
    have l : (h * t2 - a * t1) * (a * sn) = h * a * (sn * t2) - a * t1 * (a * sn) := by
      rw [Int.sub_mul]
      congr 1
      simp only [Int.mul_left_comm, Int.mul_comm]
    have r : (h * sd - a * sn) * (a * t1) = h * a * (t1 * sd) - a * t1 * (a * sn) := by
      rw [Int.sub_mul]
      congr 1 <;> simp only [Int.mul_left_comm, Int.mul_comm]
    rw [Int.mul_assoc, Int.mul_assoc, l, r]
    omega
/-- a delta tells the ratio -/
theorem delta_back {a h sn sd x1 x2 y1 y2 z1 z2 : Int} (hv : vW a h = true) (hs : vF sn sd = true) (h1 : 1 ≤ sn) (ho : okF (1000 * (h * sd - a * sn)) (a * sn) = true)
    (hx : IsFrac (nF (1000 * (h * sd - a * sn)) (a * sn) * 1) (dF (1000 * (h * sd - a * sn)) (a * sn) * 1000) x1 x2) (hy : IsFrac (x1 * 1 + 1 * x2) (x2 * 1) y1 y2) (hz : IsFrac (y1 * sn) (y2 * sd) z1 z2) :
    z1 = nF h a ∧ z2 = dF h a := by
  obtain ⟨a1, a2, a3, a4⟩ := vW_yes hv
  obtain ⟨s1, s2, s3, s4, _⟩ := vF_yes hs
  have hY : 0 < a * sn := Int.mul_pos (by omega) (by omega)
  obtain ⟨hf, hfv⟩ := okF_val ho
  have hfp := hf.pos
  have e := hf.val
  generalize nF (1000 * (h * sd - a * sn)) (a * sn) = N at *
  generalize dF (1000 * (h * sd - a * sn)) (a * sn) = D at *
  have k1 : IsFrac (h * sd - a * sn) (a * sn) x1 x2 := hx.congr (by omega) (by
    rw [Int.mul_one, e, Int.mul_comm D 1000, ← Int.mul_assoc, Int.mul_comm (h * sd - a * sn) 1000])
  have e1 := k1.val
  have k2 : IsFrac (h * sd) (a * sn) y1 y2 := hy.congr (by have := k1.pos; omega) (by
    rw [Int.mul_one, Int.one_mul, Int.mul_one, Int.add_mul, e1, Int.sub_mul, Int.mul_comm x2]
    omega)
  have e2 := k2.val
  have k3 : IsFrac h a z1 z2 := hz.congr (by have := Int.mul_pos k2.pos (show 0 < sd by omega); omega) (by
    rw [Int.mul_assoc, Int.mul_comm sn a, e2]
    simp only [Int.mul_left_comm, Int.mul_comm])
  exact k3.unique (by omega) (ratio_val hv).1

/-- k steps: whether all fit, and what they come to -/
def stp (rn rd fn fd : Int) : Nat → Bool × Int × Int
  | 0 => (true, rn, rd)
  | k + 1 => ((stp rn rd fn fd k).1 && okF ((stp rn rd fn fd k).2.1 * fn) ((stp rn rd fn fd k).2.2 * fd), nF ((stp rn rd fn fd k).2.1 * fn) ((stp rn rd fn fd k).2.2 * fd), dF ((stp rn rd fn fd k).2.1 * fn) ((stp rn rd fn fd k).2.2 * fd))
def stO (rn rd fn fd : Int) (k : Nat) : Bool := (stp rn rd fn fd k).1
def stN (rn rd fn fd : Int) (k : Nat) : Int := (stp rn rd fn fd k).2.1
def stD (rn rd fn fd : Int) (k : Nat) : Int := (stp rn rd fn fd k).2.2
section
variable {rn rd fn fd : Int} {k : Nat}
theorem stO_zero : stO rn rd fn fd 0 = true := rfl
theorem stN_zero : stN rn rd fn fd 0 = rn := rfl
theorem stD_zero : stD rn rd fn fd 0 = rd := rfl
theorem stO_succ : stO rn rd fn fd (k + 1) = (stO rn rd fn fd k && okF (stN rn rd fn fd k * fn) (stD rn rd fn fd k * fd)) := rfl
theorem stN_succ : stN rn rd fn fd (k + 1) = nF (stN rn rd fn fd k * fn) (stD rn rd fn fd k * fd) := rfl
theorem stD_succ : stD rn rd fn fd (k + 1) = dF (stN rn rd fn fd k * fn) (stD rn rd fn fd k * fd) := rfl
theorem stO_pred (h : stO rn rd fn fd (k + 1) = true) : stO rn rd fn fd k = true ∧ okF (stN rn rd fn fd k * fn) (stD rn rd fn fd k * fd) = true := by
  rwa [stO_succ, Bool.and_eq_true] at h
theorem stO_le {j : Nat} (h : stO rn rd fn fd k = true) (hj : j ≤ k) : stO rn rd fn fd j = true := by
  induction k with
  | zero => rwa [show j = 0 by omega]
  | succ k ih =>
    by_cases e : j = k + 1
    · rwa [e]
    · exact ih (stO_pred h).1 (by omega)
theorem stO_not {j : Nat} (h : stO rn rd fn fd j = false) (hj : j ≤ k) : stO rn rd fn fd k = false := by
  rcases Bool.eq_false_or_eq_true (stO rn rd fn fd k) with hk | hk
  · rw [stO_le hk hj] at h; cases h
  · exact hk
theorem st_vF (hr : vF rn rd = true) (h : stO rn rd fn fd k = true) : vF (stN rn rd fn fd k) (stD rn rd fn fd k) = true := by
  cases k with
  | zero => exact hr
  | succ k => exact (okF_val (stO_pred h).2).2
theorem st_add (k j : Nat) : stO rn rd fn fd (k + j) = (stO rn rd fn fd k && stO (stN rn rd fn fd k) (stD rn rd fn fd k) fn fd j) ∧ stN rn rd fn fd (k + j) = stN (stN rn rd fn fd k) (stD rn rd fn fd k) fn fd j ∧ stD rn rd fn fd (k + j) = stD (stN rn rd fn fd k) (stD rn rd fn fd k) fn fd j := by
  induction j with
  | zero => exact ⟨by rw [stO_zero, Bool.and_true, Nat.add_zero], rfl, rfl⟩
  | succ j ih =>
    obtain ⟨i1, i2, i3⟩ := ih
    rw [← Nat.add_assoc, stO_succ, stN_succ, stD_succ, stO_succ, stN_succ, stD_succ, i1, i2, i3]
    exact ⟨by rw [Bool.and_assoc], rfl, rfl⟩
end
theorem st_one {rn rd : Int} (hr : vF rn rd = true) (k : Nat) : stO rn rd 1 1 k = true ∧ stN rn rd 1 1 k = rn ∧ stD rn rd 1 1 k = rd := by
  induction k with
  | zero => exact ⟨rfl, rfl, rfl⟩
  | succ k ih =>
    obtain ⟨i1, i2, i3⟩ := ih
    rw [stO_succ, stN_succ, stD_succ, i1, i2, i3, Int.mul_one, Int.mul_one, Bool.true_and]
    exact of_self hr
theorem st_nil {rn rd : Int} (hr : vF rn rd = true) (k : Nat) : stO rn rd 0 1 (k + 1) = true ∧ stN rn rd 0 1 (k + 1) = 0 ∧ stD rn rd 0 1 (k + 1) = 1 := by
  have h0 : ∀ a b : Int, vF a b = true → okF (a * 0) (b * 1) = true ∧ nF (a * 0) (b * 1) = 0 ∧ dF (a * 0) (b * 1) = 1 := fun a b hv => by
    obtain ⟨v1, v2, v3, v4, v5⟩ := vF_yes hv
    exact ofF_is (by omega) (lim_mk (by omega) (by omega)) (lim_mk (by omega) (by omega)) (by decide) (by omega)
  induction k with
  | zero =>
    rw [stO_succ, stN_succ, stD_succ, stO_zero, stN_zero, stD_zero, Bool.true_and]
    exact h0 _ _ hr
  | succ k ih =>
    obtain ⟨i1, i2, i3⟩ := ih
    rw [stO_succ (k := k + 1), stN_succ (k := k + 1), stD_succ (k := k + 1), i1, i2, i3, Bool.true_and]
    exact h0 _ _ (by decide)
theorem pr_bd {a b : Int} (h1 : -1000000000 ≤ a) (h2 : a ≤ 1000000000) (h3 : -1000000000 ≤ b) (h4 : b ≤ 1000000000) : lim (a * b) = true := by
  obtain ⟨g1, g2⟩ := prod_bd h1 h2 h3 h4
  exact lim_mk (by omega) (by omega)
/-- steps are undone -/
theorem st_back {rn rd fn fd gn gd : Int} (hr : vF rn rd = true) (hf : vF fn fd = true) (hg : vF gn gd = true) (hgf : IsFrac (1 * fd) (1 * fn) gn gd) {n : Nat} (ho : stO rn rd fn fd n = true) (j : Nat) (hj : j ≤ n) :
    stO (stN rn rd fn fd n) (stD rn rd fn fd n) gn gd j = true ∧ stN (stN rn rd fn fd n) (stD rn rd fn fd n) gn gd j = stN rn rd fn fd (n - j) ∧ stD (stN rn rd fn fd n) (stD rn rd fn fd n) gn gd j = stD rn rd fn fd (n - j) := by
  induction j with
  | zero => exact ⟨rfl, rfl, rfl⟩
  | succ j ih =>
    obtain ⟨i1, i2, i3⟩ := ih (by omega)
    obtain ⟨k, hk, hk'⟩ : ∃ k, n - j = k + 1 ∧ n - (j + 1) = k := ⟨n - (j + 1), by omega, rfl⟩
    rw [stO_succ, stN_succ, stD_succ, i1, i2, i3, hk, hk', Bool.true_and]
    have hok := stO_le ho (show k + 1 ≤ n by omega)
    have hvk := st_vF hr (stO_le ho (show k ≤ n by omega))
    have hvk1 := st_vF hr hok
    obtain ⟨u1, u2, u3, u4, _⟩ := vF_yes hvk1
    obtain ⟨g1, g2, g3, g4, _⟩ := vF_yes hg
    obtain ⟨f1, f2, f3, f4, _⟩ := vF_yes hf
    have e1 := (okF_val (stO_pred hok).2).1.val
    rw [← stN_succ, ← stD_succ] at e1
    have e2 := hgf.val
    generalize stN rn rd fn fd (k + 1) = P at *
    generalize stD rn rd fn fd (k + 1) = Q at *
    generalize stN rn rd fn fd k = S at *
    generalize stD rn rd fn fd k = T at *
    have hq : 0 < Q * gd := Int.mul_pos (by omega) (by omega)
    refine ofF_is (by omega) (pr_bd (by omega) (by omega) (by omega) (by omega)) (pr_bd (by omega) (by omega) (by omega) (by omega)) hvk ?_
    rw [Int.one_mul, Int.one_mul] at e2
    have : S * (Q * gd) * fd = P * gn * T * fd := by
      calc S * (Q * gd) * fd = S * Q * (fd * gd) := by simp only [Int.mul_left_comm, Int.mul_comm]
        _ = S * Q * (gn * fn) := by rw [e2]
        _ = S * fn * Q * gn := by simp only [Int.mul_left_comm, Int.mul_comm]
        _ = P * (T * fd) * gn := by rw [e1]
        _ = P * gn * T * fd := by simp only [Int.mul_left_comm, Int.mul_comm]
    exact Int.eq_of_mul_eq_mul_right (by omega) this
end Go.Proofs.Ytbbipieadjggkaa
