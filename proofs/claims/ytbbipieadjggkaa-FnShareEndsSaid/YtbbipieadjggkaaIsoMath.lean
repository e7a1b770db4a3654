/-
  Ratios, deltas and steps of waters as fractions, with no program in sight.
-/
import Derived.Test.YtbbipieadjggkaaFracMath
namespace Go.Proofs.Ytbbipieadjggkaa

theorem mul_lt_iff {a b c : Int} (hc : 0 < c) : a * c < b * c ↔ a < b :=
  ⟨fun h => Int.lt_of_mul_lt_mul_right h (Int.le_of_lt hc), fun h => Int.mul_lt_mul_of_pos_right h hc⟩
/-- which of two quotients is less, by their lowest terms -/
theorem less_of {x y x' y' N D N' D' : Int} (h : IsFrac x y N D) (h' : IsFrac x' y' N' D') (hy : 0 < y) (hy' : 0 < y') : N * D' < N' * D ↔ x * y' < x' * y := by
  have e1 := h.val
  have e2 := h'.val
  have hp : 0 < y * y' := Int.mul_pos hy hy'
  have hq : 0 < D * D' := Int.mul_pos h.pos h'.pos
  rw [← mul_lt_iff (a := N * D') hp, ← mul_lt_iff (a := x * y') hq]
  have f1 : N * D' * (y * y') = x * y' * (D * D') := by
    calc N * D' * (y * y') = (N * y) * (D' * y') := by simp only [Int.mul_left_comm, Int.mul_comm]
      _ = (x * D) * (D' * y') := by rw [e1]
      _ = x * y' * (D * D') := by simp only [Int.mul_left_comm, Int.mul_comm]
  have f2 : N' * D * (y * y') = x' * y * (D * D') := by
    calc N' * D * (y * y') = (N' * y') * (D * y) := by simp only [Int.mul_left_comm, Int.mul_comm]
      _ = (x' * D') * (D * y) := by rw [e2]
      _ = x' * y * (D * D') := by simp only [Int.mul_left_comm, Int.mul_comm]
  rw [f1, f2]
theorem eq_of {x y x' y' N D N' D' : Int} (h : IsFrac x y N D) (h' : IsFrac x' y' N' D') (hy : 0 < y) (hy' : 0 < y') : N * D' = N' * D ↔ x * y' = x' * y := by
  have a := less_of h h' hy hy'
  have b := less_of h' h hy' hy
  constructor
  · intro e
    rcases Int.lt_trichotomy (x * y') (x' * y) with g | g | g
    · have := a.2 g; omega
    · exact g
    · have := b.2 g; omega
  · intro e
    rcases Int.lt_trichotomy (N * D') (N' * D) with g | g | g
    · have := a.1 g; omega
    · exact g
    · have := b.1 g; omega
theorem sign_of {x y N D : Int} (h : IsFrac x y N D) (hy : 0 < y) : (N < 0 ↔ x < 0) ∧ (N = 0 ↔ x = 0) ∧ (0 ≤ N ↔ 0 ≤ x) := by
  have h0 : IsFrac 0 1 0 1 := ⟨by omega, by omega, by decide⟩
  have a := less_of h h0 hy (by omega)
  have b := eq_of h h0 hy (by omega)
  simp only [Int.mul_one, Int.zero_mul] at a b
  exact ⟨a, b, by omega⟩
theorem le_self_of {x y N D : Int} (hx : IsFrac x y N D) (hy : 0 < y) : D ≤ y ∧ -(max x (-x)) ≤ N ∧ N ≤ max x (-x) := by
  obtain ⟨e1, e2⟩ := hx.unique (by omega) (isFrac x y (by omega))
  have hg := gcd_pos' (a := x) (b := y) (by omega)
  have hD : D = y / (Int.gcd x y : Int) := by rw [e2, fD, if_neg (by omega)]
  have hN : N = x / (Int.gcd x y : Int) := by rw [e1, fN, if_neg (by omega)]
  have d1 : (Int.gcd x y : Int) ∣ x := Int.gcd_dvd_left ..
  have d2 : (Int.gcd x y : Int) ∣ y := Int.gcd_dvd_right ..
  obtain ⟨u, hu⟩ := d1
  obtain ⟨v, hv⟩ := d2
  have hu' : N = u := by
    rw [hN]
    conv => lhs; lhs; rw [hu]
    exact Int.mul_ediv_cancel_left _ (by omega)
  have hv' : D = v := by
    rw [hD]
    conv => lhs; lhs; rw [hv]
    exact Int.mul_ediv_cancel_left _ (by omega)
  generalize (Int.gcd x y : Int) = G at *
  have hDp := hx.pos
  refine ⟨?_, ?_, ?_⟩
  · have := Int.mul_le_mul_of_nonneg_right (show 1 ≤ G by omega) (show 0 ≤ v by omega)
    omega
  · rcases Int.le_total 0 u with h | h
    · omega
    · have := Int.mul_le_mul_of_nonpos_right (show 1 ≤ G by omega) h
      omega
  · rcases Int.le_total 0 u with h | h
    · have := Int.mul_le_mul_of_nonneg_right (show 1 ≤ G by omega) h
      omega
    · omega
theorem okF_small {x y : Int} (hy : 0 < y) (h1 : y ≤ 1000000000) (h2 : -1000000000 ≤ x) (h3 : x ≤ 1000000000) : okF x y = true := by
  have hf := isFrac x y (by omega)
  have hb := le_self_of hf hy
  rw [okF_iff (by omega) (lim_mk (by omega) (by omega)) (lim_mk (by omega) (by omega))]
  exact vF_mk (by have := hf.pos; omega) (by omega) (by omega) (by omega) hf.low

/-- WaterValid -/
def vW (a h : Int) : Bool := inB a 1 1000 && inB h 0 a
theorem vW_yes {a h : Int} (hv : vW a h = true) : 1 ≤ a ∧ a ≤ 1000 ∧ 0 ≤ h ∧ h ≤ a := by
  simp only [vW, Bool.and_eq_true] at hv
  have h1 := inB_true hv.1
  have h2 := inB_true hv.2
  omega
theorem ratio_ok {a h : Int} (hv : vW a h = true) : okF h a = true := by
  obtain ⟨h1, h2, h3, h4⟩ := vW_yes hv
  exact okF_small (by omega) (by omega) (by omega) (by omega)
theorem ratio_val {a h : Int} (hv : vW a h = true) : IsFrac h a (nF h a) (dF h a) ∧ vF (nF h a) (dF h a) = true ∧ 0 ≤ nF h a ∧ nF h a ≤ 1000 ∧ 1 ≤ dF h a ∧ dF h a ≤ 1000 := by
  obtain ⟨h1, h2, h3, h4⟩ := vW_yes hv
  obtain ⟨hf, hvf⟩ := okF_val (ratio_ok hv)
  have hb := le_self_of hf (by omega)
  have hs := sign_of hf (by omega)
  have hp := hf.pos
  exact ⟨hf, hvf, by omega, by omega, by omega, by omega⟩

theorem p3 {a b : Int} {A B : Int} (h0 : 0 ≤ a) (h1 : a ≤ A) (h2 : 0 ≤ b) (h3 : b ≤ B) : 0 ≤ a * b ∧ a * b ≤ A * B :=
  ⟨Int.mul_nonneg h0 h2, Int.mul_le_mul h1 h3 h2 (by omega)⟩
/-- the reference's way to a delta comes to the program's -/
theorem delta_spec {a h sn sd : Int} (hv : vW a h = true) (hs : vF sn sd = true) (h1 : 1 ≤ sn) :
    okF (1000 * (nF h a * sd - sn * dF h a)) (dF h a * sn) = okF (1000 * (h * sd - a * sn)) (a * sn) ∧ nF (1000 * (nF h a * sd - sn * dF h a)) (dF h a * sn) = nF (1000 * (h * sd - a * sn)) (a * sn) ∧ dF (1000 * (nF h a * sd - sn * dF h a)) (dF h a * sn) = dF (1000 * (h * sd - a * sn)) (a * sn) := by
  obtain ⟨a1, a2, a3, a4⟩ := vW_yes hv
  obtain ⟨s1, s2, s3, s4, _⟩ := vF_yes hs
  obtain ⟨hf, _, r1, r2, r3, r4⟩ := ratio_val hv
  have e := hf.val
  have q1 := p3 (A := 1000) (B := 1000000000) r1 r2 (show 0 ≤ sd by omega) s2
  have q2 := p3 (A := 1000000000) (B := 1000) (show 0 ≤ sn by omega) s4 (show 0 ≤ dF h a by omega) r4
  have q3 := p3 (A := 1000) (B := 1000000000) a3 (show h ≤ 1000 by omega) (show 0 ≤ sd by omega) s2
  have q4 := p3 (A := 1000) (B := 1000000000) (show 0 ≤ a by omega) a2 (show 0 ≤ sn by omega) s4
  have z1 : 0 < dF h a * sn := Int.mul_pos (by omega) (by omega)
  have z2 : 0 < a * sn := Int.mul_pos (by omega) (by omega)
  refine ofF_congr (by omega) (by omega) (lim_mk (by omega) (by omega)) (lim_mk (by rw [Int.mul_comm]; omega) (by rw [Int.mul_comm]; omega)) (lim_mk (by omega) (by omega)) (lim_mk (by omega) (by omega)) ?_
  generalize nF h a = rn at *
  generalize dF h a = rd at *
  have k1 : (rn * sd - sn * rd) * (a * sn) = (h * sd - a * sn) * (rd * sn) := by
    have : rn * sd * (a * sn) = h * sd * (rd * sn) := by
      calc rn * sd * (a * sn) = (rn * a) * (sd * sn) := by simp only [Int.mul_left_comm, Int.mul_comm]
        _ = (h * rd) * (sd * sn) := by rw [e]
        _ = h * sd * (rd * sn) := by simp only [Int.mul_left_comm, Int.mul_comm]
    have h2 : sn * rd * (a * sn) = a * sn * (rd * sn) := by simp only [Int.mul_left_comm, Int.mul_comm]
    rw [Int.sub_mul, Int.sub_mul, this, h2]
  rw [Int.mul_assoc, k1, ← Int.mul_assoc]
end Go.Proofs.Ytbbipieadjggkaa
