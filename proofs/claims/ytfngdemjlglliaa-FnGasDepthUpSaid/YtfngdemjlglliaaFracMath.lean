/-
  Fractions in lowest terms as pairs of integers, with no program in sight: what FracOf computes, and when two quotients are one.
-/
import Derived.Test.YtfngdemjlglliaaWords
namespace Go.Proofs.Ytfngdemjlglliaa

/-- N / D is a / b in lowest terms -/
structure IsFrac (a b N D : Int) : Prop where
  pos : 0 < D
  val : N * b = a * D
  low : Int.gcd N D = 1

theorem coprime_dvd {a b c : Int} (h : Int.gcd a b = 1) (hd : a ∣ b * c) : a ∣ c := by
  have h1 : Nat.Coprime a.natAbs b.natAbs := h
  have h2 : a.natAbs ∣ b.natAbs * c.natAbs := by
    rw [← Int.natAbs_mul]
    exact Int.natAbs_dvd_natAbs.2 hd
  exact Int.natAbs_dvd_natAbs.1 (h1.dvd_of_dvd_mul_left h2)

theorem low_unique {N D N' D' : Int} (hD : 0 < D) (hD' : 0 < D') (h : Int.gcd N D = 1) (h' : Int.gcd N' D' = 1) (e : N * D' = N' * D) : N = N' ∧ D = D' := by
  have h1 : D ∣ D' := coprime_dvd (a := D) (b := N) (by rw [Int.gcd_comm]; exact h) ⟨N', by rw [e, Int.mul_comm]⟩
  have h2 : D' ∣ D := coprime_dvd (a := D') (b := N') (by rw [Int.gcd_comm]; exact h') ⟨N, by rw [← e, Int.mul_comm]⟩
  have h3 : D = D' := Int.dvd_antisymm (by omega) (by omega) h1 h2
  subst h3
  exact ⟨Int.eq_of_mul_eq_mul_right (by omega) e, rfl⟩

theorem IsFrac.unique {a b N D N' D' : Int} (hb : b ≠ 0) (h : IsFrac a b N D) (h' : IsFrac a b N' D') : N = N' ∧ D = D' := by
  refine low_unique h.pos h'.pos h.low h'.low ?_
  have e1 := h.val
  have e2 := h'.val
  have : (N * D') * b = (N' * D) * b := by
    calc (N * D') * b = (N * b) * D' := by rw [Int.mul_assoc, Int.mul_comm D' b, ← Int.mul_assoc]
      _ = (a * D) * D' := by rw [e1]
      _ = (a * D') * D := by rw [Int.mul_assoc, Int.mul_comm D D', ← Int.mul_assoc]
      _ = (N' * b) * D := by rw [e2]
      _ = (N' * D) * b := by rw [Int.mul_assoc, Int.mul_comm b D, ← Int.mul_assoc]
  exact Int.eq_of_mul_eq_mul_right hb this

/-- one quotient by other numbers -/
theorem IsFrac.congr {a b a' b' N D : Int} (hb : b ≠ 0) (e : a * b' = a' * b) (h : IsFrac a b N D) : IsFrac a' b' N D := by
  refine ⟨h.pos, ?_, h.low⟩
  have e1 := h.val
  have : (N * b') * b = (a' * D) * b := by
    calc (N * b') * b = (N * b) * b' := by rw [Int.mul_assoc, Int.mul_comm b' b, ← Int.mul_assoc]
      _ = (a * D) * b' := by rw [e1]
      _ = (a * b') * D := by rw [Int.mul_assoc, Int.mul_comm D b', ← Int.mul_assoc]
      _ = (a' * b) * D := by rw [e]
      _ = (a' * D) * b := by rw [Int.mul_assoc, Int.mul_comm b D, ← Int.mul_assoc]
  exact Int.eq_of_mul_eq_mul_right hb this

/-- the numerator and the denominator in lowest terms -/
def fN (a b : Int) : Int := if b < 0 then -a / (Int.gcd a b : Int) else a / (Int.gcd a b : Int)
def fD (a b : Int) : Int := if b < 0 then -b / (Int.gcd a b : Int) else b / (Int.gcd a b : Int)

theorem gcd_pos' {a b : Int} (hb : b ≠ 0) : 0 < (Int.gcd a b : Int) := by
  have : 0 < Int.gcd a b := Int.gcd_pos_of_ne_zero_right _ hb
  omega
theorem isFrac (a b : Int) (hb : b ≠ 0) : IsFrac a b (fN a b) (fD a b) := by
  have hg := gcd_pos' (a := a) hb
  obtain ⟨x, hx⟩ := Int.gcd_dvd_left (a := a) (b := b)
  obtain ⟨y, hy⟩ := Int.gcd_dvd_right (a := a) (b := b)
  have hgne : (Int.gcd a b : Int) ≠ 0 := by omega
  have hq : Int.gcd x y = 1 := by
    have h1 : Int.gcd a b = Int.gcd ((Int.gcd a b : Int) * x) ((Int.gcd a b : Int) * y) := by rw [← hx, ← hy]
    rw [Int.gcd_mul_left] at h1
    simp only [Int.natAbs_natCast] at h1
    have h2 : 0 < Int.gcd a b := by omega
    exact Nat.eq_of_mul_eq_mul_left h2 (by omega)
  have hx' : a / (Int.gcd a b : Int) = x := by
    conv => lhs; lhs; rw [hx]
    exact Int.mul_ediv_cancel_left _ hgne
  have hy' : b / (Int.gcd a b : Int) = y := by
    conv => lhs; lhs; rw [hy]
    exact Int.mul_ediv_cancel_left _ hgne
  have hnx : -a / (Int.gcd a b : Int) = -x := by
    conv => lhs; lhs; rw [hx, ← Int.mul_neg]
    exact Int.mul_ediv_cancel_left _ hgne
  have hny : -b / (Int.gcd a b : Int) = -y := by
    conv => lhs; lhs; rw [hy, ← Int.mul_neg]
    exact Int.mul_ediv_cancel_left _ hgne
  have hval : x * b = a * y := by
    conv => lhs; rw [hy]
    conv => rhs; rw [hx]
    rw [← Int.mul_assoc, Int.mul_comm x, Int.mul_assoc]
  unfold fN fD
  by_cases hneg : b < 0
  · rw [if_pos hneg, if_pos hneg, hnx, hny]
    refine ⟨?_, by rw [Int.neg_mul, Int.mul_neg, hval], by rw [Int.gcd_neg, Int.neg_gcd]; exact hq⟩
    rcases Int.lt_trichotomy y 0 with h | h | h
    · omega
    · rw [h] at hy; simp at hy; omega
    · have := Int.mul_pos hg h; omega
  · rw [if_neg hneg, if_neg hneg, hx', hy']
    refine ⟨?_, hval, hq⟩
    rcases Int.lt_trichotomy y 0 with h | h | h
    · have := Int.mul_neg_of_pos_of_neg hg h; omega
    · rw [h] at hy; simp at hy; omega
    · omega

/-- FracValid -/
def vF (N D : Int) : Bool := decide (1 ≤ D ∧ D ≤ 1000000000 ∧ -1000000000 ≤ N ∧ N ≤ 1000000000 ∧ Int.gcd N D = 1)
def lim (x : Int) : Bool := decide (-4000000000000000000 ≤ x ∧ x ≤ 4000000000000000000)
/-- FracOf: whether it fits, its numerator and its denominator -/
def okF (a b : Int) : Bool := decide (b ≠ 0) && lim a && lim b && vF (fN a b) (fD a b)
def nF (a b : Int) : Int := if okF a b then fN a b else 0
def dF (a b : Int) : Int := if okF a b then fD a b else 0
theorem vF_yes {N D : Int} (h : vF N D = true) : 1 ≤ D ∧ D ≤ 1000000000 ∧ -1000000000 ≤ N ∧ N ≤ 1000000000 ∧ Int.gcd N D = 1 := of_decide_eq_true h
theorem vF_mk {N D : Int} (h1 : 1 ≤ D) (h2 : D ≤ 1000000000) (h3 : -1000000000 ≤ N) (h4 : N ≤ 1000000000) (h5 : Int.gcd N D = 1) : vF N D = true := decide_eq_true ⟨h1, h2, h3, h4, h5⟩
theorem lim_yes {x : Int} (h : lim x = true) : -4000000000000000000 ≤ x ∧ x ≤ 4000000000000000000 := of_decide_eq_true h
theorem lim_mk {x : Int} (h1 : -4000000000000000000 ≤ x) (h2 : x ≤ 4000000000000000000) : lim x = true := decide_eq_true ⟨h1, h2⟩
theorem okF_yes {a b : Int} (h : okF a b = true) : b ≠ 0 ∧ (-4000000000000000000 ≤ a ∧ a ≤ 4000000000000000000) ∧ (-4000000000000000000 ≤ b ∧ b ≤ 4000000000000000000) ∧ vF (fN a b) (fD a b) = true := by
  simp only [okF, Bool.and_eq_true, decide_eq_true_eq] at h
  exact ⟨h.1.1.1, lim_yes h.1.1.2, lim_yes h.1.2, h.2⟩
theorem okF_iff {a b : Int} (hb : b ≠ 0) (h1 : lim a = true) (h2 : lim b = true) : okF a b = vF (fN a b) (fD a b) := by simp [okF, hb, h1, h2]
/-- the value, where it fits -/
theorem okF_val {a b : Int} (h : okF a b = true) : IsFrac a b (nF a b) (dF a b) ∧ vF (nF a b) (dF a b) = true := by
  obtain ⟨hb, _, _, hv⟩ := okF_yes h
  unfold nF dF
  rw [if_pos h, if_pos h]
  exact ⟨isFrac a b hb, hv⟩
/-- one quotient by other numbers: the same answer -/
theorem ofF_congr {a b a' b' : Int} (hb : b ≠ 0) (hb' : b' ≠ 0) (h1 : lim a = true) (h2 : lim b = true) (h1' : lim a' = true) (h2' : lim b' = true) (e : a * b' = a' * b) : okF a b = okF a' b' ∧ nF a b = nF a' b' ∧ dF a b = dF a' b' := by
  have hf := (isFrac a b hb).congr hb e
  obtain ⟨e1, e2⟩ := hf.unique hb' (isFrac a' b' hb')
  have ho : okF a b = okF a' b' := by rw [okF_iff hb h1 h2, okF_iff hb' h1' h2', e1, e2]
  refine ⟨ho, ?_, ?_⟩
  · unfold nF; rw [ho, e1]
  · unfold dF; rw [ho, e2]
/-- a quotient that is a valid fraction already -/
theorem ofF_is {a b N D : Int} (hb : b ≠ 0) (h1 : lim a = true) (h2 : lim b = true) (hv : vF N D = true) (e : N * b = a * D) : okF a b = true ∧ nF a b = N ∧ dF a b = D := by
  obtain ⟨v1, v2, v3, v4, v5⟩ := vF_yes hv
  obtain ⟨e1, e2⟩ := (isFrac a b hb).unique hb ⟨by omega, e, v5⟩
  have ho : okF a b = true := by rw [okF_iff hb h1 h2, e1, e2]; exact hv
  unfold nF dF
  rw [if_pos ho, if_pos ho]
  exact ⟨ho, e1, e2⟩
/-- two valid fractions with one value are one -/
theorem vF_unique {N D N' D' : Int} (h : vF N D = true) (h' : vF N' D' = true) (e : N * D' = N' * D) : N = N' ∧ D = D' := by
  obtain ⟨v1, v2, v3, v4, v5⟩ := vF_yes h
  obtain ⟨u1, u2, u3, u4, u5⟩ := vF_yes h'
  exact low_unique (by omega) (by omega) v5 u5 e
/-- Go's way to the greatest common divisor -/
theorem gcd_step (a b : Int) : Int.gcd a b = Int.gcd b (a.tmod b) := by
  unfold Int.gcd
  rw [Int.natAbs_tmod, Nat.gcd_comm b.natAbs, ← Nat.gcd_rec, Nat.gcd_comm]
theorem tmod_less (a b : Int) (hb : b ≠ 0) : (a.tmod b).natAbs < b.natAbs := by
  rw [Int.natAbs_tmod]
  exact Nat.mod_lt _ (by omega)
end Go.Proofs.Ytfngdemjlglliaa
