/-
  The value of a curve at a fraction, as pairs of integers: which knots it lies between, what both chains of operations give. No function of the program in sight.
-/
import Derived.Test.YtfngdemjlglliaaCurveMath
import Derived.Test.YtfngdemjlglliaaFracMath
namespace Go.Proofs.Ytfngdemjlglliaa

/-- N / D lies within the curve l -/
def inC (l : List (Int × Int)) (N D : Int) : Bool := decide (px l 0 * D ≤ N ∧ N ≤ px l (l.length - 1) * D)
/-- N / D lies on the line that ends at knot k, and on none before -/
structure IsSeg (l : List (Int × Int)) (N D : Int) (k : Nat) : Prop where
  pos : 1 ≤ k
  lt : k < l.length
  low : px l 0 * D ≤ N
  past : ∀ j, 1 ≤ j → j < k → px l j * D < N
  top : N ≤ px l k * D
def segK (l : List (Int × Int)) (N D : Int) : Nat := ((List.range l.length).find? fun k => decide (1 ≤ k) && decide (N ≤ px l k * D)).getD 0
theorem IsSeg.eq {l : List (Int × Int)} {N D : Int} {k : Nat} (h : IsSeg l N D k) : segK l N D = k := by
  have : (List.range l.length).find? (fun k => decide (1 ≤ k) && decide (N ≤ px l k * D)) = some k := by
    rw [List.find?_range_eq_some]
    refine ⟨by simp [h.pos, h.top], List.mem_range.2 h.lt, fun j hj => ?_⟩
    rcases Nat.eq_zero_or_pos j with e | e
    · simp [e]
    · have := h.past j e hj
      simp
      omega
  rw [segK, this]
  rfl
theorem seg_exists {l : List (Int × Int)} {N D : Int} (h : inC l N D = true) (hl : 2 ≤ l.length) : ∃ k, IsSeg l N D k := by
  have hi := of_decide_eq_true h
  have key : ∀ m, m < l.length → 1 ≤ m → N ≤ px l m * D → ∃ k, IsSeg l N D k := by
    intro m
    induction m with
    | zero => intro _ h1; omega
    | succ m ih =>
      intro hm _ ht
      by_cases hp : ∀ j, 1 ≤ j → j < m + 1 → px l j * D < N
      · exact ⟨m + 1, by omega, hm, hi.1, hp, ht⟩
      · have : 1 ≤ m ∧ N ≤ px l m * D ∨ ∃ j, 1 ≤ j ∧ j < m ∧ N ≤ px l j * D := by
          by_cases c : 1 ≤ m ∧ N ≤ px l m * D
          · exact .inl c
          · right
            refine Classical.byContradiction fun hn => hp fun j h1 h2 => ?_
            by_cases e : j = m
            · subst e
              omega
            · by_cases q : N ≤ px l j * D
              · exact absurd ⟨j, h1, by omega, q⟩ hn
              · omega
        rcases this with ⟨h1, h2⟩ | ⟨j, h1, h2, h3⟩
        · exact ih (by omega) h1 h2
        · -- a knot before m
          have low : ∀ j, j < l.length → 1 ≤ j → N ≤ px l j * D → ∃ k, IsSeg l N D k := by
            intro j
            induction j using Nat.strongRecOn with
            | ind j ihj =>
              intro hj h1 ht
              by_cases hp : ∀ i, 1 ≤ i → i < j → px l i * D < N
              · exact ⟨j, h1, hj, hi.1, hp, ht⟩
              · have : ∃ i, 1 ≤ i ∧ i < j ∧ N ≤ px l i * D := Classical.byContradiction fun hn => hp fun i a b => by
                  by_cases q : N ≤ px l i * D
                  · exact absurd ⟨i, a, b, q⟩ hn
                  · omega
                obtain ⟨i, a, b, c⟩ := this
                exact ihj i b (by omega) a c
          exact low j (by omega) h1 h3
  exact key (l.length - 1) (by omega) (by omega) hi.2
theorem IsSeg.ins {l : List (Int × Int)} {N D : Int} {k : Nat} (h : IsSeg l N D k) (hv : vC l = true) (hD : 0 < D) : inC l N D = true := by
  refine decide_eq_true ⟨h.low, ?_⟩
  have hk := h.lt
  have ht := h.top
  by_cases e : k = l.length - 1
  · rw [← e]; exact ht
  · have h1 := (vC_mono hv (show k < l.length - 1 by omega) (by omega)).1
    have := Int.mul_le_mul_of_nonneg_right (show px l k ≤ px l (l.length - 1) by omega) (show 0 ≤ D by omega)
    omega

/-- what the program divides -/
def aN (l : List (Int × Int)) (N D : Int) (k : Nat) : Int := py l (k - 1) * (px l k - px l (k - 1)) * D + (N - px l (k - 1) * D) * (py l k - py l (k - 1))
def aD (l : List (Int × Int)) (D : Int) (k : Nat) : Int := (px l k - px l (k - 1)) * D
/-- the value of a valid curve at N / D: whether it fits, its numerator, its denominator -/
def okA (l : List (Int × Int)) (N D : Int) : Bool := inC l N D && okF (aN l N D (segK l N D)) (aD l D (segK l N D))
def nA (l : List (Int × Int)) (N D : Int) : Int := if inC l N D then nF (aN l N D (segK l N D)) (aD l D (segK l N D)) else 0
def dA (l : List (Int × Int)) (N D : Int) : Int := if inC l N D then dF (aN l N D (segK l N D)) (aD l D (segK l N D)) else 0
theorem at_out {l : List (Int × Int)} {N D : Int} (h : inC l N D = false) : okA l N D = false ∧ nA l N D = 0 ∧ dA l N D = 0 := by simp [okA, nA, dA, h]
theorem at_seg {l : List (Int × Int)} {N D : Int} {k : Nat} (hs : IsSeg l N D k) (hv : vC l = true) (hD : 0 < D) : okA l N D = okF (aN l N D k) (aD l D k) ∧ nA l N D = nF (aN l N D k) (aD l D k) ∧ dA l N D = dF (aN l N D k) (aD l D k) := by
  simp [okA, nA, dA, hs.ins hv hD, hs.eq]
theorem nF_no {a b : Int} (h : okF a b = false) : nF a b = 0 ∧ dF a b = 0 := by simp [nF, dF, h]
theorem nA_no {l : List (Int × Int)} {N D : Int} (h : okA l N D = false) : nA l N D = 0 ∧ dA l N D = 0 := by
  rcases Bool.eq_false_or_eq_true (inC l N D) with hi | hi
  · have : okF (aN l N D (segK l N D)) (aD l D (segK l N D)) = false := by simpa [okA, hi] using h
    simp [nA, dA, hi, nF_no this]
  · exact (at_out hi).2

theorem mul_bd {a b M K : Int} (h0 : 0 ≤ a) (h1 : a ≤ M) (h2 : 0 ≤ b) (h3 : b ≤ K) : 0 ≤ a * b ∧ a * b ≤ M * K :=
  ⟨Int.mul_nonneg h0 h2, Int.mul_le_mul h1 h3 h2 (by omega)⟩
/-- the numbers on a line of a valid curve, with D at most 30000 -/
theorem seg_bd {l : List (Int × Int)} {N D : Int} {k : Nat} (hs : IsSeg l N D k) (hv : vC l = true) (h1 : 1 ≤ D) (h2 : D ≤ 30000) :
    (0 ≤ px l (k - 1) ∧ px l (k - 1) < px l k ∧ px l k ≤ 30000) ∧ (0 ≤ py l (k - 1) ∧ py l (k - 1) < py l k ∧ py l k ≤ 30000) ∧
    (px l (k - 1) * D ≤ N ∧ N ≤ px l k * D) ∧ (py l (k - 1) * aD l D k ≤ aN l N D k ∧ aN l N D k ≤ py l k * aD l D k) ∧ 1 ≤ aD l D k ∧ aD l D k ≤ 30000 * D := by
  obtain ⟨v1, v2, v3, v4⟩ := vC_yes hv
  have hk := hs.lt
  have hp := hs.pos
  have a := v1 (k - 1) (by omega)
  have b := v1 k (by omega)
  have c := v2 k (by omega) (by omega)
  have hlow : px l (k - 1) * D ≤ N := by
    by_cases e : k = 1
    · rw [e]; exact hs.low
    · exact Int.le_of_lt (hs.past (k - 1) (by omega) (by omega))
  have htop := hs.top
  have hr : 1 ≤ aD l D k := by
    have := Int.mul_le_mul (show (1 : Int) ≤ px l k - px l (k - 1) by omega) h1 (by omega) (by omega)
    rw [aD]; omega
  have hr2 : aD l D k ≤ 30000 * D := Int.mul_le_mul_of_nonneg_right (by omega) (by omega)
  refine ⟨by omega, by omega, ⟨hlow, htop⟩, ⟨?_, ?_⟩, hr, hr2⟩
  · have := Int.mul_nonneg (show 0 ≤ N - px l (k - 1) * D by omega) (show 0 ≤ py l k - py l (k - 1) by omega)
    have e : py l (k - 1) * aD l D k = py l (k - 1) * (px l k - px l (k - 1)) * D := by rw [aD, Int.mul_assoc]
    rw [aN]; omega
  · have e : py l k * aD l D k - aN l N D k = (px l k * D - N) * (py l k - py l (k - 1)) := by rw [aD, aN]; grind
    have := Int.mul_nonneg (show 0 ≤ px l k * D - N by omega) (show 0 ≤ py l k - py l (k - 1) by omega)
    omega
theorem seg_lim {l : List (Int × Int)} {N D : Int} {k : Nat} (hs : IsSeg l N D k) (hv : vC l = true) (h1 : 1 ≤ D) (h2 : D ≤ 30000) : lim (aN l N D k) = true ∧ lim (aD l D k) = true ∧ aD l D k ≠ 0 ∧ 0 ≤ aN l N D k ∧ aN l N D k ≤ 27000000000000 := by
  obtain ⟨_, ⟨b1, b2, b3⟩, _, ⟨b4, b5⟩, b6, b7⟩ := seg_bd hs hv h1 h2
  have h3 := mul_bd b1 (show py l (k - 1) ≤ 30000 by omega) (show 0 ≤ aD l D k by omega) (show aD l D k ≤ 30000 * 30000 by omega)
  have h4 := mul_bd (show 0 ≤ py l k by omega) b3 (show 0 ≤ aD l D k by omega) (show aD l D k ≤ 30000 * 30000 by omega)
  exact ⟨lim_mk (by omega) (by omega), lim_mk (by omega) (by omega), by omega, by omega, by omega⟩
/-- the value of a valid curve within it, where it fits -/
theorem at_val {l : List (Int × Int)} {N D : Int} (h : okA l N D = true) (hv : vC l = true) (hD : 0 < D) : ∃ k, IsSeg l N D k ∧ IsFrac (aN l N D k) (aD l D k) (nA l N D) (dA l N D) ∧ vF (nA l N D) (dA l N D) = true := by
  have hi : inC l N D = true := by
    rcases Bool.eq_false_or_eq_true (inC l N D) with hi | hi
    · exact hi
    · rw [(at_out hi).1] at h; cases h
  obtain ⟨k, hs⟩ := seg_exists hi (vC_yes hv).2.2.1
  obtain ⟨e1, e2, e3⟩ := at_seg hs hv hD
  rw [e1] at h
  rw [e2, e3]
  exact ⟨k, hs, okF_val h⟩
/-- at a whole number the value of a valid curve always fits -/
theorem at_whole {l : List (Int × Int)} {x : Int} {k : Nat} (hs : IsSeg l x 1 k) (hv : vC l = true) : okA l x 1 = true ∧ 0 ≤ nA l x 1 ∧ nA l x 1 ≤ 30000 * dA l x 1 ∧ 1 ≤ dA l x 1 ∧ dA l x 1 ≤ 30000 ∧ vF (nA l x 1) (dA l x 1) = true := by
  obtain ⟨a1, a2, a3, a4, a5⟩ := seg_lim hs hv (by omega) (by omega)
  obtain ⟨_, ⟨b1, b2, b3⟩, _, ⟨b4, b5⟩, b6, b7⟩ := seg_bd hs hv (Int.le_refl 1) (by omega)
  obtain ⟨e1, e2, e3⟩ := at_seg hs hv (by omega)
  have hf := isFrac (aN l x 1 k) (aD l 1 k) a3
  have hok := okF_iff a3 a1 a2
  have hp := hf.pos
  have hval := hf.val
  have hd : fD (aN l x 1 k) (aD l 1 k) ∣ aD l 1 k := coprime_dvd (b := fN (aN l x 1 k) (aD l 1 k)) (by rw [Int.gcd_comm]; exact hf.low) ⟨aN l x 1 k, by rw [hval, Int.mul_comm]⟩
  have hd2 := Int.le_of_dvd (by omega) hd
  have hn0 : 0 ≤ fN (aN l x 1 k) (aD l 1 k) := by
    have : 0 ≤ fN (aN l x 1 k) (aD l 1 k) * aD l 1 k := by rw [hval]; exact Int.mul_nonneg a4 (by omega)
    exact Int.nonneg_of_mul_nonneg_left this (by omega)
  have hn1 : fN (aN l x 1 k) (aD l 1 k) ≤ 30000 * fD (aN l x 1 k) (aD l 1 k) := by
    have h3 : aN l x 1 k ≤ 30000 * aD l 1 k := by
      have := Int.mul_le_mul_of_nonneg_right b3 (show 0 ≤ aD l 1 k by omega)
      omega
    have h4 : fN (aN l x 1 k) (aD l 1 k) * aD l 1 k ≤ (30000 * fD (aN l x 1 k) (aD l 1 k)) * aD l 1 k := by
      rw [hval]
      have := Int.mul_le_mul_of_nonneg_right h3 (show 0 ≤ fD (aN l x 1 k) (aD l 1 k) by omega)
      grind
    exact Int.le_of_mul_le_mul_right h4 (by omega)
  have hvf : vF (fN (aN l x 1 k) (aD l 1 k)) (fD (aN l x 1 k) (aD l 1 k)) = true := vF_mk (by omega) (by omega) (by omega) (by omega) hf.low
  have hok' : okF (aN l x 1 k) (aD l 1 k) = true := by rw [hok]; exact hvf
  rw [e1, e2, e3]
  unfold nF dF
  rw [if_pos hok', if_pos hok']
  exact ⟨hok', hn0, hn1, by omega, by omega, hvf⟩

/-- the reference's chain: the difference, the slope, the product, the sum -/
theorem chain_sub {l : List (Int × Int)} {N D : Int} {k : Nat} (hs : IsSeg l N D k) (hv : vC l = true) (hf : vF N D = true) (h2 : D ≤ 30000) :
    okF (N * 1 - px l (k - 1) * D) (D * 1) = true ∧ nF (N * 1 - px l (k - 1) * D) (D * 1) = N - px l (k - 1) * D ∧ dF (N * 1 - px l (k - 1) * D) (D * 1) = D ∧ vF (N - px l (k - 1) * D) D = true := by
  obtain ⟨v1, v2, v3, v4, v5⟩ := vF_yes hf
  obtain ⟨⟨b1, b2, b3⟩, _, ⟨b4, b5⟩, _, _, _⟩ := seg_bd hs hv v1 h2
  have m1 := mul_bd b1 (show px l (k - 1) ≤ 30000 by omega) (show 0 ≤ D by omega) h2
  have m2 := mul_bd (show 0 ≤ px l k by omega) b3 (show 0 ≤ D by omega) h2
  have hg : Int.gcd (N - px l (k - 1) * D) D = 1 := by
    rw [Int.gcd_sub_mul_right_left]
    exact v5
  have hvf : vF (N - px l (k - 1) * D) D = true := vF_mk v1 v2 (by omega) (by omega) hg
  rw [Int.mul_one, Int.mul_one]
  obtain ⟨e1, e2, e3⟩ := ofF_is (a := N - px l (k - 1) * D) (b := D) (by omega) (lim_mk (by omega) (by omega)) (lim_mk (by omega) (by omega)) hvf rfl
  exact ⟨e1, e2, e3, hvf⟩
theorem chain_slope {l : List (Int × Int)} {N D : Int} {k : Nat} (hs : IsSeg l N D k) (hv : vC l = true) (h1 : 1 ≤ D) (h2 : D ≤ 30000) :
    okF (py l k - py l (k - 1)) (px l k - px l (k - 1)) = true ∧ IsFrac (py l k - py l (k - 1)) (px l k - px l (k - 1)) (nF (py l k - py l (k - 1)) (px l k - px l (k - 1))) (dF (py l k - py l (k - 1)) (px l k - px l (k - 1))) ∧
    vF (nF (py l k - py l (k - 1)) (px l k - px l (k - 1))) (dF (py l k - py l (k - 1)) (px l k - px l (k - 1))) = true := by
  obtain ⟨⟨b1, b2, b3⟩, ⟨c1, c2, c3⟩, _, _, _, _⟩ := seg_bd hs hv h1 h2
  generalize hr : py l k - py l (k - 1) = r
  generalize hq : px l k - px l (k - 1) = q
  have hq0 : q ≠ 0 := by omega
  have hf := isFrac r q hq0
  have hp := hf.pos
  have hval := hf.val
  have hd : fD r q ∣ q := coprime_dvd (b := fN r q) (by rw [Int.gcd_comm]; exact hf.low) ⟨r, by rw [hval, Int.mul_comm]⟩
  have hd2 := Int.le_of_dvd (by omega) hd
  have hn : fN r q ∣ r := coprime_dvd (b := fD r q) hf.low ⟨q, by rw [hval, Int.mul_comm]⟩
  have hn2 := Int.le_of_dvd (by omega) hn
  have hn0 : 0 ≤ fN r q := by
    have : 0 ≤ fN r q * q := by rw [hval]; exact Int.mul_nonneg (by omega) (by omega)
    exact Int.nonneg_of_mul_nonneg_left this (by omega)
  have hvf : vF (fN r q) (fD r q) = true := vF_mk (by omega) (by omega) (by omega) (by omega) hf.low
  have hok : okF r q = true := by rw [okF_iff hq0 (lim_mk (by omega) (by omega)) (lim_mk (by omega) (by omega))]; exact hvf
  obtain ⟨h1, h2⟩ := okF_val hok
  exact ⟨hok, h1, h2⟩
/-- the product and the sum, where both fit -/
theorem chain_yes {l : List (Int × Int)} {N D rn rd en ed : Int} {k : Nat} (hs : IsSeg l N D k) (hv : vC l = true) (h1 : 1 ≤ D) (h2 : D ≤ 30000)
    (hr : IsFrac (py l k - py l (k - 1)) (px l k - px l (k - 1)) rn rd) (he : IsFrac ((N - px l (k - 1) * D) * rn) (D * rd) en ed) (hve : vF en ed = true) :
    okF (py l (k - 1) * ed + en * 1) (1 * ed) = okF (aN l N D k) (aD l D k) ∧ nF (py l (k - 1) * ed + en * 1) (1 * ed) = nF (aN l N D k) (aD l D k) ∧ dF (py l (k - 1) * ed + en * 1) (1 * ed) = dF (aN l N D k) (aD l D k) := by
  obtain ⟨_, ⟨b1, b2, b3⟩, _, _, _, _⟩ := seg_bd hs hv h1 h2
  obtain ⟨a1, a2, a3, a4, a5⟩ := seg_lim hs hv h1 h2
  obtain ⟨v1, v2, v3, v4, v5⟩ := vF_yes hve
  have m1 := mul_bd b1 (show py l (k - 1) ≤ 30000 by omega) (show 0 ≤ ed by omega) v2
  refine ofF_congr (by omega) a3 (lim_mk (by omega) (by omega)) (lim_mk (by omega) (by omega)) a1 a2 ?_
  have e1 := hr.val
  have e2 := he.val
  have hrd := hr.pos
  have key : en * ((px l k - px l (k - 1)) * D) = (N - px l (k - 1) * D) * (py l k - py l (k - 1)) * ed := by
    have : (en * ((px l k - px l (k - 1)) * D)) * rd = ((N - px l (k - 1) * D) * (py l k - py l (k - 1)) * ed) * rd := by grind
    exact Int.eq_of_mul_eq_mul_right (by omega) this
  rw [aN, aD]
  grind
/-- where the value fits, so does the product -/
theorem chain_fit {l : List (Int × Int)} {N D rn rd : Int} {k : Nat} (hs : IsSeg l N D k) (hv : vC l = true) (h1 : 1 ≤ D) (h2 : D ≤ 30000)
    (hr : IsFrac (py l k - py l (k - 1)) (px l k - px l (k - 1)) rn rd) (hrv : vF rn rd = true) (hd : vF (N - px l (k - 1) * D) D = true) (h : okF (aN l N D k) (aD l D k) = true) : okF ((N - px l (k - 1) * D) * rn) (D * rd) = true := by
  obtain ⟨hf, hvf⟩ := okF_val h
  obtain ⟨v1, v2, v3, v4, v5⟩ := vF_yes hvf
  obtain ⟨_, ⟨b1, b2, b3⟩, _, ⟨b4, b5⟩, b6, b7⟩ := seg_bd hs hv h1 h2
  have hval := hf.val
  generalize hn : nF (aN l N D k) (aD l D k) = n at *
  generalize hdd : dF (aN l N D k) (aD l D k) = d at *
  obtain ⟨u1, u2, u3, u4, u5⟩ := vF_yes hrv
  obtain ⟨w1, w2, w3, w4, w5⟩ := vF_yes hd
  have hlow : py l (k - 1) * d ≤ n := by
    have : (py l (k - 1) * d) * aD l D k ≤ n * aD l D k := by
      rw [hval]
      have := Int.mul_le_mul_of_nonneg_right b4 (show 0 ≤ d by omega)
      grind
    exact Int.le_of_mul_le_mul_right this (by omega)
  have m1 := mul_bd b1 (show py l (k - 1) ≤ 30000 by omega) (show 0 ≤ d by omega) v2
  have hg : Int.gcd (n - py l (k - 1) * d) d = 1 := by
    rw [Int.gcd_sub_mul_right_left]
    exact v5
  have hvf2 : vF (n - py l (k - 1) * d) d = true := vF_mk v1 v2 (by omega) (by omega) hg
  have p1 := Int.natAbs_mul (N - px l (k - 1) * D) rn
  have p2 : (N - px l (k - 1) * D).natAbs * rn.natAbs ≤ 1000000000 * 1000000000 := Nat.mul_le_mul (by omega) (by omega)
  have p3 := mul_bd (show 0 ≤ D by omega) h2 (show 0 ≤ rd by omega) u2
  have p4 := Int.mul_pos (show 0 < D by omega) (show 0 < rd by omega)
  refine (ofF_is (N := n - py l (k - 1) * d) (D := d) (by omega) (lim_mk (by omega) (by omega)) (lim_mk (by omega) (by omega)) hvf2 ?_).1
  have e1 := hr.val
  rw [aN, aD] at hval
  have key : (n - py l (k - 1) * d) * (D * (px l k - px l (k - 1))) = (N - px l (k - 1) * D) * (py l k - py l (k - 1)) * d := by grind
  have b8 : 0 < px l k - px l (k - 1) := by
    have := (seg_bd hs hv h1 h2).1
    omega
  have : ((n - py l (k - 1) * d) * (D * rd)) * (px l k - px l (k - 1)) = (((N - px l (k - 1) * D) * rn) * d) * (px l k - px l (k - 1)) := by grind
  exact Int.eq_of_mul_eq_mul_right (by omega) this
end Go.Proofs.Ytfngdemjlglliaa
