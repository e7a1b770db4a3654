/-
  Laws of lags and depths of gas, as numbers: no function of the program in sight.
-/
import Derived.Test.YtfngdemjlglliaaLagWords
import Derived.Test.YtfngdemjlglliaaGasMath
import Derived.Test.YtfngdemjlglliaaChain
namespace Go.Proofs.Ytfngdemjlglliaa
open Go.RowKit

theorem turn_turn (l : List (Int × Int)) : turn (turn l) = l := by simp [turn, Function.comp_def]
theorem mono_le {l : List (Int × Int)} (h : vC l = true) {i j : Nat} (hij : i ≤ j) (hj : j < l.length) : px l i ≤ px l j ∧ py l i ≤ py l j := by
  by_cases e : i = j
  · subst e; exact ⟨Int.le_refl _, Int.le_refl _⟩
  · have := vC_mono h (show i < j by omega) hj
    omega
/-- a knot's own value -/
theorem seg_knot {l : List (Int × Int)} (hv : vC l = true) {i : Nat} (hi : i < l.length) : ∃ k, IsSeg l (px l i) 1 k ∧ aN l (px l i) 1 k = py l i * aD l 1 k := by
  have h2 := (vC_yes hv).2.2.1
  by_cases e : i = 0
  · subst e
    refine ⟨1, ⟨by omega, by omega, by omega, fun j a b => by omega, ?_⟩, ?_⟩
    · have := (vC_mono hv (show 0 < 1 by omega) (by omega)).1
      omega
    · rw [aN, aD]
      grind
  · refine ⟨i, ⟨by omega, hi, ?_, fun j a b => ?_, by omega⟩, ?_⟩
    · have := (mono_le hv (show 0 ≤ i by omega) hi).1
      omega
    · have := (vC_mono hv b hi).1
      omega
    · rw [aN, aD]
      grind
theorem c_seg {l : List (Int × Int)} {x n d : Int} {k : Nat} (hv : vC l = true) (hs : IsSeg l x 1 k) (hf : vF n d = true) (e : n * aD l 1 k = aN l x 1 k * d) : okC l x = true ∧ nC l x = n ∧ dC l x = d := by
  obtain ⟨a1, a2, a3, _, _⟩ := seg_lim hs hv (by omega) (by omega)
  obtain ⟨e1, e2, e3⟩ := at_seg hs hv (by omega)
  obtain ⟨o1, o2, o3⟩ := ofF_is a3 a1 a2 hf e
  obtain ⟨c1, c2, c3⟩ := c_on (x := x) hv
  rw [c1, c2, c3, e1, e2, e3]
  exact ⟨o1, o2, o3⟩
theorem c_knot {l : List (Int × Int)} (hv : vC l = true) {i : Nat} (hi : i < l.length) : okC l (px l i) = true ∧ nC l (px l i) = py l i ∧ dC l (px l i) = 1 := by
  obtain ⟨k, hs, e⟩ := seg_knot hv hi
  have hb := (vC_yes hv).1 i hi
  exact c_seg hv hs (vF_whole hb.2.2.1 (by omega)) (by rw [e]; omega)
theorem c_info {l : List (Int × Int)} {x : Int} (h : okC l x = true) : vC l = true ∧ ∃ k, IsSeg l x 1 k ∧ IsFrac (aN l x 1 k) (aD l 1 k) (nC l x) (dC l x) := by
  obtain ⟨hv, ho, e1, e2⟩ := c_yes h
  obtain ⟨k, hs, hf, _⟩ := at_val ho hv (by omega)
  rw [e1, e2]
  exact ⟨hv, k, hs, hf⟩
/-- a lag is a difference -/
theorem l_yes {a b : List (Int × Int)} {x : Int} (h : okL a b x = true) : okC a x = true ∧ okC b x = true ∧ IsFrac (nC a x * dC b x - nC b x * dC a x) (dC a x * dC b x) (nL a b x) (dL a b x) ∧ vF (nL a b x) (dL a b x) = true := by
  have h' := h
  simp only [okL, Bool.and_eq_true] at h
  obtain ⟨e1, e2, e3⟩ := l_on h.1.1 h.1.2 rfl rfl rfl rfl
  rw [e1] at h'
  obtain ⟨f1, f2⟩ := okF_val h'
  rw [e2, e3]
  exact ⟨h.1.1, h.1.2, f1, f2⟩
theorem lag_back {a b : List (Int × Int)} {x n0 d0 n1 d1 N D : Int} (h : okL a b x = true) (hn0 : nC a x = n0) (hd0 : dC a x = d0) (hn1 : nC b x = n1) (hd1 : dC b x = d1) (hN : nL a b x = N) (hD : dL a b x = D) :
    two n1 d1 N D = true ∧ okF (n1 * D + N * d1) (d1 * D) = true ∧ nF (n1 * D + N * d1) (d1 * D) = n0 ∧ dF (n1 * D + N * d1) (d1 * D) = d0 := by
  obtain ⟨ha, hb, hf, hv⟩ := l_yes h
  have va := c_val ha
  have vb := c_val hb
  rw [hn0, hd0] at va
  rw [hn1, hd1] at vb
  rw [hn0, hd0, hn1, hd1, hN, hD] at hf
  rw [hN, hD] at hv
  obtain ⟨v1, v2, v3, v4, _⟩ := vF_yes hv
  obtain ⟨u1, u2, u3, u4, _⟩ := vF_yes vb.2.2.2.2
  have p1 := prod_bd u3 u4 (show -1000000000 ≤ D by omega) v2
  have p2 := prod_bd v3 v4 (show -1000000000 ≤ d1 by omega) u2
  have p3 := prod_bd (show -1000000000 ≤ d1 by omega) u2 (show -1000000000 ≤ D by omega) v2
  have p4 := Int.mul_pos (show 0 < d1 by omega) (show 0 < D by omega)
  refine ⟨by simp [two, vb.2.2.2.2, hv], ofF_is (by omega) (lim_mk (by omega) (by omega)) (lim_mk (by omega) (by omega)) va.2.2.2.2 ?_⟩
  have e := hf.val
  grind
theorem lag_self {a : List (Int × Int)} {x : Int} (h : okC a x = true) : okL a a x = true ∧ nL a a x = 0 ∧ dL a a x = 1 := by
  have va := c_val h
  obtain ⟨e1, e2, e3⟩ := l_on h h rfl rfl rfl rfl
  rw [e1, e2, e3]
  have p4 := Int.mul_pos (show 0 < dC a x by omega) (show 0 < dC a x by omega)
  have p5 := mul_bd (show 0 ≤ dC a x by omega) va.2.2.2.1 (show 0 ≤ dC a x by omega) va.2.2.2.1
  exact ofF_is (by omega) (by rw [Int.sub_self]; rfl) (lim_mk (by omega) (by omega)) (by decide) (by rw [Int.sub_self]; omega)
/-- at a common knot a lag is whole -/
theorem lag_ends {a b : List (Int × Int)} {i k : Nat} (ha : vC a = true) (hb : vC b = true) (hi : i < a.length) (hk : k < b.length) (e : px a i = px b k) : okL a b (px a i) = true ∧ nL a b (px a i) = py a i - py b k ∧ dL a b (px a i) = 1 := by
  obtain ⟨a1, a2, a3⟩ := c_knot ha hi
  obtain ⟨b1, b2, b3⟩ := c_knot hb hk
  rw [← e] at b1 b2 b3
  obtain ⟨e1, e2, e3⟩ := l_on a1 b1 a2 a3 b2 b3
  rw [e1, e2, e3]
  have p := (vC_yes ha).1 i hi
  have q := (vC_yes hb).1 k hk
  exact ofF_is (by omega) (lim_mk (by omega) (by omega)) (by decide) (vF_mk (by omega) (by omega) (by omega) (by omega) (by simp)) (by omega)
theorem l_den {a b : List (Int × Int)} {x : Int} (h : okL a b x = true) : 0 < dL a b x := by
  have := (vF_yes (l_yes h).2.2.2).1
  omega
/-- the way back along a curve -/
theorem seg_turn {l : List (Int × Int)} {N D n d : Int} {k : Nat} (hv : vC l = true) (hs : IsSeg l N D k) (h1 : 1 ≤ D) (h2 : D ≤ 30000) (hf : IsFrac (aN l N D k) (aD l D k) n d) : IsSeg (turn l) n d k ∧ aN (turn l) n d k * D = N * aD (turn l) d k := by
  obtain ⟨⟨b1, b2, b3⟩, ⟨c1, c2, c3⟩, ⟨s1, s2⟩, ⟨b4, b5⟩, b6, _⟩ := seg_bd hs hv h1 h2
  have hd := hf.pos
  have e := hf.val
  have hk := hs.lt
  have low : py l (k - 1) * d ≤ n := by
    have : (py l (k - 1) * d) * aD l D k ≤ n * aD l D k := by
      rw [e]
      have := Int.mul_le_mul_of_nonneg_right b4 (show 0 ≤ d by omega)
      grind
    exact Int.le_of_mul_le_mul_right this (by omega)
  have top : n ≤ py l k * d := by
    have : n * aD l D k ≤ (py l k * d) * aD l D k := by
      rw [e]
      have := Int.mul_le_mul_of_nonneg_right b5 (show 0 ≤ d by omega)
      grind
    exact Int.le_of_mul_le_mul_right this (by omega)
  refine ⟨⟨hs.pos, by rw [turn_len]; exact hk, ?_, fun i i1 i2 => ?_, by rw [turn_px]; exact top⟩, ?_⟩
  · rw [turn_px]
    have := Int.mul_le_mul_of_nonneg_right (mono_le hv (show 0 ≤ k - 1 by omega) (by omega)).2 (show 0 ≤ d by omega)
    omega
  · rw [turn_px]
    have g := Int.mul_le_mul_of_nonneg_right (mono_le hv (show i ≤ k - 1 by omega) (by omega)).2 (show 0 ≤ d by omega)
    have p := hs.past (k - 1) (by omega) (by omega)
    have q := Int.mul_pos (show 0 < N - px l (k - 1) * D by omega) (show 0 < py l k - py l (k - 1) by omega)
    have st : py l (k - 1) * d < n := by
      have : (py l (k - 1) * d) * aD l D k < n * aD l D k := by
        rw [e]
        have e2 : aN l N D k - py l (k - 1) * aD l D k = (N - px l (k - 1) * D) * (py l k - py l (k - 1)) := by rw [aN, aD]; grind
        have := Int.mul_lt_mul_of_pos_right (show py l (k - 1) * aD l D k < aN l N D k by omega) hd
        grind
      exact Int.lt_of_mul_lt_mul_right this (by omega)
    omega
  · rw [aN, aD, turn_px, turn_px, turn_py, turn_py]
    rw [aN, aD] at e
    grind
/-- what lies farther along a curve is greater -/
theorem seg_less {l : List (Int × Int)} {N D N' D' : Int} {k k' : Nat} (hv : vC l = true) (hs : IsSeg l N D k) (hs' : IsSeg l N' D' k') (h1 : 1 ≤ D) (h2 : D ≤ 30000) (h1' : 1 ≤ D') (h : N * D' < N' * D) :
    aN l N D k * aD l D' k' < aN l N' D' k' * aD l D k := by
  obtain ⟨⟨b1, b2, b3⟩, ⟨c1, c2, c3⟩, ⟨s1, s2⟩, ⟨b4, b5⟩, b6, _⟩ := seg_bd hs hv h1 h2
  have hkl := hs.lt
  have hkl' := hs'.lt
  have hkp := hs'.pos
  have hx' := (vC_mono hv (show k' - 1 < k' by omega) hkl')
  have hD' : 0 < aD l D' k' := by rw [aD]; exact Int.mul_pos (by omega) (by omega)
  rcases Nat.lt_trichotomy k k' with hlt | heq | hgt
  · have p := hs'.past (k' - 1) (by have := hs.pos; omega) (by omega)
    have q := Int.mul_pos (show 0 < N' - px l (k' - 1) * D' by omega) (show 0 < py l k' - py l (k' - 1) by omega)
    have e2 : aN l N' D' k' - py l (k' - 1) * aD l D' k' = (N' - px l (k' - 1) * D') * (py l k' - py l (k' - 1)) := by rw [aN, aD]; grind
    have g := (mono_le hv (show k ≤ k' - 1 by omega) (by omega)).2
    have i1 := Int.mul_le_mul_of_nonneg_right b5 (show 0 ≤ aD l D' k' by omega)
    have i2 := Int.mul_le_mul_of_nonneg_right g (show 0 ≤ aD l D k * aD l D' k' from Int.mul_nonneg (by omega) (by omega))
    have i3 := Int.mul_lt_mul_of_pos_right (show py l (k' - 1) * aD l D' k' < aN l N' D' k' by omega) (show 0 < aD l D k by omega)
    have j1 : py l k * aD l D k * aD l D' k' = py l k * (aD l D k * aD l D' k') := Int.mul_assoc _ _ _
    have j2 : py l (k' - 1) * aD l D' k' * aD l D k = py l (k' - 1) * (aD l D k * aD l D' k') := by grind
    omega
  · subst heq
    have e : aN l N' D' k * aD l D k - aN l N D k * aD l D' k = (px l k - px l (k - 1)) * ((py l k - py l (k - 1)) * (N' * D - N * D')) := by rw [aN, aN, aD, aD]; grind
    have := Int.mul_pos (show 0 < px l k - px l (k - 1) by omega) (Int.mul_pos (show 0 < py l k - py l (k - 1) by omega) (show 0 < N' * D - N * D' by omega))
    omega
  · exfalso
    have p := hs.past (k - 1) (by omega) (by omega)
    have t := hs'.top
    have g := (mono_le hv (show k' ≤ k - 1 by omega) (by omega)).1
    have i1 := Int.mul_le_mul_of_nonneg_right t (show 0 ≤ D by omega)
    have i2 := Int.mul_le_mul_of_nonneg_right g (show 0 ≤ D' * D from Int.mul_nonneg (by omega) (by omega))
    have i3 := Int.mul_lt_mul_of_pos_right p (show 0 < D' by omega)
    have j1 : px l k' * D' * D = px l k' * (D' * D) := Int.mul_assoc _ _ _
    have j2 : px l (k - 1) * D * D' = px l (k - 1) * (D' * D) := by grind
    omega
theorem t_yes {a b : List (Int × Int)} {x : Int} (h : okT a b x = true) : okC a x = true ∧ vC b = true ∧ okA b (nC a x) (dC a x) = true ∧ nT a b x = nA b (nC a x) (dC a x) ∧ dT a b x = dA b (nC a x) (dC a x) := by
  have h' := h
  simp only [okT, Bool.and_eq_true] at h
  obtain ⟨e1, e2, e3⟩ := t_on h.1.1 h.1.2 rfl rfl
  exact ⟨h.1.1, h.1.2, h.2, e2, e3⟩
/-- where a depth is found, the ice is as old as the gas -/
theorem p_yes {a b : List (Int × Int)} {x : Int} (h : okP a b x = true) : vC a = true ∧ okC b x = true ∧ vF (nP a b x) (dP a b x) = true ∧
    ∃ k, IsSeg a (nP a b x) (dP a b x) k ∧ aN a (nP a b x) (dP a b x) k * dC b x = nC b x * aD a (dP a b x) k := by
  have hv : vC a = true := by
    rcases Bool.eq_false_or_eq_true (vC a) with hv | hv
    · exact hv
    · rw [(p_no hv).1] at h; cases h
  obtain ⟨e1, e2, e3⟩ := p_on (b := b) (x := x) hv
  rw [e1] at h
  obtain ⟨hc, ht, ho, f2, f3⟩ := t_yes h
  obtain ⟨v0, v1, v2, v3, v4⟩ := c_val hc
  obtain ⟨k, hs, hf, hvf⟩ := at_val ho ht (by omega)
  rw [e2, e3, f2, f3]
  have := seg_turn ht hs v2 v3 hf
  rw [turn_turn] at this
  exact ⟨hv, hc, hvf, k, this⟩
theorem depth_back {a b : List (Int × Int)} {x : Int} (h : okP a b x = true) (hd : dP a b x = 1) : okC b x = true ∧ okC a (nP a b x) = true ∧ nC a (nP a b x) = nC b x ∧ dC a (nP a b x) = dC b x := by
  obtain ⟨hv, hc, _, k, hs, e⟩ := p_yes h
  rw [hd] at hs e
  exact ⟨hc, c_seg hv hs (c_val hc).2.2.2.2 e.symm⟩
/-- the way there and back -/
theorem depth_self {a : List (Int × Int)} {x : Int} (h : okC a x = true) (h0 : 0 ≤ x) (h1 : x ≤ 30000) : okP a a x = true ∧ nP a a x = x ∧ dP a a x = 1 := by
  obtain ⟨hv, k, hs, hf⟩ := c_info h
  obtain ⟨v0, v1, v2, v3, v4⟩ := c_val h
  have ht : vC (turn a) = true := by rw [turn_valid]; exact hv
  obtain ⟨hst, e⟩ := seg_turn hv hs (by omega) (by omega) hf
  obtain ⟨e1, e2, e3⟩ := p_on (b := a) (x := x) hv
  obtain ⟨f1, f2, f3⟩ := t_on (a := a) h ht rfl rfl
  obtain ⟨g1, g2, g3⟩ := at_seg hst ht (by omega)
  obtain ⟨a1, a2, a3, _, _⟩ := seg_lim hst ht v2 v3
  rw [e1, e2, e3, f1, f2, f3, g1, g2, g3]
  exact ofF_is a3 a1 a2 (vF_whole h0 (by omega)) (by omega)
/-- an even lag is even -/
theorem even_lag {l : List (Int × Int)} {s : Nat} {d x : Int} (hv : vC l = true) (hs : s + 2 ≤ l.length) (h0 : 0 ≤ d) (h1 : d ≤ 10000) (hd : d ≤ py l s) (hx0 : px ((l.drop s).map (sh d)) 0 ≤ x) (hx1 : x ≤ px ((l.drop s).map (sh d)) (((l.drop s).map (sh d)).length - 1)) :
    okL l ((l.drop s).map (sh d)) x = true ∧ nL l ((l.drop s).map (sh d)) x = d ∧ dL l ((l.drop s).map (sh d)) x = 1 := by
  have hvG := vC_shift hv hs h0 hd
  have hlen : ((l.drop s).map (sh d)).length = l.length - s := by simp
  have hGx : ∀ i, s + i < l.length → px ((l.drop s).map (sh d)) i = px l (s + i) := fun i hi => sh_px hi
  have hGy : ∀ i, s + i < l.length → py ((l.drop s).map (sh d)) i = py l (s + i) - d := fun i hi => sh_py hi
  generalize (l.drop s).map (sh d) = G at *
  have vd : vF d 1 = true := vF_whole h0 (by omega)
  by_cases hx : x = px G 0
  · have hkn := c_knot hvG (i := 0) (by omega)
    have hkl := c_knot hv (i := s) (by omega)
    rw [hGy 0 (by omega), Nat.add_zero] at hkn
    rw [hx]
    rw [hGx 0 (by omega), Nat.add_zero] at hkn ⊢
    obtain ⟨e1, e2, e3⟩ := l_on hkl.1 hkn.1 hkl.2.1 hkl.2.2 hkn.2.1 hkn.2.2
    rw [e1, e2, e3]
    have p := (vC_yes hv).1 s (by omega)
    exact ofF_is (by omega) (lim_mk (by omega) (by omega)) (by decide) vd (by omega)
  · have hin : inC G x 1 = true := decide_eq_true ⟨by omega, by omega⟩
    obtain ⟨k, hsG⟩ := seg_exists hin (vC_yes hvG).2.2.1
    have hkp := hsG.pos
    have hkl := hsG.lt
    have hsl : IsSeg l x 1 (s + k) := by
      refine ⟨by omega, by omega, ?_, fun i i1 i2 => ?_, ?_⟩
      · have a := (mono_le hv (show 0 ≤ s by omega) (by omega)).1
        have b := hsG.low
        rw [hGx 0 (by omega), Nat.add_zero] at b
        omega
      · by_cases hi : i ≤ s
        · have a := (mono_le hv hi (by omega)).1
          have b := hsG.low
          rw [hGx 0 (by omega), Nat.add_zero] at b hx
          omega
        · have := hsG.past (i - s) (by omega) (by omega)
          rwa [hGx (i - s) (by omega), show s + (i - s) = i by omega] at this
      · have := hsG.top
        rwa [hGx k (by omega)] at this
    obtain ⟨g1, _⟩ := at_whole hsG hvG
    obtain ⟨l1, _⟩ := at_whole hsl hv
    have hcG : okC G x = true := by rw [(c_on hvG).1]; exact g1
    have hcl : okC l x = true := by rw [(c_on hv).1]; exact l1
    obtain ⟨_, k', hs', hfG⟩ := c_info hcG
    obtain ⟨_, k'', hs'', hfl⟩ := c_info hcl
    obtain rfl : k' = k := hs'.eq.symm.trans hsG.eq
    obtain rfl : k'' = s + k' := hs''.eq.symm.trans hsl.eq
    obtain ⟨z0, z1, z2, z3, z4⟩ := c_val hcG
    obtain ⟨y0, y1, y2, y3, y4⟩ := c_val hcl
    have eG := hfG.val
    have el := hfl.val
    have hrun : 0 < px l (s + k') - px l (s + k' - 1) := by
      have := (vC_mono hv (show s + k' - 1 < s + k' by omega) (by omega)).1
      omega
    rw [aN, aD, hGx k' (by omega), hGx (k' - 1) (by omega), hGy k' (by omega), hGy (k' - 1) (by omega), show s + (k' - 1) = s + k' - 1 by omega] at eG
    rw [aN, aD] at el
    obtain ⟨e1, e2, e3⟩ := l_on hcl hcG rfl rfl rfl rfl
    rw [e1, e2, e3]
    have m1 := mul_bd y0 (show nC l x ≤ 900000000 by omega) (show 0 ≤ dC G x by omega) z3
    have m2 := mul_bd z0 (show nC G x ≤ 900000000 by omega) (show 0 ≤ dC l x by omega) y3
    have m3 := mul_bd (show 0 ≤ dC l x by omega) y3 (show 0 ≤ dC G x by omega) z3
    have m4 := Int.mul_pos (show 0 < dC l x by omega) (show 0 < dC G x by omega)
    refine ofF_is (by omega) (lim_mk (by omega) (by omega)) (lim_mk (by omega) (by omega)) vd ?_
    have : (d * (dC l x * dC G x)) * (px l (s + k') - px l (s + k' - 1)) = ((nC l x * dC G x - nC G x * dC l x) * 1) * (px l (s + k') - px l (s + k' - 1)) := by grind
    exact Int.eq_of_mul_eq_mul_right (by omega) this
/-- gas that is younger lies in deeper ice -/
theorem depth_up {l G : List (Int × Int)} {x d : Int} (hlag : okL l G x = true) (hN : nL l G x = d) (hD : dL l G x = 1) (h0 : 0 ≤ d) (h : okP l G x = true) : lessF x 1 (nP l G x) (dP l G x) = false := by
  rcases Bool.eq_false_or_eq_true (lessF x 1 (nP l G x) (dP l G x)) with hl | hl
  · exfalso
    simp only [lessF, Bool.and_eq_true, decide_eq_true_eq] at hl
    obtain ⟨hv, hc, hvf, k2, hs2, e2⟩ := p_yes h
    obtain ⟨hcl, hcG, hf, _⟩ := l_yes hlag
    obtain ⟨_, k, hs, hfl⟩ := c_info hcl
    rw [hN, hD] at hf
    have ef := hf.val
    have el := hfl.val
    obtain ⟨z0, z1, z2, z3, z4⟩ := c_val hcG
    obtain ⟨y0, y1, y2, y3, y4⟩ := c_val hcl
    have hp := (vF_yes hvf).1
    have hless := seg_less hv hs hs2 (by omega) (by omega) hp hl.2
    obtain ⟨_, _, _, _, b6, _⟩ := seg_bd hs hv (by omega) (by omega)
    have b7 : 0 < aD l (dP l G x) k2 := by
      have := (vC_mono hv (show k2 - 1 < k2 by have := hs2.pos; omega) hs2.lt).1
      rw [aD]; exact Int.mul_pos (by omega) (by omega)
    generalize aN l x 1 k = p at *
    generalize aD l 1 k = q at *
    generalize aN l (nP l G x) (dP l G x) k2 = p2 at *
    generalize aD l (dP l G x) k2 = q2 at *
    generalize nC l x = n0 at *
    generalize dC l x = d0 at *
    generalize nC G x = n1 at *
    generalize dC G x = d1 at *
    -- n0 q = p d0, p2 d1 = n1 q2, p q2 < p2 q, d d0 d1 = n0 d1 - n1 d0
    have i1 := Int.mul_lt_mul_of_pos_right hless (Int.mul_pos (show 0 < d0 by omega) (show 0 < d1 by omega))
    have i2 := Int.mul_nonneg h0 (Int.mul_nonneg (Int.mul_nonneg (show 0 ≤ d0 by omega) (show 0 ≤ d1 by omega)) (Int.mul_nonneg (show 0 ≤ q by omega) (show 0 ≤ q2 by omega)))
    have j1 : p * q2 * (d0 * d1) = n0 * d1 * (q * q2) := by grind
    have j2 : p2 * q * (d0 * d1) = n1 * d0 * (q * q2) := by grind
    have j3 : d * (d0 * d1 * (q * q2)) = n0 * d1 * (q * q2) - n1 * d0 * (q * q2) := by grind
    omega
  · exact hl
end Go.Proofs.Ytfngdemjlglliaa
