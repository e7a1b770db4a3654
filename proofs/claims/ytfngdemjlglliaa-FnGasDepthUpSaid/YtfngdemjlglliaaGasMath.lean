/-
  The plain laws on gas ages. No function of the program in sight.
-/
import Derived.Test.YtfngdemjlglliaaCurveMath
namespace Go.Proofs.Ytfngdemjlglliaa

theorem px_app_left {l m : List (Int × Int)} {i : Nat} (h : i < l.length) : px (l ++ m) i = px l i := by rw [px_eq (by simp; omega), px_eq h, List.getElem_append_left h]
theorem py_app_left {l m : List (Int × Int)} {i : Nat} (h : i < l.length) : py (l ++ m) i = py l i := by rw [py_eq (by simp; omega), py_eq h, List.getElem_append_left h]
theorem px_at (l m : List (Int × Int)) : px (l ++ m) l.length = px m 0 := by simp [px, List.getD, List.getElem?_append_right (Nat.le_refl _)]
theorem px_last (l : List (Int × Int)) (p : Int × Int) : px (l ++ [p]) l.length = p.1 := by simp [px]
theorem py_last (l : List (Int × Int)) (p : Int × Int) : py (l ++ [p]) l.length = p.2 := by simp [py]

/-- each step of gasP leaves the list or adds one knot -/
theorem gasP_step (l : List (Int × Int)) (g : Nat → Int) (k : Nat) : gasP l g (k + 1) = gasP l g k ∨ (gasP l g (k + 1) = gasP l g k ++ [(px l k, py l k - g k)] ∧ 0 ≤ py l k - g k) := by
  rw [gasP]
  split
  · rename_i h; exact .inr ⟨rfl, h.1⟩
  · exact .inl rfl
/-- a knot that is left stems from a place of its own -/
theorem gasP_from {l : List (Int × Int)} {g : Nat → Int} {k i : Nat} (h : i < (gasP l g k).length) : ∃ j, j < k ∧ px (gasP l g k) i = px l j ∧ py (gasP l g k) i = py l j - g j ∧ 0 ≤ py l j - g j := by
  induction k with
  | zero => simp [gasP] at h
  | succ k ih =>
    rcases gasP_step l g k with e | ⟨e, h0⟩
    · rw [e] at h ⊢
      obtain ⟨j, h1, h2⟩ := ih h
      exact ⟨j, by omega, h2⟩
    · rw [e] at h ⊢
      by_cases hi : i < (gasP l g k).length
      · obtain ⟨j, h1, h2⟩ := ih hi
        rw [px_app_left hi, py_app_left hi]
        exact ⟨j, by omega, h2⟩
      · obtain rfl : i = (gasP l g k).length := by simp at h; omega
        rw [px_last, py_last]
        exact ⟨k, by omega, rfl, rfl, h0⟩
/-- what the first k knots leave is the head of what all leave; the rest stems from later knots -/
theorem gasP_rest {l : List (Int × Int)} {g : Nat → Int} {k n : Nat} (hk : k ≤ n) : ∃ r, gasP l g n = gasP l g k ++ r ∧ ∀ i, i < r.length → ∃ j, k ≤ j ∧ j < n ∧ px r i = px l j ∧ py r i = py l j - g j := by
  induction n with
  | zero => obtain rfl : k = 0 := by omega
            exact ⟨[], by simp, fun i hi => by simp at hi⟩
  | succ n ih =>
    by_cases e : k = n + 1
    · subst e
      exact ⟨[], by simp, fun i hi => by simp at hi⟩
    · obtain ⟨r, h1, h2⟩ := ih (by omega)
      rcases gasP_step l g n with e2 | ⟨e2, h0⟩
      · rw [e2]
        exact ⟨r, h1, fun i hi => by obtain ⟨j, a, b, c⟩ := h2 i hi; exact ⟨j, a, by omega, c⟩⟩
      · rw [e2, h1]
        refine ⟨r ++ [(px l n, py l n - g n)], by simp, fun i hi => ?_⟩
        by_cases hi2 : i < r.length
        · rw [px_app_left hi2, py_app_left hi2]
          obtain ⟨j, a, b, c⟩ := h2 i hi2
          exact ⟨j, a, by omega, c⟩
        · obtain rfl : i = r.length := by simp at hi; omega
          rw [px_last, py_last]
          exact ⟨n, by omega, by omega, rfl, rfl⟩
/-- FnGasTop: the knots that are left lie within the curve -/
theorem gas_top {l : List (Int × Int)} {m : Nat} {g : Nat → Int} (h : okG l m g = true) {i : Nat} (hi : i < (gV l m g).length) :
    0 ≤ py (gV l m g) i ∧ px l 0 ≤ px (gV l m g) i ∧ px (gV l m g) i ≤ px l (l.length - 1) := by
  obtain ⟨h1, _, _, h4⟩ := okG_yes h
  rw [gV_yes h] at hi ⊢
  obtain ⟨j, hj, e1, e2, e3⟩ := gasP_from hi
  have := (vC_yes h4).1 i hi
  have h2 := (vC_yes h1).2.2.1
  refine ⟨this.2.2.1, ?_, ?_⟩
  · rw [e1]
    rcases Nat.eq_zero_or_pos j with h0 | h0
    · rw [h0]; exact Int.le_refl _
    · have := (vC_mono h1 h0 hj).1
      omega
  · rw [e1]
    by_cases e : j = l.length - 1
    · rw [e]; exact Int.le_refl _
    · have := (vC_mono h1 (show j < l.length - 1 by omega) (by omega)).1
      omega
/-- FnGas: the next knot that is left stems from place k, or place k is left out -/
theorem gas_next {l : List (Int × Int)} {m : Nat} {g : Nat → Int} (h : okG l m g = true) {k : Nat} (hk : k < l.length) (ha : (gasP l g k).length < (gV l m g).length) :
    (px l k = px (gV l m g) (gasP l g k).length → py (gV l m g) (gasP l g k).length = py l k - g k ∧ (gasP l g (k + 1)).length = (gasP l g k).length + 1) ∧
    (px l k ≠ px (gV l m g) (gasP l g k).length → (gasP l g (k + 1)).length = (gasP l g k).length) := by
  obtain ⟨h1, _, _, _⟩ := okG_yes h
  rw [gV_yes h] at ha ⊢
  have inj : ∀ {i j : Nat}, i < l.length → j < l.length → px l i = px l j → i = j := by
    intro i j hi hj e
    rcases Nat.lt_trichotomy i j with hh | hh | hh
    · have := (vC_mono h1 hh hj).1; omega
    · exact hh
    · have := (vC_mono h1 hh hi).1; omega
  rcases gasP_step l g k with e | ⟨e, _⟩
  · obtain ⟨r, hr, hj⟩ := gasP_rest (l := l) (g := g) (show k + 1 ≤ l.length by omega)
    rw [e] at hr
    have hr0 : 0 < r.length := by rw [hr] at ha; simp at ha; exact ha
    obtain ⟨j, a, b, c, _⟩ := hj 0 hr0
    have ex : px (gasP l g l.length) (gasP l g k).length = px l j := by
      rw [← c, hr, px_at]
    refine ⟨fun he => ?_, fun _ => by rw [e]⟩
    rw [ex] at he
    have := inj hk b he
    omega
  · obtain ⟨r, hr, _⟩ := gasP_rest (l := l) (g := g) (show k + 1 ≤ l.length by omega)
    rw [e] at hr
    have ex : px (gasP l g l.length) (gasP l g k).length = px l k := by rw [hr]; simp [px]
    have ey : py (gasP l g l.length) (gasP l g k).length = py l k - g k := by rw [hr]; simp [py]
    refine ⟨fun _ => ⟨ey, by rw [e]; simp⟩, fun hne => absurd ex.symm hne⟩

/-- FnGasMore: a year more -/
def less1 (l : List (Int × Int)) : List (Int × Int) := l.map fun p => (p.1, p.2 - 1)
theorem less1_len (l : List (Int × Int)) : (less1 l).length = l.length := by simp [less1]
theorem less1_px {l : List (Int × Int)} {i : Nat} (h : i < l.length) : px (less1 l) i = px l i := by
  rw [px_eq (by rw [less1_len]; exact h), px_eq h]
  simp [less1]
theorem less1_py {l : List (Int × Int)} {i : Nat} (h : i < l.length) : py (less1 l) i = py l i - 1 := by
  rw [py_eq (by rw [less1_len]; exact h), py_eq h]
  simp [less1]
theorem lastY_less {l : List (Int × Int)} (h : l ≠ []) : lastY (less1 l) = lastY l - 1 := by
  have : 0 < l.length := List.length_pos_iff.2 h
  unfold lastY
  rw [less1_len, less1_py (by omega)]
theorem gasP_more {l : List (Int × Int)} {g g' : Nat → Int} {n : Nat} (hg : ∀ i, i < n → g' i = g i + 1) (hp : ∀ i, i < (gasP l g n).length → 1 ≤ py (gasP l g n) i) {k : Nat} (hk : k ≤ n) : gasP l g' k = less1 (gasP l g k) := by
  induction k with
  | zero => rfl
  | succ k ih =>
    have e := ih (by omega)
    have hgk := hg k (by omega)
    obtain ⟨r, hr, _⟩ := gasP_rest (l := l) (g := g) hk
    by_cases hc : 0 ≤ py l k - g k ∧ (gasP l g k = [] ∨ lastY (gasP l g k) < py l k - g k)
    · have e1 := gasP_yes hc.1 hc.2
      have h1 : 1 ≤ py l k - g k := by
        have hlen : (gasP l g k).length < (gasP l g n).length := by rw [hr, e1]; simp
        have h := hp _ hlen
        rw [hr, e1] at h
        have : py (gasP l g k ++ [(px l k, py l k - g k)] ++ r) (gasP l g k).length = py l k - g k := by simp [py]
        rw [this] at h
        exact h
      rw [e1, gasP_yes (g := g') (by omega) ?_, e]
      · simp [less1, hgk]; omega
      · rw [e]
        by_cases h0 : gasP l g k = []
        · left; rw [h0]; rfl
        · right
          rcases hc.2 with h2 | h2
          · exact absurd h2 h0
          · rw [lastY_less h0]; omega
    · have e1 : gasP l g (k + 1) = gasP l g k := by rw [gasP, if_neg hc]
      rw [e1, gasP_no (g := g') ?_, e]
      by_cases h0 : 0 ≤ py l k - g k
      · have h2 : gasP l g k ≠ [] ∧ ¬ lastY (gasP l g k) < py l k - g k := ⟨fun h => hc ⟨h0, .inl h⟩, fun h => hc ⟨h0, .inr h⟩⟩
        by_cases h3 : 0 ≤ py l k - g' k
        · right
          rw [e]
          refine ⟨fun h => h2.1 (by simpa [less1] using h), ?_⟩
          rw [lastY_less h2.1]
          omega
        · exact .inl h3
      · left; omega

/-- the lags are all x -/
def sh (x : Int) (p : Int × Int) : Int × Int := (p.1, p.2 - x)
theorem even_form {l : List (Int × Int)} {g : Nat → Int} {x : Int} (h : vC l = true) (hg : ∀ i, i < l.length → g i = x) {k : Nat} (hk : k ≤ l.length) :
    ∃ s, s ≤ k ∧ gasP l g k = ((l.take k).drop s).map (sh x) ∧ (∀ j, j < s → py l j < x) ∧ (s < k → x ≤ py l s) := by
  induction k with
  | zero => exact ⟨0, Nat.le_refl _, rfl, fun j hj => by omega, fun h => by omega⟩
  | succ k ih =>
    obtain ⟨s, h1, h2, h3, h4⟩ := ih (by omega)
    have hgk := hg k (by omega)
    have hkl : k < l.length := by omega
    have htl : (l.take k).length = k := by simp; omega
    by_cases hx : x ≤ py l k
    · have e1 : (l.take (k + 1)).drop s = (l.take k).drop s ++ [l[k]] := by
        rw [List.take_succ_eq_append_getElem hkl, List.drop_append_of_le_length (by omega)]
      have e2 : gasP l g (k + 1) = gasP l g k ++ [(px l k, py l k - g k)] := by
        refine gasP_yes (by omega) ?_
        by_cases hs : s = k
        · left
          rw [h2, hs, List.drop_of_length_le (by omega)]
          rfl
        · right
          have hm := (vC_mono h (show k - 1 < k by omega) hkl).2
          have hlen : ((l.take k).drop s).length = k - s := by simp; omega
          have : lastY (gasP l g k) = py l (k - 1) - x := by
            rw [lastY, h2, py_eq (by simp; omega), py_eq (by omega)]
            simp only [List.length_map, hlen, List.getElem_map, List.getElem_drop, List.getElem_take, sh]
            congr 3
            omega
          rw [this]
          omega
      refine ⟨s, by omega, ?_, h3, fun _ => ?_⟩
      · rw [e2, e1, List.map_append, h2, hgk]
        simp [sh, px_eq hkl, py_eq hkl]
      · by_cases hs : s = k
        · rw [hs]; exact hx
        · exact h4 (by omega)
    · have hs : s = k := by
        by_cases e : s = k
        · exact e
        · have a := h4 (by omega)
          have b := (vC_mono h (show s < k by omega) hkl).2
          omega
      refine ⟨k + 1, Nat.le_refl _, ?_, fun j hj => ?_, fun h => by omega⟩
      · rw [gasP_no (.inl (by omega)), h2, hs, List.drop_of_length_le (by omega), List.drop_of_length_le (by simp; omega)]
      · by_cases e : j = k
        · rw [e]; omega
        · exact h3 j (by omega)
theorem sh_px {l : List (Int × Int)} {s i : Nat} {x : Int} (h : s + i < l.length) : px ((l.drop s).map (sh x)) i = px l (s + i) := by
  rw [px_eq (by simp; omega), px_eq h]
  simp [sh]
theorem sh_py {l : List (Int × Int)} {s i : Nat} {x : Int} (h : s + i < l.length) : py ((l.drop s).map (sh x)) i = py l (s + i) - x := by
  rw [py_eq (by simp; omega), py_eq h]
  simp [sh]
theorem vC_shift {l : List (Int × Int)} {s : Nat} {x : Int} (h : vC l = true) (hs : s + 2 ≤ l.length) (h0 : 0 ≤ x) (hx : x ≤ py l s) : vC ((l.drop s).map (sh x)) = true := by
  obtain ⟨h1, h2, h3, h4⟩ := vC_yes h
  have hlen : ((l.drop s).map (sh x)).length = l.length - s := by simp
  refine vC_mk (fun k hk => ?_) (fun k hk0 hk => ?_) (by omega) (by omega)
  · rw [hlen] at hk
    rw [sh_px (by omega), sh_py (by omega)]
    have a := h1 (s + k) (by omega)
    have b : py l s ≤ py l (s + k) := by
      rcases Nat.eq_zero_or_pos k with e | e
      · rw [e]; exact Int.le_refl _
      · have := (vC_mono h (show s < s + k by omega) (by omega)).2; omega
    omega
  · rw [hlen] at hk
    rw [sh_px (by omega), sh_py (by omega), sh_px (by omega), sh_py (by omega)]
    have := vC_mono h (show s + (k - 1) < s + k by omega) (by omega)
    omega
/-- GasEven, if it answers: the knots from s on, x years younger -/
theorem even_yes {l : List (Int × Int)} {m : Nat} {g : Nat → Int} {x : Int} (hg : ∀ i, i < l.length → g i = x) (h : okG l m g = true) :
    ∃ s, s + 2 ≤ l.length ∧ gV l m g = (l.drop s).map (sh x) ∧ x ≤ py l s ∧ 0 ≤ x ∧ x ≤ 10000 ∧ vC l = true ∧ m = l.length ∧ ∀ j, j < s → py l j < x := by
  obtain ⟨h1, h2, h3, h4⟩ := okG_yes h
  obtain ⟨s, a, b, c, d⟩ := even_form h1 hg (Nat.le_refl _)
  rw [List.take_length] at b
  have hl := (vC_yes h4).2.2.1
  rw [b] at hl
  simp at hl
  have hx := lag_yes h3 (show 0 < l.length by omega)
  rw [hg 0 (by omega)] at hx
  refine ⟨s, by omega, by rw [gV_yes h, b], d (by omega), hx.1, hx.2, h1, h2, c⟩
/-- GasEven answers, if two knots are old enough -/
theorem even_ok {l : List (Int × Int)} {g : Nat → Int} {x : Int} {s : Nat} (h : vC l = true) (hg : ∀ i, i < l.length → g i = x) (h0 : 0 ≤ x) (h1 : x ≤ 10000) (hs : s + 2 ≤ l.length) (hx : x ≤ py l s) : okG l l.length g = true := by
  obtain ⟨t, a, b, c, d⟩ := even_form h hg (Nat.le_refl _)
  rw [List.take_length] at b
  have hts : t ≤ s := by
    rcases Nat.lt_or_ge s t with e | e
    · have := c s e; omega
    · exact e
  refine okG_mk h rfl ?_ ?_
  · rw [lagAll, List.all_eq_true]
    intro i hi
    have hi := List.mem_range.1 hi
    rw [hg i hi]
    exact inB_of h0 h1
  · rw [b]
    exact vC_shift h (by omega) h0 (d (by omega))
/-- without lags nothing changes -/
theorem even_zero {l : List (Int × Int)} {g : Nat → Int} (h : vC l = true) (hg : ∀ i, i < l.length → g i = 0) : okG l l.length g = true ∧ gV l l.length g = l := by
  have hy := vC_yes h
  have ho := even_ok h hg (Int.le_refl _) (by omega) (s := 0) (by omega) (hy.1 0 (by omega)).2.2.1
  refine ⟨ho, ?_⟩
  obtain ⟨s, _, e, _, _, _, _, _, hj⟩ := even_yes hg ho
  have hs : s = 0 := by
    rcases Nat.eq_zero_or_pos s with e | e
    · exact e
    · have a := hj 0 e
      have b := (hy.1 0 (by omega)).2.2.1
      omega
  rw [e, hs, List.drop_zero]
  have : sh 0 = id := by funext p; simp [sh]
  rw [this, List.map_id]
end Go.Proofs.Ytfngdemjlglliaa
