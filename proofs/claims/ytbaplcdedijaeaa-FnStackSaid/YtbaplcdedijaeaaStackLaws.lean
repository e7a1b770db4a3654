/-
  The plain laws on stacks: parts of stacks, sums of parts, a common shift, rows that are left out. No function of the program in sight.
-/
import Derived.Test.YtbaplcdedijaeaaStackMath
namespace Go.Proofs.Ytbaplcdedijaeaa

theorem rw_len {L : List (List Int)} {i : Nat} (h : L.length ≤ i) : rw_ L i = [] := by simp [rw_, h]
/-- a list of rows of a stack, at least one, not too many, is a stack -/
theorem vStack_sub {L M : List (List Int)} (h : vStack L = true) (hs : ∀ r ∈ M, r ∈ L) (h1 : 1 ≤ M.length) (h2 : M.length ≤ 6) : vStack M = true := by
  obtain ⟨hy, _, _⟩ := vStack_yes h
  have hr : ∀ r ∈ M, vRow r = true ∧ r.length = (rw_ L 0).length := by
    intro r hr
    obtain ⟨i, hi, rfl⟩ := List.mem_iff_getElem.1 (hs r hr)
    have := hy i hi
    rwa [rw_eq hi] at this
  refine vStack_mk (fun i hi => ?_) h1 h2
  have a := hr M[i] (List.getElem_mem hi)
  have b := hr M[0] (List.getElem_mem (by omega))
  rw [rw_eq hi, rw_eq (by omega)]
  exact ⟨a.1, by rw [a.2, b.2]⟩
theorem wide_sub {L M : List (List Int)} (h : vStack L = true) (hs : ∀ r ∈ M, r ∈ L) (h1 : 1 ≤ M.length) : wide M = wide L := by
  obtain ⟨hy, _, _⟩ := vStack_yes h
  unfold wide
  rw [rw_eq (show 0 < M.length by omega)]
  obtain ⟨i, hi, e⟩ := List.mem_iff_getElem.1 (hs M[0] (List.getElem_mem (by omega)))
  have := (hy i hi).2
  rw [rw_eq hi, e] at this
  exact this
theorem vStack_nil : vStack [] = false := by simp [vStack, inB]
theorem vStack_take {L : List (List Int)} {k : Nat} (h : vStack L = true) (h1 : 1 ≤ k) : vStack (L.take k) = true := by
  have := vStack_yes h
  exact vStack_sub h (fun r hr => List.mem_of_mem_take hr) (by simp; omega) (by simp; omega)
theorem vStack_drop {L : List (List Int)} {k : Nat} (h : vStack L = true) (h1 : k < L.length) : vStack (L.drop k) = true := by
  have := vStack_yes h
  exact vStack_sub h (fun r hr => List.mem_of_mem_drop hr) (by simp; omega) (by simp; omega)
theorem vStack_rev {L : List (List Int)} (h : vStack L = true) : vStack L.reverse = true := by
  have := vStack_yes h
  exact vStack_sub h (fun r hr => List.mem_reverse.1 hr) (by simp; omega) (by simp; omega)
theorem vStack_more {L : List (List Int)} (h : vStack L = true) : vStack (L ++ [rw_ L 0 ++ [0]]) = false := by
  obtain ⟨_, h1, _⟩ := vStack_yes h
  refine vStack_bad (k := L.length) (by simp) (.inr ?_)
  have e1 : rw_ (L ++ [rw_ L 0 ++ [0]]) L.length = rw_ L 0 ++ [0] := by simp [rw_]
  have e2 : rw_ (L ++ [rw_ L 0 ++ [0]]) 0 = rw_ L 0 := by
    rw [rw_eq (by simp), rw_eq (by omega)]
    exact List.getElem_append_left (by omega)
  rw [e1, e2]
  simp

/-- a sum of a place over a list of rows -/
def sm (k : Nat) : List (List Int) → Int
  | [] => 0
  | r :: L => ix r k + sm k L
theorem sm_app (k : Nat) (L M : List (List Int)) : sm k (L ++ M) = sm k L + sm k M := by
  induction L with
  | nil => simp [sm]
  | cons r L ih => simp [sm, ih, Int.add_assoc]
theorem sm_rev (k : Nat) (L : List (List Int)) : sm k L.reverse = sm k L := by
  induction L with
  | nil => rfl
  | cons r L ih => rw [List.reverse_cons, sm_app, ih]; simp [sm, Int.add_comm]
theorem ps_sm (L : List (List Int)) (k i : Nat) (h : i ≤ L.length) : ps L k i = sm k (L.take i) := by
  induction i with
  | zero => simp [ps, sm]
  | succ i ih =>
    rw [ps, ih (by omega), List.take_succ_eq_append_getElem (by omega), sm_app, rw_eq (by omega)]
    simp [sm]
theorem sumAt_sm (L : List (List Int)) (k : Nat) : sumAt L k = sm k L := by rw [sumAt, ps_sm L k _ (Nat.le_refl _), List.take_length]
theorem sums_rev {L : List (List Int)} (h : vStack L = true) : sums L.reverse = sums L := by
  obtain ⟨_, h1, _⟩ := vStack_yes h
  unfold sums
  rw [wide_sub h (fun r hr => List.mem_reverse.1 hr) (by simp; omega)]
  refine List.map_congr_left fun k _ => ?_
  rw [sumAt_sm, sumAt_sm, sm_rev]
theorem sumV_rev {L : List (List Int)} (h : vStack L = true) : sumV L.reverse = sumV L := by rw [sumV, sumV, if_pos h, if_pos (vStack_rev h), sums_rev h]
theorem sumV_len {L : List (List Int)} (h : vStack L = true) : (sumV L).length = wide L := by rw [sumV, if_pos h, sums_len]
theorem sumV_parts {L : List (List Int)} {k : Nat} (h : vStack L = true) (h0 : 1 ≤ k) (hk : k < L.length) :
    (sumV (L.take k)).length = wide L ∧ (sumV (L.drop k)).length = wide L ∧ ∀ i, i < wide L → ix (sumV (L.take k)) i + ix (sumV (L.drop k)) i = ix (sumV L) i := by
  have a := vStack_take h h0
  have b := vStack_drop h hk
  have wa := wide_sub h (M := L.take k) (fun r hr => List.mem_of_mem_take hr) (by simp; omega)
  have wb := wide_sub h (M := L.drop k) (fun r hr => List.mem_of_mem_drop hr) (by simp; omega)
  refine ⟨by rw [sumV_len a, wa], by rw [sumV_len b, wb], fun i hi => ?_⟩
  rw [sumV, sumV, sumV, if_pos a, if_pos b, if_pos h, sums_ix (by omega), sums_ix (by omega), sums_ix hi, sumAt_sm, sumAt_sm, sumAt_sm, ← sm_app, List.take_append_drop]
theorem sumV_bd {L : List (List Int)} (h : vStack L = true) {k : Nat} (hk : k < wide L) : -60000 ≤ ix (sumV L) k ∧ ix (sumV L) k ≤ 60000 := by
  rw [sumV, if_pos h, sums_ix hk]
  exact sumAt_bd h hk

/-- all numbers 3 more -/
def up3 (l : List Int) : List Int := l.map (· + 3)
def up3s (L : List (List Int)) : List (List Int) := L.map up3
theorem up3_ix {l : List Int} {i : Nat} (h : i < l.length) : ix (up3 l) i = ix l i + 3 := by
  rw [ix_eq (by simpa [up3] using h), ix_eq h]
  simp [up3]
theorem up3s_rw {L : List (List Int)} {i : Nat} (h : i < L.length) : rw_ (up3s L) i = up3 (rw_ L i) := by
  rw [rw_eq (by simpa [up3s] using h), rw_eq h]
  simp [up3s]
theorem ps_up3 {L : List (List Int)} {k i : Nat} (hi : i ≤ L.length) (hk : ∀ j, j < L.length → k < (rw_ L j).length) : ps (up3s L) k i = ps L k i + 3 * (i : Int) := by
  induction i with
  | zero => simp [ps]
  | succ i ih =>
    rw [ps, ps, ih (by omega), up3s_rw (by omega), up3_ix (hk i (by omega))]
    push_cast
    omega
theorem far_up3 {L : List (List Int)} {i k : Nat} (h : vStack L = true) (hi : i < L.length) (hk : k ≤ wide L) : farP (up3s L) i k = farP L i k := by
  obtain ⟨hy, _, _⟩ := vStack_yes h
  induction k with
  | zero => rfl
  | succ k ih =>
    have hw : ∀ j, j < L.length → k < (rw_ L j).length := fun j hj => by rw [(hy j hj).2]; exact hk
    have hl : (up3s L).length = L.length := by simp [up3s]
    have hs : sumAt (up3s L) k = sumAt L k + 3 * (L.length : Int) := by rw [sumAt, sumAt, hl, ps_up3 (Nat.le_refl _) hw]
    rw [farP, farP, ih (by omega), hl, hs, up3s_rw hi, up3_ix (hw i hi)]
    have : (L.length : Int) * (ix (rw_ L i) k + 3) - (sumAt L k + 3 * (L.length : Int)) = (L.length : Int) * ix (rw_ L i) k - sumAt L k := by grind
    rw [this]
/-- StackFar of the rows that are 3 more: the same, or the rows are no stack -/
theorem farV_up3 {L : List (List Int)} {i : Int} (h : okI L i = true) : (vStack (up3s L) = true ∧ farV (up3s L) i = farV L i) ∨ (vStack (up3s L) = false ∧ farV (up3s L) i = -1) := by
  have h' := h
  rw [okI, Bool.and_eq_true] at h'
  obtain ⟨h1, h2⟩ := h'
  have hb := inB_true h2
  have hl : (up3s L).length = L.length := by simp [up3s]
  rcases Bool.eq_false_or_eq_true (vStack (up3s L)) with hv | hv
  · refine .inl ⟨hv, ?_⟩
    have ho : okI (up3s L) i = true := by rw [okI, hv, hl, h2]; rfl
    have hw : wide (up3s L) = wide L := by
      obtain ⟨_, h3, _⟩ := vStack_yes h1
      unfold wide
      rw [up3s_rw (by omega)]
      simp [up3]
    rw [farV, farV, if_pos h, if_pos ho, hw, far_up3 h1 (by omega) (Nat.le_refl _)]
  · exact .inr ⟨hv, by rw [farV, okI, hv]; rfl⟩
theorem farV_pos {L : List (List Int)} {i : Int} (h : okI L i = true) : 0 ≤ farV L i := by
  have h' := h
  rw [okI, Bool.and_eq_true] at h'
  have hb := inB_true h'.2
  rw [farV, if_pos h]
  exact (farP_bd h'.1 (by omega) (Nat.le_refl _)).1
theorem farV_no {L : List (List Int)} {i : Int} (h : okI L i = false) : farV L i = -1 := by simp [farV, h]

/-- StackWithout -/
def okW (L : List (List Int)) (i : Int) : Bool := okI L i && decide (L.length ≠ 1)
def woV (L : List (List Int)) (i : Int) : List (List Int) := if okW L i then L.eraseIdx i.toNat else []
theorem okW_yes {L : List (List Int)} {i : Int} (h : okW L i = true) : vStack L = true ∧ 0 ≤ i ∧ i.toNat < L.length ∧ 2 ≤ L.length ∧ L.length ≤ 6 := by
  simp only [okW, okI, Bool.and_eq_true, decide_eq_true_eq] at h
  have := inB_true h.1.2
  have := vStack_yes h.1.1
  exact ⟨h.1.1, by omega, by omega, by omega, by omega⟩
theorem okW_mk {L : List (List Int)} {i : Nat} (h : vStack L = true) (hi : i < L.length) (h2 : 2 ≤ L.length) : okW L (i : Int) = true := by
  simp only [okW, okI, Bool.and_eq_true, decide_eq_true_eq]
  exact ⟨⟨h, inB_of (by omega) (by omega)⟩, by omega⟩
theorem woV_yes {L : List (List Int)} {i : Int} (h : okW L i = true) : woV L i = L.eraseIdx i.toNat := by rw [woV, if_pos h]
theorem woV_stack {L : List (List Int)} {i : Int} (h : okW L i = true) : vStack (woV L i) = true ∧ (woV L i).length = L.length - 1 := by
  obtain ⟨h1, h2, h3, h4, h5⟩ := okW_yes h
  rw [woV_yes h]
  have hl : (L.eraseIdx i.toNat).length = L.length - 1 := by simp [List.length_eraseIdx, h3]
  exact ⟨vStack_sub h1 (fun r hr => List.mem_of_mem_eraseIdx hr) (by omega) (by omega), hl⟩
/-- one step of a loop that leaves row i out -/
theorem erase_step {L : List (List Int)} {i k : Nat} (hk : k < L.length) (hne : k ≠ i) : (L.take (k + 1)).eraseIdx i = (L.take k).eraseIdx i ++ [rw_ L k] := by
  rw [List.take_succ_eq_append_getElem hk, rw_eq hk, List.eraseIdx_append]
  have hl : (L.take k).length = k := by simp; omega
  rw [hl]
  by_cases h : i < k
  · rw [if_pos h]
  · rw [if_neg h, List.eraseIdx_of_length_le (l := L.take k) (by omega)]
    congr 1
    exact List.eraseIdx_of_length_le (by simp; omega)
theorem erase_skip {L : List (List Int)} {k : Nat} (hk : k < L.length) : (L.take (k + 1)).eraseIdx k = (L.take k).eraseIdx k := by
  rw [List.take_succ_eq_append_getElem hk, List.eraseIdx_append]
  have hl : (L.take k).length = k := by simp; omega
  rw [hl, if_neg (by omega), List.eraseIdx_of_length_le (l := L.take k) (by omega)]
  simp
theorem wo_order {L : List (List Int)} {i : Nat} (hi : i < L.length) : (L.eraseIdx i).take i ++ [rw_ L i] ++ (L.eraseIdx i).drop i = L := by
  rw [List.eraseIdx_eq_take_drop_succ, rw_eq hi]
  have hl : (L.take i).length = i := by simp; omega
  rw [List.take_left' hl, List.drop_left' hl, List.append_assoc, List.singleton_append, List.getElem_cons_drop, List.take_append_drop]
/-- two rows are left out in any order -/
theorem wo_two {L : List (List Int)} {i : Nat} (hi : i < L.length) (h3 : 3 ≤ L.length) :
    (L.eraseIdx i).eraseIdx 0 = (L.eraseIdx (if i = 0 then 1 else 0)).eraseIdx (if i = 0 then 0 else i - 1) := by
  match L, i with
  | [], _ => simp at h3
  | [_], _ => simp at h3
  | a :: b :: L, 0 => simp
  | a :: b :: L, i + 1 => simp
end Go.Proofs.Ytbaplcdedijaeaa
