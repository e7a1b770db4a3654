/-
  Rows and stacks as plain lists of integers. No function of the program in sight.
-/
import Derived.Test.YtbaplcdedijaeaaInts
namespace Go.Proofs.Ytbaplcdedijaeaa

def inR (x : Int) : Bool := inB x (-10000) 10000
/-- isRow -/
def vRow (l : List Int) : Bool := l.all inR && inB (l.length : Int) 1 20
def hd0 (L : List (List Int)) : List Int := L.headD []
/-- StackValid -/
def vStack (L : List (List Int)) : Bool := L.all (fun r => vRow r && decide (r.length = (hd0 L).length)) && inB (L.length : Int) 1 6

theorem take_all_succ {α : Type} (p : α → Bool) (l : List α) (k : Nat) (hk : k < l.length) (h : (l.take k).all p = true) (h1 : p l[k] = true) : (l.take (k + 1)).all p = true := by
  rw [List.take_succ_eq_append_getElem hk, List.all_append, h]
  simp [h1]
theorem all_bad {α : Type} (p : α → Bool) (l : List α) (k : Nat) (hk : k < l.length) (h1 : p l[k] = false) : l.all p = false := by
  rw [List.all_eq_false]
  exact ⟨l[k], List.getElem_mem hk, by simp [h1]⟩
theorem vRow_step {l : List Int} {k : Nat} (hk : k < l.length) (h : (l.take k).all inR = true) (h1 : inR (ix l k) = true) : (l.take (k + 1)).all inR = true :=
  take_all_succ inR l k hk h (by rwa [ix_eq hk] at h1)
theorem vRow_bad {l : List Int} {k : Nat} (hk : k < l.length) (h1 : inR (ix l k) = false) : vRow l = false := by
  rw [ix_eq hk] at h1
  simp [vRow, all_bad inR l k hk h1]
theorem vRow_end {l : List Int} {n : Nat} (hn : l.length = n) (h : (l.take n).all inR = true) : vRow l = inB (n : Int) 1 20 := by
  subst hn
  rw [List.take_length] at h
  simp [vRow, h]
theorem vRow_yes {l : List Int} (h : vRow l = true) : (∀ i, i < l.length → -10000 ≤ ix l i ∧ ix l i ≤ 10000) ∧ 1 ≤ l.length ∧ l.length ≤ 20 := by
  simp only [vRow, Bool.and_eq_true] at h
  have := inB_true h.2
  refine ⟨fun i hi => ?_, by omega, by omega⟩
  rw [ix_eq hi]
  exact inB_true (List.all_eq_true.1 h.1 _ (List.getElem_mem hi))
theorem vRow_mk {l : List Int} (h : ∀ i, i < l.length → -10000 ≤ ix l i ∧ ix l i ≤ 10000) (h1 : 1 ≤ l.length) (h2 : l.length ≤ 20) : vRow l = true := by
  simp only [vRow, Bool.and_eq_true]
  refine ⟨List.all_eq_true.2 fun x hx => ?_, inB_of (by omega) (by omega)⟩
  obtain ⟨i, hi, rfl⟩ := List.mem_iff_getElem.1 hx
  have := h i hi
  rw [ix_eq hi] at this
  exact inB_of this.1 this.2

/-- row i of a list of rows -/
def rw_ (L : List (List Int)) (i : Nat) : List Int := L.getD i []
theorem rw_eq {L : List (List Int)} {i : Nat} (h : i < L.length) : rw_ L i = L[i] := by simp [rw_, h]
theorem hd0_eq (L : List (List Int)) : hd0 L = rw_ L 0 := by cases L <;> rfl
def okR (m : Nat) (r : List Int) : Bool := vRow r && decide (r.length = m)
theorem vStack_def (L : List (List Int)) : vStack L = (L.all (okR (hd0 L).length) && inB (L.length : Int) 1 6) := rfl
theorem vStack_step {L : List (List Int)} {m k : Nat} (hk : k < L.length) (h : (L.take k).all (okR m) = true) (h1 : vRow (rw_ L k) = true) (h2 : (rw_ L k).length = m) : (L.take (k + 1)).all (okR m) = true :=
  take_all_succ _ L k hk h (by rw [rw_eq hk] at h1 h2; simp [okR, h1, h2])
theorem vStack_bad {L : List (List Int)} {k : Nat} (hk : k < L.length) (h1 : vRow (rw_ L k) = false ∨ (rw_ L k).length ≠ (rw_ L 0).length) : vStack L = false := by
  rw [rw_eq hk, ← hd0_eq] at h1
  rw [vStack_def, all_bad (okR (hd0 L).length) L k hk (by rcases h1 with h1 | h1 <;> simp [okR, h1])]
  rfl
theorem vStack_end {L : List (List Int)} {n : Nat} (hn : L.length = n) (h : (L.take n).all (okR (rw_ L 0).length) = true) : vStack L = inB (n : Int) 1 6 := by
  subst hn
  rw [List.take_length, ← hd0_eq] at h
  rw [vStack_def, h]
  simp
theorem vStack_yes {L : List (List Int)} (h : vStack L = true) : (∀ i, i < L.length → vRow (rw_ L i) = true ∧ (rw_ L i).length = (rw_ L 0).length) ∧ 1 ≤ L.length ∧ L.length ≤ 6 := by
  rw [vStack_def, Bool.and_eq_true] at h
  have := inB_true h.2
  refine ⟨fun i hi => ?_, by omega, by omega⟩
  rw [rw_eq hi, ← hd0_eq]
  have := List.all_eq_true.1 h.1 _ (List.getElem_mem hi)
  simpa [okR] using this
theorem vStack_mk {L : List (List Int)} (h : ∀ i, i < L.length → vRow (rw_ L i) = true ∧ (rw_ L i).length = (rw_ L 0).length) (h1 : 1 ≤ L.length) (h2 : L.length ≤ 6) : vStack L = true := by
  rw [vStack_def, Bool.and_eq_true]
  refine ⟨List.all_eq_true.2 fun x hx => ?_, inB_of (by omega) (by omega)⟩
  obtain ⟨i, hi, rfl⟩ := List.mem_iff_getElem.1 hx
  have := h i hi
  rw [rw_eq hi, ← hd0_eq] at this
  simp [okR, this.1, this.2]

/-- the sum of place k over the first i rows -/
def ps (L : List (List Int)) (k : Nat) : Nat → Int
  | 0 => 0
  | i + 1 => ps L k i + ix (rw_ L i) k
def sumAt (L : List (List Int)) (k : Nat) : Int := ps L k L.length
def wide (L : List (List Int)) : Nat := (rw_ L 0).length
def sums (L : List (List Int)) : List Int := (List.range (wide L)).map (sumAt L)
def sumV (L : List (List Int)) : List Int := if vStack L then sums L else []
theorem ps_bd {L : List (List Int)} (h : vStack L = true) {k i : Nat} (hk : k < wide L) (hi : i ≤ L.length) : -(10000 * (i : Int)) ≤ ps L k i ∧ ps L k i ≤ 10000 * (i : Int) := by
  induction i with
  | zero => simp [ps]
  | succ i ih =>
    have h1 := ih (by omega)
    have h2 := (vStack_yes h).1 i (by omega)
    have h3 := (vRow_yes h2.1).1 k (by rw [h2.2]; exact hk)
    rw [ps]
    push_cast
    omega
theorem sums_len (L : List (List Int)) : (sums L).length = wide L := by simp [sums]
theorem sums_ix {L : List (List Int)} {k : Nat} (hk : k < wide L) : ix (sums L) k = sumAt L k := by
  rw [ix_eq (by rw [sums_len]; exact hk)]
  simp [sums]
theorem sumAt_bd {L : List (List Int)} (h : vStack L = true) {k : Nat} (hk : k < wide L) : -60000 ≤ sumAt L k ∧ sumAt L k ≤ 60000 := by
  have := ps_bd h hk (Nat.le_refl _)
  have := vStack_yes h
  unfold sumAt
  omega
/-- how far row i is from the mean, over the first k places -/
def farP (L : List (List Int)) (i : Nat) : Nat → Int
  | 0 => 0
  | k + 1 => farP L i k + max ((L.length : Int) * ix (rw_ L i) k - sumAt L k) (-((L.length : Int) * ix (rw_ L i) k - sumAt L k))
def okI (L : List (List Int)) (i : Int) : Bool := vStack L && inB i 0 ((L.length : Int) - 1)
def farV (L : List (List Int)) (i : Int) : Int := if okI L i then farP L i.toNat (wide L) else -1
theorem prod6 {n x : Int} (h0 : 0 ≤ n) (h1 : n ≤ 6) (h2 : -10000 ≤ x) (h3 : x ≤ 10000) : -60000 ≤ n * x ∧ n * x ≤ 60000 := by
  rcases (show n = 0 ∨ n = 1 ∨ n = 2 ∨ n = 3 ∨ n = 4 ∨ n = 5 ∨ n = 6 by omega) with rfl | rfl | rfl | rfl | rfl | rfl | rfl <;> omega
theorem far_step {L : List (List Int)} (h : vStack L = true) {i k : Nat} (hi : i < L.length) (hk : k < wide L) : -60000 ≤ (L.length : Int) * ix (rw_ L i) k ∧ (L.length : Int) * ix (rw_ L i) k ≤ 60000 ∧ -60000 ≤ sumAt L k ∧ sumAt L k ≤ 60000 := by
  have h1 := sumAt_bd h hk
  have h2 := vStack_yes h
  have h3 := h2.1 i hi
  have h4 := (vRow_yes h3.1).1 k (by rw [h3.2]; exact hk)
  have := prod6 (n := (L.length : Int)) (x := ix (rw_ L i) k) (by omega) (by omega) h4.1 h4.2
  omega
theorem farP_bd {L : List (List Int)} (h : vStack L = true) {i k : Nat} (hi : i < L.length) (hk : k ≤ wide L) : 0 ≤ farP L i k ∧ farP L i k ≤ 120000 * (k : Int) := by
  induction k with
  | zero => simp [farP]
  | succ k ih =>
    have h1 := ih (by omega)
    have h2 := far_step h hi (show k < wide L by omega)
    rw [farP]
    push_cast
    omega
theorem wide_bd {L : List (List Int)} (h : vStack L = true) : 1 ≤ wide L ∧ wide L ≤ 20 := by
  have h2 := vStack_yes h
  have h3 := h2.1 0 (by omega)
  have := vRow_yes h3.1
  unfold wide
  omega
end Go.Proofs.Ytbaplcdedijaeaa
