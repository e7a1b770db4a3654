/-
  Words for rows of integers, and what a call returns that only draws.
-/
import Derived.Test.YtfngdemjlglliaaRows
import Derived.Test.YtfngdemjlglliaaIntsOwn
import Derived.Handy
import Derived.Deep.Draws
import Derived.Deep.QuietTactic
import Derived.BigQuiet
namespace Go.Proofs.Ytfngdemjlglliaa
open Go.RowKit

theorem below_drewK {B n : Nat} {a w : World} (h : Below B a w) : Below B a (w.drewN n) := ⟨h.os, h.tape, h.output, h.size, h.block⟩
theorem RdI.drewN {w : World} {A : Option Addr} {n : Nat} {l : List Int} (h : RdI w A n l) (m : Nat) : RdI (w.drewN m) A n l := ⟨h.len, h.at_⟩
/-- block g is just the numbers of l -/
def RowE (w : World) (g : Nat) (t : TypeId) (l : List Int) : Prop := Blk w g t (ints l).toArray
section
variable {w w' : World} {g : Nat} {t : TypeId} {l : List Int}
theorem RowE.cell (h : RowE w g t l) {j : Nat} (hj : j < l.length) : w.cell? ⟨g, j, none⟩ = some (.int .i64 (ix l j)) ∧ w.frozen? ⟨g, j, none⟩ = false := by
  refine ⟨?_, Blk.frozen h _⟩
  rw [Blk.cell h]
  simpa using ints_at l j hj
theorem RowE.put (h : RowE w g t l) (j : Nat) (x : Int) : RowE (w.setCell ⟨g, j, none⟩ (.int .i64 x)) g t (l.set j x) := by
  have := Blk.put h j (.int .i64 x)
  have e : (ints l).toArray.setIfInBounds j (.int .i64 x) = (ints (l.set j x)).toArray := by simp [ints, List.map_set]
  rwa [e] at this
theorem RowE.below (h : RowE w g t l) (hb : Below w.heap.size w w') : RowE w' g t l := Blk.below h hb (Blk.lt h)
theorem RowE.made {base n : Nat} (h : w.ownsRow base t 1 (.slice (some ⟨g, 0, none⟩) n n) n (madeCells #[Value.int .i64 0] n).toList) : RowE w g t (List.replicate n 0) := by
  obtain ⟨cs, hb, hs, _, ht⟩ := Blk.of_own h
  have e : (madeCells #[Value.int .i64 0] n).toList = List.replicate n (.int .i64 0) := toList_madeCells_one _ _
  rw [e, Nat.mul_one, List.take_of_length_le (by simp; omega)] at ht
  have e2 : cs = (ints (List.replicate n 0)).toArray := by
    apply Array.ext'
    rw [ht]
    simp [ints]
  rw [e2] at hb
  exact hb
theorem RowE.own {base : Nat} (h : RowE w g t l) (hb : base ≤ g) (hn : l.length ≤ maxLen) : OwnI w base t (.slice (some ⟨g, 0, none⟩) l.length l.length) l.length l :=
  ⟨⟨by rw [ints_len, Nat.mul_one], .inr ⟨g, l.length, _, rfl, hb, h, Nat.le_refl _, hn, by simp [ints_len], by rw [Nat.mul_one]; exact List.take_of_length_le (by simp [ints])⟩⟩, rfl⟩
end
theorem cell_1 (W : World) (t : TypeId) (u : Value) : ∀ j x, [u][j]? = some x → (W.alloc (.cells #[u] t)).cell? ((⟨W.heap.size, 0, none⟩ : Addr).add j) = some x := by
  intro j x hx
  match j with
  | 0 =>
    have hb : Blk (W.alloc (.cells #[u] t)) W.heap.size t #[u] := heap_alloc_new W _
    rw [add_none, hb.cell]
    simpa using hx
  | j + 1 => simp at hx

theorem info_int : (Try.prog.info? 3).map (fun i => (i.zero, i.size, i.bytes)) = some (some (.int .i64 0), 1, 8) := by kernel_rfl
def eqI (l m : List Int) : Bool := decide (l = m)
theorem eqI_len {l m : List Int} (h : l.length ≠ m.length) : eqI l m = false := by
  rw [eqI, decide_eq_false_iff_not]; exact fun e => h (by rw [e])
theorem eqI_at {l m : List Int} {k : Nat} (h : ¬ ix l k = ix m k) : eqI l m = false := by
  rw [eqI, decide_eq_false_iff_not]; exact fun e => h (by rw [e])
theorem eqI_all {l m : List Int} {n : Nat} (hl : l.length = n) (hm : m.length = n) (h : ∀ i, i < n → ix l i = ix m i) : eqI l m = true := by
  rw [eqI, decide_eq_true_iff]
  refine List.ext_getElem (by omega) fun i h1 h2 => ?_
  have := h i (by omega)
  rwa [ix_eq h1, ix_eq h2] at this
theorem eqI_step {l m : List Int} {k : Nat} (h : ∀ i, i < k → ix l i = ix m i) (hq : ix l k = ix m k) : ∀ i, i < k + 1 → ix l i = ix m i := by
  intro i hi
  by_cases e : i = k
  · rw [e]; exact hq
  · exact h i (by omega)
/-- a call that returns b and only draws -/
def QuietB (b : Bool) (w : World) (e : Ending) (w' : World) : Prop := e = .returned (.bool b) ∧ ∃ m, w' = w.drewN m
theorem quietB {b b' : Bool} {w W : World} (h : b' = b) (m : Nat) (hw : W = w.drewN m) : QuietB b w (.returned (.bool b')) W := ⟨by rw [h], m, hw⟩
theorem QuietB.below {b : Bool} {w w' : World} {e : Ending} (h : QuietB b w e w') : e = .returned (.bool b) ∧ Below w.heap.size w w' := by
  obtain ⟨he, m, rfl⟩ := h
  exact ⟨he, below_drewK (Below.refl _ _)⟩
theorem quietB_true {P : Program} {f : FuncId} {args : Array Value} {w : World} {n : Nat} {b : Bool} (hb : b = true) (h : Calls P f args (w.drewN n) (QuietB b (w.drewN n))) : Calls P f args (w.drewN n) fun e w'' => e = .returned (.bool true) ∧ ∃ m, w'' = w.drewN m := by
  subst hb
  exact h.mono fun _ _ ⟨he, m, hm⟩ => ⟨he, n + m, by rw [hm, World.drewN_drewN]⟩
theorem quietB_false {P : Program} {f : FuncId} {args : Array Value} {w : World} {n : Nat} {b : Bool} (hb : b = false) (h : Calls P f args (w.drewN n) (QuietB b (w.drewN n))) : Calls P f args (w.drewN n) fun e w'' => e = .returned (.bool false) ∧ ∃ m, w'' = w.drewN m := by
  subst hb
  exact h.mono fun _ _ ⟨he, m, hm⟩ => ⟨he, n + m, by rw [hm, World.drewN_drewN]⟩
end Go.Proofs.Ytfngdemjlglliaa
