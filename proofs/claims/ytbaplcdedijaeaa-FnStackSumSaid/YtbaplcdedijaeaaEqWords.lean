/-
  Words for lists of integers that are compared. No function of the program in sight.
-/
import Derived.Test.YtbaplcdedijaeaaStackRows
import Derived.Test.YtbaplcdedijaeaaStackSum
import Derived.Deep.Draws
namespace Go.Proofs.Ytbaplcdedijaeaa
open Go.RowKit

def eqI (l m : List Int) : Bool := decide (l = m)
def eqR (l m : List (List Int)) : Bool := decide (l = m)
theorem eqI_len {l m : List Int} (h : l.length ≠ m.length) : eqI l m = false := by
  rw [eqI, decide_eq_false_iff_not]; exact fun e => h (by rw [e])
theorem eqI_at {l m : List Int} {k : Nat} (h : ¬ ix l k = ix m k) : eqI l m = false := by
  rw [eqI, decide_eq_false_iff_not]; exact fun e => h (by rw [e])
theorem eqI_all {l m : List Int} {n : Nat} (hl : l.length = n) (hm : m.length = n) (h : ∀ i, i < n → ix l i = ix m i) : eqI l m = true := by
  rw [eqI, decide_eq_true_iff]
  refine List.ext_getElem (by omega) fun i h1 h2 => ?_
  have := h i (by omega)
  rwa [ix_eq h1, ix_eq h2] at this
theorem eqI_step {l m : List Int} {k : Nat} (h : ∀ i, i < k → ix l i = ix m i) (hq : ix l k = ix m k) : ∀ i, i < k + 1 → ix l i = ix m i := by
  intro i hi
  by_cases e : i = k
  · rw [e]; exact hq
  · exact h i (by omega)
theorem eqR_len {l m : List (List Int)} (h : l.length ≠ m.length) : eqR l m = false := by
  rw [eqR, decide_eq_false_iff_not]; exact fun e => h (by rw [e])
theorem eqR_at {l m : List (List Int)} {k : Nat} (h : ¬ rw_ l k = rw_ m k) : eqR l m = false := by
  rw [eqR, decide_eq_false_iff_not]; exact fun e => h (by rw [e])
theorem eqR_all {l m : List (List Int)} {n : Nat} (hl : l.length = n) (hm : m.length = n) (h : ∀ i, i < n → rw_ l i = rw_ m i) : eqR l m = true := by
  rw [eqR, decide_eq_true_iff]
  refine List.ext_getElem (by omega) fun i h1 h2 => ?_
  have := h i (by omega)
  rwa [rw_eq h1, rw_eq h2] at this
theorem eqR_step {l m : List (List Int)} {k : Nat} (h : ∀ i, i < k → rw_ l i = rw_ m i) (hq : rw_ l k = rw_ m k) : ∀ i, i < k + 1 → rw_ l i = rw_ m i := by
  intro i hi
  by_cases e : i = k
  · rw [e]; exact hq
  · exact h i (by omega)
/-- a call that returns b and only draws -/
def QuietB (b : Bool) (w : World) (e : Ending) (w' : World) : Prop := e = .returned (.bool b) ∧ ∃ m, w' = w.drewN m
theorem quietB {b b' : Bool} {w W : World} (h : b' = b) (m : Nat) (hw : W = w.drewN m) : QuietB b w (.returned (.bool b')) W := ⟨by rw [h], m, hw⟩
theorem QuietB.below {b : Bool} {w w' : World} {e : Ending} (h : QuietB b w e w') : e = .returned (.bool b) ∧ Below w.heap.size w w' := by
  obtain ⟨he, m, rfl⟩ := h
  exact ⟨he, below_drewK (Below.refl _ _)⟩
theorem quietB_true {P : Program} {f : FuncId} {args : Array Value} {w : World} {n : Nat} {b : Bool} (hb : b = true) (h : Calls P f args (w.drewN n) (QuietB b (w.drewN n))) : Calls P f args (w.drewN n) fun e w'' => e = .returned (.bool true) ∧ ∃ m, w'' = w.drewN m := by
  subst hb
  exact h.mono fun _ _ ⟨he, m, hm⟩ => ⟨he, n + m, by rw [hm, World.drewN_drewN]⟩
theorem quietB_false {P : Program} {f : FuncId} {args : Array Value} {w : World} {n : Nat} {b : Bool} (hb : b = false) (h : Calls P f args (w.drewN n) (QuietB b (w.drewN n))) : Calls P f args (w.drewN n) fun e w'' => e = .returned (.bool false) ∧ ∃ m, w'' = w.drewN m := by
  subst hb
  exact h.mono fun _ _ ⟨he, m, hm⟩ => ⟨he, n + m, by rw [hm, World.drewN_drewN]⟩
end Go.Proofs.Ytbaplcdedijaeaa
