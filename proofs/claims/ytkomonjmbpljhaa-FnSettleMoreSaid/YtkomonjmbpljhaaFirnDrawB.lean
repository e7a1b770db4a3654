/-
  Contracts of DrawFirnAbove, DrawFirnDepth, DrawFirnSettle: some short list of slabs and a number, memory of their own.
-/
import Derived.Test.YtkomonjmbpljhaaFirnDraw
import Derived.Test.YtkomonjmbpljhaaFirnMath2
import Derived.Deep.RegionWith
import Derived.IntWalk
namespace Go.Proofs.Ytkomonjmbpljhaa
open Go.RowKit

theorem only_drew {a w : World} {row : Option Nat} (h : a.grownBy w row) : a.grownBy w.drew row := ⟨h.os, h.tape, h.output, h.size, h.block⟩
theorem un_drew {a w : World} {row : Option Nat} (h : a.drew.grownBy w row) : a.grownBy w row := ⟨h.os, h.tape, h.output, h.size, h.block⟩
theorem OwnP.drew {w : World} {base : Nat} {t : TypeId} {v : Value} {n : Nat} {l : List (Int × Int)} (h : OwnP w base t v n l) : OwnP w.drew base t v n l := h.of_same fun _ _ _ => rfl
/-- what is left of a draw at its end: its list reads, nothing that was there has turned -/
def FinP (w : World) (A : Option Addr) (n : Nat) (l : List (Int × Int)) (W : World) : Prop := RdP W A n l ∧ Below w.heap.size w W
theorem FinP.alloc {w W : World} {A : Option Addr} {n : Nat} {l : List (Int × Int)} (h : FinP w A n l W) (o : Obj) : FinP w A n l (W.alloc o) :=
  ⟨h.1.below ((Below.refl _ _).alloc (Nat.le_refl _) _), h.2.alloc h.2.size _⟩
theorem draw_fin {w w1 W w5 : World} {t : TypeId} {A : Option Addr} {n c : Nat} {l : List (Int × Int)} (hO : OwnP W w1.heap.size t (.slice A n c) n l) (hG : w1.grownBy W (some w.heap.size)) (hg : W.grownBy w5 (some w.heap.size)) (hb1 : Below w.heap.size w w1) (hs1 : w1.heap.size = w.heap.size + 1) : FinP w A n l w5 := by
  obtain ⟨_, _, hv, _, _, hrd, _⟩ := (hO.grown hg (by omega)).form
  injection hv with hv1 hv2
  subst hv1
  exact ⟨hrd, only_to_below (only_same hG hg) hb1 (Nat.le_refl _) (by omega)⟩
theorem draw_mk {w W : World} {A : Option Addr} {n c : Nat} {l : List (Int × Int)} {d : Int} (h : FinP w A n l W) (hn : n ≤ 30) (hc : n ≤ c) (h0 : -1000000000 ≤ d) (h1 : d ≤ 1000000000) : DrawPI 30 w (.returned (.tuple #[.slice A n c, .int .i64 d])) W :=
  ⟨_, _, _, _, _, rfl, hn, hc, h0, h1, h.1, h.2⟩

/-- a literal list of three, behind a call that turns block g alone -/
theorem lit3 {w w' : World} {g : Nat} {t : TypeId} {a b d : Value} (hg : (w.alloc (.cells #[a, b, d] t)).grownBy w' (some g)) (hlt : g < w.heap.size) :
    w'.cell? ⟨w.heap.size, 0, none⟩ = some a ∧ w'.cell? ⟨w.heap.size, 0 + 1, none⟩ = some b ∧ w'.cell? ⟨w.heap.size, 0 + 2, none⟩ = some d := by
  have h : w'.heap[w.heap.size]? = some (.cells #[a, b, d] t (0, 0)) := (hg.block w.heap.size (by simp) (by simp; omega)).trans (heap_alloc_new w _)
  have hb : Blk w' w.heap.size t #[a, b, d] := h
  rw [hb.cell, hb.cell, hb.cell]
  exact ⟨rfl, rfl, rfl⟩

end Go.Proofs.Ytkomonjmbpljhaa
