/-
  Single cells that a walk keeps in memory, and how a region that makes a box more ends in one way. No function of the program in sight.
-/
import Derived.Test.YtfngdemjlglliaaLagWords
namespace Go.Proofs.Ytfngdemjlglliaa
open Go.RowKit

def CellsG : List (Nat × Nat × Int) → World → Prop
  | [], _ => True
  | c :: r, W => W.cell? ⟨c.1, c.2.1, none⟩ = some (.int .i64 c.2.2) ∧ CellsG r W
/-- the cells cs, and nothing that was there at w has turned -/
def BoxG (w : World) (cs : List (Nat × Nat × Int)) (W : World) : Prop := CellsG cs W ∧ Below w.heap.size w W
def FreshG (w : World) (cs : List (Nat × Nat × Int)) (g : Nat) : Prop := w.heap.size ≤ g ∧ ∀ c ∈ cs, c.1 < g
section
variable {w W W' : World} {cs : List (Nat × Nat × Int)} {g : Nat} {t : TypeId} {x y : Int}
theorem cellsG_below (h : CellsG cs W) (hb : Below W.heap.size W W') : CellsG cs W' := by
  induction cs with
  | nil => trivial
  | cons c r ih => exact ⟨cell_keep hb h.1, ih h.2⟩
theorem cellsG_lt (h : CellsG cs W) : ∀ c ∈ cs, c.1 < W.heap.size := by
  induction cs with
  | nil => intro c hc; cases hc
  | cons c r ih =>
    intro c' hc'
    rcases List.mem_cons.1 hc' with rfl | hc'
    · exact cell_lt h.1
    · exact ih h.2 c' hc'
theorem cellsG_set (h : CellsG cs W) (hg : ∀ c ∈ cs, c.1 < g) (u v : Value) : CellsG cs ((W.setCell ⟨g, 0, none⟩ u).setCell ⟨g, 1, none⟩ v) := by
  induction cs with
  | nil => trivial
  | cons c r ih =>
    have hlt := hg c (by simp)
    refine ⟨?_, ih h.2 fun c' hc' => hg c' (by simp [hc'])⟩
    rw [cell_off (by omega), cell_off (by omega)]; exact h.1
theorem boxG_below (h : BoxG w cs W) (hb : Below W.heap.size W W') : BoxG w cs W' := ⟨cellsG_below h.1 hb, bel0 h.2 hb⟩
theorem boxG_alloc (h : BoxG w cs W) (o : Obj) : BoxG w cs (W.alloc o) := boxG_below h ((Below.refl _ _).alloc (Nat.le_refl _) _)
theorem cellsG_drew (h : CellsG cs W) : CellsG cs W.drew := by
  induction cs with
  | nil => trivial
  | cons c r ih => exact ⟨h.1, ih h.2⟩
theorem boxG_drew (h : BoxG w cs W) : BoxG w cs W.drew := ⟨cellsG_drew h.1, h.2.drew⟩
theorem boxG_end (h : BoxG w cs W) : Below w.heap.size w W := h.2
theorem boxG_lt (h : BoxG w cs W) : FreshG w cs W.heap.size := ⟨h.2.size, cellsG_lt h.1⟩
theorem boxG_set (h : BoxG w cs W) (hg : FreshG w cs g) (u v : Value) : BoxG w cs ((W.setCell ⟨g, 0, none⟩ u).setCell ⟨g, 1, none⟩ v) := ⟨cellsG_set h.1 hg.2 u v, (h.2.setCell hg.1 _).setCell hg.1 _⟩
theorem boxG_mk (hB : Below w.heap.size w W) : BoxG w [] W := ⟨trivial, hB⟩
theorem boxG_cons {b o : Nat} {v : Int} (h : BoxG w cs W) (hc : W.cell? ⟨b, o, none⟩ = some (.int .i64 v)) : BoxG w ((b, o, v) :: cs) W := ⟨⟨hc, h.1⟩, h.2⟩
theorem boxG_two (h : BoxG w cs W) (hb : Blk W g t #[.int .i64 x, .int .i64 y]) : BoxG w ((g, 0, x) :: (g, 1, y) :: cs) W := boxG_cons (boxG_cons h hb.two.2.1) hb.two.1
theorem boxG_new (h : BoxG w cs W) : BoxG w ((W.heap.size, 0, x) :: (W.heap.size, 1, y) :: cs) (W.alloc (.cells #[.int .i64 x, .int .i64 y] t)) := boxG_two (boxG_alloc h _) (blk_new W t _)
theorem boxG_upd {a b : Value} (h : BoxG w cs ((W.setCell ⟨g, 0, none⟩ (.int .i64 x)).setCell ⟨g, 1, none⟩ (.int .i64 y))) (hb : Blk W g t #[a, b]) : BoxG w ((g, 0, x) :: (g, 1, y) :: cs) ((W.setCell ⟨g, 0, none⟩ (.int .i64 x)).setCell ⟨g, 1, none⟩ (.int .i64 y)) := boxG_two h (blk_set2 hb _ _)
theorem RdP.drewN {A : Option Addr} {n : Nat} {l : List (Int × Int)} (h : RdP w A n l) (m : Nat) : RdP (w.drewN m) A n l := ⟨h.len, h.at_⟩
end
end Go.Proofs.Ytfngdemjlglliaa
