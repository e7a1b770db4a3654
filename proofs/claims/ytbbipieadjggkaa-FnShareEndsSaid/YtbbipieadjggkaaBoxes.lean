/-
  Boxes of two numbers each that a law keeps in memory, and how a region that makes one more ends in one way. No function of the program in sight.
-/
import Derived.Test.YtbbipieadjggkaaLawWords
namespace Go.Proofs.Ytbbipieadjggkaa
open Go.RowKit

def Cells : List (Nat × Int × Int) → World → Prop
  | [], _ => True
  | b :: r, W => (W.cell? ⟨b.1, 0, none⟩ = some (.int .i64 b.2.1) ∧ W.cell? ⟨b.1, 1, none⟩ = some (.int .i64 b.2.2)) ∧ Cells r W
/-- the boxes bs, and nothing that was there has turned -/
def Boxes (w : World) (bs : List (Nat × Int × Int)) (W : World) : Prop := Cells bs W ∧ Below w.heap.size w W
/-- g is behind all boxes -/
def Fresh (w : World) (bs : List (Nat × Int × Int)) (g : Nat) : Prop := w.heap.size ≤ g ∧ ∀ b ∈ bs, b.1 < g

section
variable {w W W' : World} {bs : List (Nat × Int × Int)} {g : Nat} {t : TypeId} {x y : Int}
theorem cells_below (h : Cells bs W) (hb : Below W.heap.size W W') : Cells bs W' := by
  induction bs with
  | nil => trivial
  | cons b r ih => exact ⟨⟨cell_keep hb h.1.1, cell_keep hb h.1.2⟩, ih h.2⟩
theorem cells_lt (h : Cells bs W) : ∀ b ∈ bs, b.1 < W.heap.size := by
  induction bs with
  | nil => intro b hb; cases hb
  | cons b r ih =>
    intro b' hb'
    rcases List.mem_cons.1 hb' with rfl | hb'
    · exact cell_lt h.1.1
    · exact ih h.2 b' hb'
theorem cell_off {b b' o k : Nat} {v : Value} (hne : b ≠ b') : (W.setCell ⟨b', k, none⟩ v).cell? ⟨b, o, none⟩ = W.cell? ⟨b, o, none⟩ := World.cell?_of_block (w := W) (a := ⟨b, o, none⟩) (Below.heap_setCell W ⟨b', k, none⟩ v b hne)
theorem cells_set (h : Cells bs W) (hg : ∀ b ∈ bs, b.1 < g) (u v : Value) : Cells bs ((W.setCell ⟨g, 0, none⟩ u).setCell ⟨g, 1, none⟩ v) := by
  induction bs with
  | nil => trivial
  | cons b r ih =>
    have hlt := hg b (by simp)
    refine ⟨⟨?_, ?_⟩, ih h.2 fun b' hb' => hg b' (by simp [hb'])⟩
    · rw [cell_off (by omega), cell_off (by omega)]; exact h.1.1
    · rw [cell_off (by omega), cell_off (by omega)]; exact h.1.2
theorem box_below (h : Boxes w bs W) (hb : Below W.heap.size W W') : Boxes w bs W' := ⟨cells_below h.1 hb, bel0 h.2 hb⟩
theorem box_alloc (h : Boxes w bs W) (o : Obj) : Boxes w bs (W.alloc o) := box_below h ((Below.refl _ _).alloc (Nat.le_refl _) _)
theorem box_drew (h : Boxes w bs W) : Boxes w bs W.drew := by
  refine ⟨?_, h.2.drew⟩
  have h1 := h.1
  clear h
  induction bs with
  | nil => trivial
  | cons b r ih => exact ⟨h1.1, ih h1.2⟩
theorem box_end (h : Boxes w bs W) : Below w.heap.size w W := h.2
theorem box_lt (h : Boxes w bs W) : Fresh w bs W.heap.size := ⟨h.2.size, cells_lt h.1⟩
theorem box_lt1 (h : Boxes w bs W) : Fresh w bs (W.heap.size + 1) := ⟨by have := h.2.size; omega, fun b hb => by have := cells_lt h.1 b hb; omega⟩
theorem box_set (h : Boxes w bs W) (hg : Fresh w bs g) (u v : Value) : Boxes w bs ((W.setCell ⟨g, 0, none⟩ u).setCell ⟨g, 1, none⟩ v) := ⟨cells_set h.1 hg.2 u v, (h.2.setCell hg.1 _).setCell hg.1 _⟩
theorem box_lt_a {o : Obj} (h : Boxes w bs (W.alloc o)) : Fresh w bs (W.heap.size + 1) := by have := box_lt h; simpa using this
theorem box_put (h : Boxes w bs W) (hg : w.heap.size ≤ g) (hne : ∀ b ∈ bs, b.1 ≠ g) (k : Nat) (u : Value) : Boxes w bs (W.setCell ⟨g, k, none⟩ u) := by
  refine ⟨?_, h.2.setCell hg _⟩
  have h1 := h.1
  clear h
  induction bs with
  | nil => trivial
  | cons b r ih =>
    have hb := hne b (by simp)
    refine ⟨⟨?_, ?_⟩, ih (fun b' hb' => hne b' (by simp [hb'])) h1.2⟩
    · rw [cell_off hb]; exact h1.1.1
    · rw [cell_off hb]; exact h1.1.2
theorem box_put2 (h : Boxes w bs W) (hg : w.heap.size ≤ g) (hne : ∀ b ∈ bs, b.1 ≠ g) (u v : Value) : Boxes w bs ((W.setCell ⟨g, 0, none⟩ u).setCell ⟨g, 1, none⟩ v) := box_put (box_put h hg hne 0 u) hg hne 1 v
theorem box_grown (h : Boxes w bs W) (hb : W.grownBy W' (some g)) (hg : w.heap.size ≤ g) (hne : ∀ b ∈ bs, b.1 ≠ g) : Boxes w bs W' := by
  refine ⟨?_, h.2.trans ((Below.refl _ _).grown hb h.2.size (fun k hk => by injection hk with hk; omega))⟩
  have h1 := h.1
  clear h
  induction bs with
  | nil => trivial
  | cons b r ih =>
    have hbne := hne b (by simp)
    have F : ∀ {o : Nat} {u : Value}, W.cell? ⟨b.1, o, none⟩ = some u → W'.cell? ⟨b.1, o, none⟩ = some u := fun hu =>
      (World.cell?_of_block (w := W) (a := ⟨b.1, _, none⟩) (hb.block b.1 (cell_lt hu) (by simp; omega))).trans hu
    exact ⟨⟨F h1.1.1, F h1.1.2⟩, ih (fun b' hb' => hne b' (by simp [hb'])) h1.2⟩
theorem box_mk (hB : Below w.heap.size w W) : Boxes w [] W := ⟨trivial, hB⟩
theorem box_cons (h : Boxes w bs W) (hb : Blk W g t #[.int .i64 x, .int .i64 y]) : Boxes w ((g, x, y) :: bs) W := ⟨⟨⟨hb.two.1, hb.two.2.1⟩, h.1⟩, h.2⟩
theorem box_new (h : Boxes w bs W) : Boxes w ((W.heap.size, x, y) :: bs) (W.alloc (.cells #[.int .i64 x, .int .i64 y] t)) := box_cons (box_alloc h _) (blk_new W t _)
theorem blk_set2 {a b : Value} (h : Blk W g t #[a, b]) (u v : Value) : Blk ((W.setCell ⟨g, 0, none⟩ u).setCell ⟨g, 1, none⟩ v) g t #[u, v] := by
  have := (h.put 0 u).put 1 v
  simpa using this
theorem box_upd {a b : Value} (h : Boxes w bs ((W.setCell ⟨g, 0, none⟩ (.int .i64 x)).setCell ⟨g, 1, none⟩ (.int .i64 y))) (hb : Blk W g t #[a, b]) : Boxes w ((g, x, y) :: bs) ((W.setCell ⟨g, 0, none⟩ (.int .i64 x)).setCell ⟨g, 1, none⟩ (.int .i64 y)) := box_cons h (blk_set2 hb _ _)
theorem blk_name {cs : Array Value} (_ : Blk W g t cs) : ∃ g', g' = g := ⟨_, rfl⟩
theorem blk_n1d {cs : Array Value} (hb : Below ((w.alloc (.cells cs t)).drew).heap.size ((w.alloc (.cells cs t)).drew) W') : Blk W' w.heap.size t cs := blk_b0 (blk_new w t cs).drew hb
end
theorem absW {F : World → Prop} {S : World → Prop} {W : World} (h : ∀ W', S W' → F W') (hS : S W) : F W := h W hS
theorem way_cut {B : Nat → World → Prop} {F : Nat → World → Prop} {G : Prop} (use : (∀ g W, B g W → F g W) → G) (rest : ∀ g W, B g W → F g W) : G := use rest
end Go.Proofs.Ytbbipieadjggkaa
