/-
  Words for walks with fractions: cells that calls leave alone, boxes of two numbers, operations with one known answer; the contract of frac.
-/
import Derived.Test.YtfngdemjlglliaaFracOpsWords
import Derived.Test.YtfngdemjlglliaaFracOfImpl
namespace Go.Proofs.Ytfngdemjlglliaa
open Go.RowKit

theorem cell_lt {W : World} {b o : Nat} {u : Value} (h : W.cell? ⟨b, o, none⟩ = some u) : b < W.heap.size := by
  rcases Nat.lt_or_ge b W.heap.size with h' | h'
  · exact h'
  · exfalso
    have e : W.heap[b]? = none := Array.getElem?_eq_none h'
    simp [World.cell?, e] at h
theorem cell_keep {W W' : World} {b o : Nat} {u : Value} (hb : Below W.heap.size W W') (h : W.cell? ⟨b, o, none⟩ = some u) : W'.cell? ⟨b, o, none⟩ = some u :=
  (hb.cell (p := ⟨b, o, none⟩) (cell_lt h)).trans h
theorem op_val {v : Bool} {x y : Int} (h : okO v x y = true) : ∃ N D : Int, N = nF x y ∧ D = dF x y ∧ v = true ∧ okF x y = true ∧ vF N D = true ∧ IsFrac x y N D ∧
    ∀ (e : Ending) (w w' : World), OpPost v x y w e w' → e = .returned (.tuple #[.agg #[.int .i64 N, .int .i64 D], .bool true]) ∧ Below w.heap.size w w' := by
  simp only [okO, Bool.and_eq_true] at h
  exact ⟨_, _, rfl, rfl, h.1, h.2, (okF_val h.2).2, (okF_val h.2).1, fun e w w' hp => op_ok h.1 h.2 hp⟩

section
variable {w w' : World} {g : Nat} {t t' : TypeId} {cs cs' : Array Value} {o o' : Obj}
theorem blk_b0 (h : Blk w g t cs) (hb : Below w.heap.size w w') : Blk w' g t cs := h.below hb h.lt
theorem blk_b1 (h : Blk w g t cs) (hb : Below (w.alloc o).heap.size (w.alloc o) w') : Blk w' g t cs := blk_b0 (h.alloc _) hb
theorem blk_b2 (h : Blk w g t cs) (hb : Below ((w.alloc o).alloc o').heap.size ((w.alloc o).alloc o') w') : Blk w' g t cs := blk_b1 (h.alloc _) hb
theorem blk_n1 (hb : Below (w.alloc (.cells cs t)).heap.size (w.alloc (.cells cs t)) w') : Blk w' w.heap.size t cs := blk_b0 (blk_new w t cs) hb
theorem blk_n2 (hb : Below ((w.alloc (.cells cs t)).alloc o).heap.size ((w.alloc (.cells cs t)).alloc o) w') : Blk w' w.heap.size t cs := blk_b1 (blk_new w t cs) hb
theorem blk_n2' (hb : Below ((w.alloc o).alloc (.cells cs t)).heap.size ((w.alloc o).alloc (.cells cs t)) w') : Blk w' (w.heap.size + 1) t cs := blk_b0 (blk_new1 w o t cs) hb
theorem blk_n2d (hb : Below (((w.alloc o).alloc (.cells cs t)).drew).heap.size (((w.alloc o).alloc (.cells cs t)).drew) w') : Blk w' (w.heap.size + 1) t cs := blk_b0 (blk_new1 w o t cs).drew hb
theorem bel0 {a : World} (h : Below a.heap.size a w) (hb : Below w.heap.size w w') : Below a.heap.size a w' := h.trans (hb.mono h.size)
theorem bel1 {a : World} (h : Below a.heap.size a w) (hb : Below (w.alloc o).heap.size (w.alloc o) w') : Below a.heap.size a w' := bel0 (h.alloc h.size _) hb
theorem bel2 {a : World} (h : Below a.heap.size a w) (hb : Below ((w.alloc o).alloc o').heap.size ((w.alloc o).alloc o') w') : Below a.heap.size a w' := bel1 (h.alloc h.size _) hb
theorem bels {B : Nat} {a : World} (h : Below B a w) (hB : B ≤ a.heap.size) (hb : Below w.heap.size w w') : Below B a w' := h.trans (hb.mono (Nat.le_trans hB h.size))
end
theorem op_at {x y : Int} {v : Bool} {N D : Int} {b : Bool} (hv : v = true) (hN : nF x y = N) (hD : dF x y = D) (ho : okF x y = b) {e : Ending} {w w' : World} (hp : OpPost v x y w e w') :
    e = .returned (.tuple #[.agg #[.int .i64 N, .int .i64 D], .bool b]) ∧ Below w.heap.size w w' := by
  obtain ⟨he, hb⟩ := hp
  refine ⟨?_, hb⟩
  rw [he, nO, dO, okO, hv, if_pos rfl, if_pos rfl, hN, hD, ho]
  rfl

set_option maxHeartbeats 400000 in
theorem c_frac (n : Int) (w : World) :
    Calls Try.prog 13 #[.int .i64 n] w fun e w' => e = .returned (.agg #[.int .i64 n, .int .i64 1]) ∧ Below w.heap.size w w' := by
  go_enter Try.func13, Try.ntmps13
  go_wp2
  refine bodyPost_ret (v := .agg #[.int .i64 n, .int .i64 1]) (by simp [results, Try.results13, go_sem]) rfl ⟨rfl, ?_⟩
  go_grown

def Cells : List (Nat × Int × Int) → World → Prop
  | [], _ => True
  | b :: r, W => (W.cell? ⟨b.1, 0, none⟩ = some (.int .i64 b.2.1) ∧ W.cell? ⟨b.1, 1, none⟩ = some (.int .i64 b.2.2)) ∧ Cells r W
/-- the boxes bs, and nothing that was there has turned -/
def Boxes (w : World) (bs : List (Nat × Int × Int)) (W : World) : Prop := Cells bs W ∧ Below w.heap.size w W
/-- g is behind all boxes -/
def Fresh (w : World) (bs : List (Nat × Int × Int)) (g : Nat) : Prop := w.heap.size ≤ g ∧ ∀ b ∈ bs, b.1 < g

section
variable {w W W' : World} {bs : List (Nat × Int × Int)} {g : Nat} {t : TypeId} {x y : Int}
theorem cells_below (h : Cells bs W) (hb : Below W.heap.size W W') : Cells bs W' := by
  induction bs with
  | nil => trivial
  | cons b r ih => exact ⟨⟨cell_keep hb h.1.1, cell_keep hb h.1.2⟩, ih h.2⟩
theorem cells_lt (h : Cells bs W) : ∀ b ∈ bs, b.1 < W.heap.size := by
  induction bs with
  | nil => intro b hb; cases hb
  | cons b r ih =>
    intro b' hb'
    rcases List.mem_cons.1 hb' with rfl | hb'
    · exact cell_lt h.1.1
    · exact ih h.2 b' hb'
theorem cell_off {b b' o k : Nat} {v : Value} (hne : b ≠ b') : (W.setCell ⟨b', k, none⟩ v).cell? ⟨b, o, none⟩ = W.cell? ⟨b, o, none⟩ := World.cell?_of_block (w := W) (a := ⟨b, o, none⟩) (Below.heap_setCell W ⟨b', k, none⟩ v b hne)
theorem cells_set (h : Cells bs W) (hg : ∀ b ∈ bs, b.1 < g) (u v : Value) : Cells bs ((W.setCell ⟨g, 0, none⟩ u).setCell ⟨g, 1, none⟩ v) := by
  induction bs with
  | nil => trivial
  | cons b r ih =>
    have hlt := hg b (by simp)
    refine ⟨⟨?_, ?_⟩, ih h.2 fun b' hb' => hg b' (by simp [hb'])⟩
    · rw [cell_off (by omega), cell_off (by omega)]; exact h.1.1
    · rw [cell_off (by omega), cell_off (by omega)]; exact h.1.2
theorem box_below (h : Boxes w bs W) (hb : Below W.heap.size W W') : Boxes w bs W' := ⟨cells_below h.1 hb, bel0 h.2 hb⟩
theorem box_alloc (h : Boxes w bs W) (o : Obj) : Boxes w bs (W.alloc o) := box_below h ((Below.refl _ _).alloc (Nat.le_refl _) _)
theorem box_drew (h : Boxes w bs W) : Boxes w bs W.drew := by
  refine ⟨?_, h.2.drew⟩
  have h1 := h.1
  clear h
  induction bs with
  | nil => trivial
  | cons b r ih => exact ⟨h1.1, ih h1.2⟩
theorem box_end (h : Boxes w bs W) : Below w.heap.size w W := h.2
theorem box_lt (h : Boxes w bs W) : Fresh w bs W.heap.size := ⟨h.2.size, cells_lt h.1⟩
theorem box_lt1 (h : Boxes w bs W) : Fresh w bs (W.heap.size + 1) := ⟨by have := h.2.size; omega, fun b hb => by have := cells_lt h.1 b hb; omega⟩
theorem box_set (h : Boxes w bs W) (hg : Fresh w bs g) (u v : Value) : Boxes w bs ((W.setCell ⟨g, 0, none⟩ u).setCell ⟨g, 1, none⟩ v) := ⟨cells_set h.1 hg.2 u v, (h.2.setCell hg.1 _).setCell hg.1 _⟩
theorem box_lt_a {o : Obj} (h : Boxes w bs (W.alloc o)) : Fresh w bs (W.heap.size + 1) := by have := box_lt h; simpa using this
theorem box_put (h : Boxes w bs W) (hg : w.heap.size ≤ g) (hne : ∀ b ∈ bs, b.1 ≠ g) (k : Nat) (u : Value) : Boxes w bs (W.setCell ⟨g, k, none⟩ u) := by
  refine ⟨?_, h.2.setCell hg _⟩
  have h1 := h.1
  clear h
  induction bs with
  | nil => trivial
  | cons b r ih =>
    have hb := hne b (by simp)
    refine ⟨⟨?_, ?_⟩, ih (fun b' hb' => hne b' (by simp [hb'])) h1.2⟩
    · rw [cell_off hb]; exact h1.1.1
    · rw [cell_off hb]; exact h1.1.2
theorem box_put2 (h : Boxes w bs W) (hg : w.heap.size ≤ g) (hne : ∀ b ∈ bs, b.1 ≠ g) (u v : Value) : Boxes w bs ((W.setCell ⟨g, 0, none⟩ u).setCell ⟨g, 1, none⟩ v) := box_put (box_put h hg hne 0 u) hg hne 1 v
theorem box_grown (h : Boxes w bs W) (hb : W.grownBy W' (some g)) (hg : w.heap.size ≤ g) (hne : ∀ b ∈ bs, b.1 ≠ g) : Boxes w bs W' := by
  refine ⟨?_, h.2.trans ((Below.refl _ _).grown hb h.2.size (fun k hk => by injection hk with hk; omega))⟩
  have h1 := h.1
  clear h
  induction bs with
  | nil => trivial
  | cons b r ih =>
    have hbne := hne b (by simp)
    have F : ∀ {o : Nat} {u : Value}, W.cell? ⟨b.1, o, none⟩ = some u → W'.cell? ⟨b.1, o, none⟩ = some u := fun hu =>
      (World.cell?_of_block (w := W) (a := ⟨b.1, _, none⟩) (hb.block b.1 (cell_lt hu) (by simp; omega))).trans hu
    exact ⟨⟨F h1.1.1, F h1.1.2⟩, ih (fun b' hb' => hne b' (by simp [hb'])) h1.2⟩
theorem box_mk (hB : Below w.heap.size w W) : Boxes w [] W := ⟨trivial, hB⟩
theorem box_cons (h : Boxes w bs W) (hb : Blk W g t #[.int .i64 x, .int .i64 y]) : Boxes w ((g, x, y) :: bs) W := ⟨⟨⟨hb.two.1, hb.two.2.1⟩, h.1⟩, h.2⟩
theorem box_new (h : Boxes w bs W) : Boxes w ((W.heap.size, x, y) :: bs) (W.alloc (.cells #[.int .i64 x, .int .i64 y] t)) := box_cons (box_alloc h _) (blk_new W t _)
theorem blk_set2 {a b : Value} (h : Blk W g t #[a, b]) (u v : Value) : Blk ((W.setCell ⟨g, 0, none⟩ u).setCell ⟨g, 1, none⟩ v) g t #[u, v] := by
  have := (h.put 0 u).put 1 v
  simpa using this
theorem box_upd {a b : Value} (h : Boxes w bs ((W.setCell ⟨g, 0, none⟩ (.int .i64 x)).setCell ⟨g, 1, none⟩ (.int .i64 y))) (hb : Blk W g t #[a, b]) : Boxes w ((g, x, y) :: bs) ((W.setCell ⟨g, 0, none⟩ (.int .i64 x)).setCell ⟨g, 1, none⟩ (.int .i64 y)) := box_cons h (blk_set2 hb _ _)
theorem blk_name {cs : Array Value} (_ : Blk W g t cs) : ∃ g', g' = g := ⟨_, rfl⟩
theorem blk_n1d {cs : Array Value} (hb : Below ((w.alloc (.cells cs t)).drew).heap.size ((w.alloc (.cells cs t)).drew) W') : Blk W' w.heap.size t cs := blk_b0 (blk_new w t cs).drew hb
end
theorem absW {F : World → Prop} {S : World → Prop} {W : World} (h : ∀ W', S W' → F W') (hS : S W) : F W := h W hS
theorem way_cut {B : Nat → World → Prop} {F : Nat → World → Prop} {G : Prop} (use : (∀ g W, B g W → F g W) → G) (rest : ∀ g W, B g W → F g W) : G := use rest
section
variable {w w' a : World} {g : Nat} {t : TypeId} {cs : Array Value} {o1 o2 o3 o4 : Obj}
theorem blk_new2' (w : World) (o1 o2 : Obj) (t : TypeId) (cs : Array Value) : Blk (((w.alloc o1).alloc o2).alloc (.cells cs t)) (w.heap.size + 1 + 1) t cs := by
  have h := blk_new ((w.alloc o1).alloc o2) t cs
  have e : ((w.alloc o1).alloc o2).heap.size = w.heap.size + 1 + 1 := by simp
  rwa [e] at h
theorem blk_new3' (w : World) (o1 o2 o3 : Obj) (t : TypeId) (cs : Array Value) : Blk ((((w.alloc o1).alloc o2).alloc o3).alloc (.cells cs t)) (w.heap.size + 1 + 1 + 1) t cs := by
  have h := blk_new (((w.alloc o1).alloc o2).alloc o3) t cs
  have e : (((w.alloc o1).alloc o2).alloc o3).heap.size = w.heap.size + 1 + 1 + 1 := by simp
  rwa [e] at h
theorem blk_b3 (h : Blk w g t cs) (hb : Below (((w.alloc o1).alloc o2).alloc o3).heap.size (((w.alloc o1).alloc o2).alloc o3) w') : Blk w' g t cs := blk_b2 (h.alloc _) hb
theorem bel3 (h : Below a.heap.size a w) (hb : Below (((w.alloc o1).alloc o2).alloc o3).heap.size (((w.alloc o1).alloc o2).alloc o3) w') : Below a.heap.size a w' := bel2 (h.alloc h.size _) hb
theorem blk_n3_1 (hb : Below (((w.alloc (.cells cs t)).alloc o2).alloc o3).heap.size (((w.alloc (.cells cs t)).alloc o2).alloc o3) w') : Blk w' (w.heap.size) t cs := blk_b2 (blk_new w t cs) hb
theorem blk_n3_2 (hb : Below (((w.alloc o1).alloc (.cells cs t)).alloc o3).heap.size (((w.alloc o1).alloc (.cells cs t)).alloc o3) w') : Blk w' (w.heap.size + 1) t cs := blk_b1 (blk_new1 w o1 t cs) hb
theorem blk_n3_3 (hb : Below (((w.alloc o1).alloc o2).alloc (.cells cs t)).heap.size (((w.alloc o1).alloc o2).alloc (.cells cs t)) w') : Blk w' (w.heap.size + 1 + 1) t cs := blk_b0 (blk_new2' w o1 o2 t cs) hb
theorem blk_b4 (h : Blk w g t cs) (hb : Below ((((w.alloc o1).alloc o2).alloc o3).alloc o4).heap.size ((((w.alloc o1).alloc o2).alloc o3).alloc o4) w') : Blk w' g t cs := blk_b3 (h.alloc _) hb
theorem bel4 (h : Below a.heap.size a w) (hb : Below ((((w.alloc o1).alloc o2).alloc o3).alloc o4).heap.size ((((w.alloc o1).alloc o2).alloc o3).alloc o4) w') : Below a.heap.size a w' := bel3 (h.alloc h.size _) hb
theorem blk_n4_1 (hb : Below ((((w.alloc (.cells cs t)).alloc o2).alloc o3).alloc o4).heap.size ((((w.alloc (.cells cs t)).alloc o2).alloc o3).alloc o4) w') : Blk w' (w.heap.size) t cs := blk_b3 (blk_new w t cs) hb
theorem blk_n4_2 (hb : Below ((((w.alloc o1).alloc (.cells cs t)).alloc o3).alloc o4).heap.size ((((w.alloc o1).alloc (.cells cs t)).alloc o3).alloc o4) w') : Blk w' (w.heap.size + 1) t cs := blk_b2 (blk_new1 w o1 t cs) hb
theorem blk_n4_3 (hb : Below ((((w.alloc o1).alloc o2).alloc (.cells cs t)).alloc o4).heap.size ((((w.alloc o1).alloc o2).alloc (.cells cs t)).alloc o4) w') : Blk w' (w.heap.size + 1 + 1) t cs := blk_b1 (blk_new2' w o1 o2 t cs) hb
theorem blk_n4_4 (hb : Below ((((w.alloc o1).alloc o2).alloc o3).alloc (.cells cs t)).heap.size ((((w.alloc o1).alloc o2).alloc o3).alloc (.cells cs t)) w') : Blk w' (w.heap.size + 1 + 1 + 1) t cs := blk_b0 (blk_new3' w o1 o2 o3 t cs) hb
theorem blk_off2 {g' : Nat} (h : Blk w g t cs) (hne : g ≠ g') (u v : Value) : Blk ((w.setCell ⟨g', 0, none⟩ u).setCell ⟨g', 1, none⟩ v) g t cs := (h.away (p := ⟨g', 0, none⟩) hne u).away (p := ⟨g', 1, none⟩) hne v
theorem bel_set2 (h : Below a.heap.size a w) (hg : a.heap.size ≤ g) (u v : Value) : Below a.heap.size a ((w.setCell ⟨g, 0, none⟩ u).setCell ⟨g, 1, none⟩ v) := (h.setCell hg _).setCell hg _
end
end Go.Proofs.Ytfngdemjlglliaa
