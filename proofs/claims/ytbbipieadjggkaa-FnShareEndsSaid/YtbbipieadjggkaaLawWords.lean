/-
  Words for the walks of laws: cells that calls leave alone, operations with one known answer; the contract of frac.
-/
import Derived.Test.YtbbipieadjggkaaFracOpsWords
import Derived.Test.YtbbipieadjggkaaIsoLaws
namespace Go.Proofs.Ytbbipieadjggkaa
open Go.RowKit

theorem cell_lt {W : World} {b o : Nat} {u : Value} (h : W.cell? ⟨b, o, none⟩ = some u) : b < W.heap.size := by
  rcases Nat.lt_or_ge b W.heap.size with h' | h'
  · exact h'
  · exfalso
    have e : W.heap[b]? = none := Array.getElem?_eq_none h'
    simp [World.cell?, e] at h
theorem cell_keep {W W' : World} {b o : Nat} {u : Value} (hb : Below W.heap.size W W') (h : W.cell? ⟨b, o, none⟩ = some u) : W'.cell? ⟨b, o, none⟩ = some u :=
  (hb.cell (p := ⟨b, o, none⟩) (cell_lt h)).trans h
theorem op_val {v : Bool} {x y : Int} (h : okO v x y = true) : ∃ N D : Int, N = nF x y ∧ D = dF x y ∧ v = true ∧ okF x y = true ∧ vF N D = true ∧ IsFrac x y N D ∧
    ∀ (e : Ending) (w w' : World), OpPost v x y w e w' → e = .returned (.tuple #[.agg #[.int .i64 N, .int .i64 D], .bool true]) ∧ Below w.heap.size w w' := by
  simp only [okO, Bool.and_eq_true] at h
  exact ⟨_, _, rfl, rfl, h.1, h.2, (okF_val h.2).2, (okF_val h.2).1, fun e w w' hp => op_ok h.1 h.2 hp⟩

section
variable {w w' : World} {g : Nat} {t t' : TypeId} {cs cs' : Array Value} {o o' : Obj}
theorem blk_b0 (h : Blk w g t cs) (hb : Below w.heap.size w w') : Blk w' g t cs := h.below hb h.lt
theorem blk_b1 (h : Blk w g t cs) (hb : Below (w.alloc o).heap.size (w.alloc o) w') : Blk w' g t cs := blk_b0 (h.alloc _) hb
theorem blk_b2 (h : Blk w g t cs) (hb : Below ((w.alloc o).alloc o').heap.size ((w.alloc o).alloc o') w') : Blk w' g t cs := blk_b1 (h.alloc _) hb
theorem blk_n1 (hb : Below (w.alloc (.cells cs t)).heap.size (w.alloc (.cells cs t)) w') : Blk w' w.heap.size t cs := blk_b0 (blk_new w t cs) hb
theorem blk_n2 (hb : Below ((w.alloc (.cells cs t)).alloc o).heap.size ((w.alloc (.cells cs t)).alloc o) w') : Blk w' w.heap.size t cs := blk_b1 (blk_new w t cs) hb
theorem blk_n2' (hb : Below ((w.alloc o).alloc (.cells cs t)).heap.size ((w.alloc o).alloc (.cells cs t)) w') : Blk w' (w.heap.size + 1) t cs := blk_b0 (blk_new1 w o t cs) hb
theorem blk_n2d (hb : Below (((w.alloc o).alloc (.cells cs t)).drew).heap.size (((w.alloc o).alloc (.cells cs t)).drew) w') : Blk w' (w.heap.size + 1) t cs := blk_b0 (blk_new1 w o t cs).drew hb
theorem bel0 {a : World} (h : Below a.heap.size a w) (hb : Below w.heap.size w w') : Below a.heap.size a w' := h.trans (hb.mono h.size)
theorem bel1 {a : World} (h : Below a.heap.size a w) (hb : Below (w.alloc o).heap.size (w.alloc o) w') : Below a.heap.size a w' := bel0 (h.alloc h.size _) hb
theorem bel2 {a : World} (h : Below a.heap.size a w) (hb : Below ((w.alloc o).alloc o').heap.size ((w.alloc o).alloc o') w') : Below a.heap.size a w' := bel1 (h.alloc h.size _) hb
theorem bels {B : Nat} {a : World} (h : Below B a w) (hB : B ≤ a.heap.size) (hb : Below w.heap.size w w') : Below B a w' := h.trans (hb.mono (Nat.le_trans hB h.size))
end
theorem op_at {x y : Int} {v : Bool} {N D : Int} {b : Bool} (hv : v = true) (hN : nF x y = N) (hD : dF x y = D) (ho : okF x y = b) {e : Ending} {w w' : World} (hp : OpPost v x y w e w') :
    e = .returned (.tuple #[.agg #[.int .i64 N, .int .i64 D], .bool b]) ∧ Below w.heap.size w w' := by
  obtain ⟨he, hb⟩ := hp
  refine ⟨?_, hb⟩
  rw [he, nO, dO, okO, hv, if_pos rfl, if_pos rfl, hN, hD, ho]
  rfl

set_option maxHeartbeats 400000 in
theorem c_frac (n : Int) (w : World) :
    Calls Try.prog 23 #[.int .i64 n] w fun e w' => e = .returned (.agg #[.int .i64 n, .int .i64 1]) ∧ Below w.heap.size w w' := by
  go_enter Try.func23, Try.ntmps23
  go_wp2
  refine bodyPost_ret (v := .agg #[.int .i64 n, .int .i64 1]) (by simp [results, Try.results23, go_sem]) rfl ⟨rfl, ?_⟩
  go_grown
end Go.Proofs.Ytbbipieadjggkaa
