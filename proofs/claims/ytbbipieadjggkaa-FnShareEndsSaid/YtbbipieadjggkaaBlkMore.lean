/-
  Blocks behind a call that was made over several fresh blocks. No function of the program in sight.
-/
import Derived.Test.YtbbipieadjggkaaBoxes
namespace Go.Proofs.Ytbbipieadjggkaa
open Go.RowKit
section
variable {w w' a : World} {g : Nat} {t : TypeId} {cs : Array Value} {o1 o2 o3 o4 : Obj}
theorem blk_new2' (w : World) (o1 o2 : Obj) (t : TypeId) (cs : Array Value) : Blk (((w.alloc o1).alloc o2).alloc (.cells cs t)) (w.heap.size + 1 + 1) t cs := by
  have h := blk_new ((w.alloc o1).alloc o2) t cs
  have e : ((w.alloc o1).alloc o2).heap.size = w.heap.size + 1 + 1 := by simp
  rwa [e] at h
theorem blk_new3' (w : World) (o1 o2 o3 : Obj) (t : TypeId) (cs : Array Value) : Blk ((((w.alloc o1).alloc o2).alloc o3).alloc (.cells cs t)) (w.heap.size + 1 + 1 + 1) t cs := by
  have h := blk_new (((w.alloc o1).alloc o2).alloc o3) t cs
  have e : (((w.alloc o1).alloc o2).alloc o3).heap.size = w.heap.size + 1 + 1 + 1 := by simp
  rwa [e] at h
theorem blk_b3 (h : Blk w g t cs) (hb : Below (((w.alloc o1).alloc o2).alloc o3).heap.size (((w.alloc o1).alloc o2).alloc o3) w') : Blk w' g t cs := blk_b2 (h.alloc _) hb
theorem bel3 (h : Below a.heap.size a w) (hb : Below (((w.alloc o1).alloc o2).alloc o3).heap.size (((w.alloc o1).alloc o2).alloc o3) w') : Below a.heap.size a w' := bel2 (h.alloc h.size _) hb
theorem blk_n3_1 (hb : Below (((w.alloc (.cells cs t)).alloc o2).alloc o3).heap.size (((w.alloc (.cells cs t)).alloc o2).alloc o3) w') : Blk w' (w.heap.size) t cs := blk_b2 (blk_new w t cs) hb
theorem blk_n3_2 (hb : Below (((w.alloc o1).alloc (.cells cs t)).alloc o3).heap.size (((w.alloc o1).alloc (.cells cs t)).alloc o3) w') : Blk w' (w.heap.size + 1) t cs := blk_b1 (blk_new1 w o1 t cs) hb
theorem blk_n3_3 (hb : Below (((w.alloc o1).alloc o2).alloc (.cells cs t)).heap.size (((w.alloc o1).alloc o2).alloc (.cells cs t)) w') : Blk w' (w.heap.size + 1 + 1) t cs := blk_b0 (blk_new2' w o1 o2 t cs) hb
theorem blk_b4 (h : Blk w g t cs) (hb : Below ((((w.alloc o1).alloc o2).alloc o3).alloc o4).heap.size ((((w.alloc o1).alloc o2).alloc o3).alloc o4) w') : Blk w' g t cs := blk_b3 (h.alloc _) hb
theorem bel4 (h : Below a.heap.size a w) (hb : Below ((((w.alloc o1).alloc o2).alloc o3).alloc o4).heap.size ((((w.alloc o1).alloc o2).alloc o3).alloc o4) w') : Below a.heap.size a w' := bel3 (h.alloc h.size _) hb
theorem blk_n4_1 (hb : Below ((((w.alloc (.cells cs t)).alloc o2).alloc o3).alloc o4).heap.size ((((w.alloc (.cells cs t)).alloc o2).alloc o3).alloc o4) w') : Blk w' (w.heap.size) t cs := blk_b3 (blk_new w t cs) hb
theorem blk_n4_2 (hb : Below ((((w.alloc o1).alloc (.cells cs t)).alloc o3).alloc o4).heap.size ((((w.alloc o1).alloc (.cells cs t)).alloc o3).alloc o4) w') : Blk w' (w.heap.size + 1) t cs := blk_b2 (blk_new1 w o1 t cs) hb
theorem blk_n4_3 (hb : Below ((((w.alloc o1).alloc o2).alloc (.cells cs t)).alloc o4).heap.size ((((w.alloc o1).alloc o2).alloc (.cells cs t)).alloc o4) w') : Blk w' (w.heap.size + 1 + 1) t cs := blk_b1 (blk_new2' w o1 o2 t cs) hb
theorem blk_n4_4 (hb : Below ((((w.alloc o1).alloc o2).alloc o3).alloc (.cells cs t)).heap.size ((((w.alloc o1).alloc o2).alloc o3).alloc (.cells cs t)) w') : Blk w' (w.heap.size + 1 + 1 + 1) t cs := blk_b0 (blk_new3' w o1 o2 o3 t cs) hb
theorem blk_off2 {g' : Nat} (h : Blk w g t cs) (hne : g ≠ g') (u v : Value) : Blk ((w.setCell ⟨g', 0, none⟩ u).setCell ⟨g', 1, none⟩ v) g t cs := (h.away (p := ⟨g', 0, none⟩) hne u).away (p := ⟨g', 1, none⟩) hne v
theorem bel_set2 (h : Below a.heap.size a w) (hg : a.heap.size ≤ g) (u v : Value) : Below a.heap.size a ((w.setCell ⟨g, 0, none⟩ u).setCell ⟨g, 1, none⟩ v) := (h.setCell hg _).setCell hg _
end
end Go.Proofs.Ytbbipieadjggkaa
