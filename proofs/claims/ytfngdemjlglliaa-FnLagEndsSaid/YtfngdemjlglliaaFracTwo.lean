/-
  Contract of l2Two of the reference.
-/
import Derived.Test.YtfngdemjlglliaaFracOpsWords
import Derived.Test.YtfngdemjlglliaaFracCore
namespace Go.Proofs.Ytfngdemjlglliaa
open Go.RowKit

set_option maxHeartbeats 1000000 in
theorem c_l2Two (an ad bn bd : Int) (w : World) :
    Calls Try.prog 53 #[.agg #[.int .i64 an, .int .i64 ad], .agg #[.int .i64 bn, .int .i64 bd]] w fun e w' => e = .returned (.bool (two an ad bn bd)) ∧ Below w.heap.size w w' := by
  rcases Bool.eq_false_or_eq_true (vF an ad) with ha | ha
  · go_enter Try.func53, Try.ntmps53
    go_wp2_with fail
    refine (c_specFracValid _ _ _).mono ?_
    rintro e w1 ⟨rfl, hb⟩
    obtain ⟨hc1, hf1⟩ := bcell hb
    have hB1 : Below w.heap.size w w1 := (show Below w.heap.size w _ from by go_grown).trans (hb.mono (by first | omega | (simp; omega)))
    have z10 : w.heap.size < w1.heap.size := by have := hb.size; first | omega | (simp at this; omega)
    have z11 : w.heap.size + 1 < w1.heap.size := by have := hb.size; first | omega | (simp at this; omega)
    clear hb
    go_wp2_with fail
    refine (c_specFracValid _ _ _).mono ?_
    rintro e w2 ⟨rfl, hb⟩
    obtain ⟨hc2, hf2⟩ := bcell hb
    have hB2 : Below w.heap.size w w2 := (show Below w.heap.size w _ from by go_grown).trans (hb.mono (by first | omega | (simp; omega)))
    have z20 : w.heap.size < w2.heap.size := by have := hb.size; first | omega | (simp at this; omega)
    have z21 : w.heap.size + 1 < w2.heap.size := by have := hb.size; first | omega | (simp at this; omega)
    clear hb
    go_wp2
    go_ret
    exact ⟨ret_bool (by simp [two, ha]), hB2⟩
  · go_enter Try.func53, Try.ntmps53
    go_wp2_with fail
    refine (c_specFracValid _ _ _).mono ?_
    rintro e w1 ⟨rfl, hb⟩
    obtain ⟨hc1, hf1⟩ := bcell hb
    have hB1 : Below w.heap.size w w1 := (show Below w.heap.size w _ from by go_grown).trans (hb.mono (by first | omega | (simp; omega)))
    have z10 : w.heap.size < w1.heap.size := by have := hb.size; first | omega | (simp at this; omega)
    have z11 : w.heap.size + 1 < w1.heap.size := by have := hb.size; first | omega | (simp at this; omega)
    clear hb
    go_wp2
    go_ret
    exact ⟨ret_bool (by simp [two, ha]), hB1⟩
end Go.Proofs.Ytfngdemjlglliaa
