/-
  Contract of FracLess of the reference.
-/
import Derived.Test.YtfngdemjlglliaaFracOpsWords
import Derived.Test.YtfngdemjlglliaaFracOfSpec
import Derived.Test.YtfngdemjlglliaaFracTwo
namespace Go.Proofs.Ytfngdemjlglliaa
open Go.RowKit

set_option maxHeartbeats 2000000 in
theorem c_specFracLess (an ad bn bd : Int) (w : World) :
    Calls Try.prog 60 #[.agg #[.int .i64 an, .int .i64 ad], .agg #[.int .i64 bn, .int .i64 bd]] w fun e w' => e = .returned (.bool (lessF an ad bn bd)) ∧ Below w.heap.size w w' := by
  rcases Bool.eq_false_or_eq_true (two an ad bn bd) with ht | ht
  · obtain ⟨ha, hb0⟩ := two_yes ht
    obtain ⟨v1, v2, v3, v4, _⟩ := vF_yes ha
    obtain ⟨u1, u2, u3, u4, _⟩ := vF_yes hb0
    obtain ⟨m00, m01⟩ := prod_bd (a := an) (b := bd) (by omega) (by omega) (by omega) (by omega)
    obtain ⟨m10, m11⟩ := prod_bd (a := bn) (b := ad) (by omega) (by omega) (by omega) (by omega)
    have HK := Lib.hid (show lessF an ad bn bd = decide (an * bd < bn * ad) by simp [lessF, ht])
    go_enter Try.func60, Try.ntmps60
    go_wp2_with fail
    refine (c_l2Two _ _ _ _ _).mono ?_
    rintro e w1 ⟨rfl, hb⟩
    obtain ⟨hc1, hf1⟩ := bcell hb
    have hB1 : Below w.heap.size w w1 := (show Below w.heap.size w _ from by go_grown).trans (hb.mono (by first | omega | (simp; omega)))
    have z10 : w.heap.size < w1.heap.size := by have := hb.size; first | omega | (simp at this; omega)
    have z11 : w.heap.size + 1 < w1.heap.size := by have := hb.size; first | omega | (simp at this; omega)
    clear hb
    go_wp2
    go_ret
    exact ⟨ret_bool HK.out.symm, hB1⟩
  · have HK := Lib.hid (show lessF an ad bn bd = false by simp [lessF, ht])
    go_enter Try.func60, Try.ntmps60
    go_wp2_with fail
    refine (c_l2Two _ _ _ _ _).mono ?_
    rintro e w1 ⟨rfl, hb⟩
    obtain ⟨hc1, hf1⟩ := bcell hb
    have hB1 : Below w.heap.size w w1 := (show Below w.heap.size w _ from by go_grown).trans (hb.mono (by first | omega | (simp; omega)))
    have z10 : w.heap.size < w1.heap.size := by have := hb.size; first | omega | (simp at this; omega)
    have z11 : w.heap.size + 1 < w1.heap.size := by have := hb.size; first | omega | (simp at this; omega)
    clear hb
    go_wp2
    go_ret
    exact ⟨ret_bool HK.out.symm, hB1⟩
end Go.Proofs.Ytfngdemjlglliaa
