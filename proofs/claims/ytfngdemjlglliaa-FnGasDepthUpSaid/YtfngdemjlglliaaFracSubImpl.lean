/-
  Contract of FracSub of the program.
-/
import Derived.Test.YtfngdemjlglliaaFracOpsWords
import Derived.Test.YtfngdemjlglliaaFracOfImpl
namespace Go.Proofs.Ytfngdemjlglliaa
open Go.RowKit

set_option maxHeartbeats 2000000 in
theorem c_implFracSub (an ad bn bd : Int) (w : World) :
    Calls Try.prog 31 #[.agg #[.int .i64 an, .int .i64 ad], .agg #[.int .i64 bn, .int .i64 bd]] w (OpPost (two an ad bn bd) (an * bd - bn * ad) (ad * bd) w) := by
  rcases Bool.eq_false_or_eq_true (vF an ad) with ha | ha
  · rcases Bool.eq_false_or_eq_true (vF bn bd) with hb0 | hb0
    · obtain ⟨v1, v2, v3, v4, _⟩ := vF_yes ha
      obtain ⟨u1, u2, u3, u4, _⟩ := vF_yes hb0
      obtain ⟨m00, m01⟩ := prod_bd (a := an) (b := bd) (by omega) (by omega) (by omega) (by omega)
      obtain ⟨m10, m11⟩ := prod_bd (a := bn) (b := ad) (by omega) (by omega) (by omega) (by omega)
      obtain ⟨m20, m21⟩ := prod_bd (a := ad) (b := bd) (by omega) (by omega) (by omega) (by omega)
      have HK := Lib.hid (show two an ad bn bd = true by simp [two, ha, hb0])
      go_enter Try.func31, Try.ntmps31
      go_wp2_with fail
      refine (c_implFracValid _ _ _).mono ?_
      rintro e w1 ⟨rfl, hb⟩
      obtain ⟨hc1, hf1⟩ := bcell hb
      have hB1 : Below w.heap.size w w1 := (show Below w.heap.size w _ from by go_grown).trans (hb.mono (by first | omega | (simp; omega)))
      have z10 : w.heap.size < w1.heap.size := by have := hb.size; first | omega | (simp at this; omega)
      have z11 : w.heap.size + 1 < w1.heap.size := by have := hb.size; first | omega | (simp at this; omega)
      have z12 : w.heap.size + 2 < w1.heap.size := by have := hb.size; first | omega | (simp at this; omega)
      clear hb
      go_wp2_with fail
      refine (c_implFracValid _ _ _).mono ?_
      rintro e w2 ⟨rfl, hb⟩
      obtain ⟨hc2, hf2⟩ := bcell hb
      have hB2 : Below w.heap.size w w2 := (show Below w.heap.size w _ from by go_grown).trans (hb.mono (by first | omega | (simp; omega)))
      have z20 : w.heap.size < w2.heap.size := by have := hb.size; first | omega | (simp at this; omega)
      have z21 : w.heap.size + 1 < w2.heap.size := by have := hb.size; first | omega | (simp at this; omega)
      have z22 : w.heap.size + 2 < w2.heap.size := by have := hb.size; first | omega | (simp at this; omega)
      clear hb
      go_wp2_with fail
      refine (c_implFracOf _ _ _).mono ?_
      rintro e w3 ⟨rfl, hb⟩
      obtain ⟨hc3, hf3⟩ := bcell hb
      have hB3 : Below w.heap.size w w3 := (show Below w.heap.size w _ from by go_grown).trans (hb.mono (by first | omega | (simp; omega)))
      have z30 : w.heap.size < w3.heap.size := by have := hb.size; first | omega | (simp at this; omega)
      have z31 : w.heap.size + 1 < w3.heap.size := by have := hb.size; first | omega | (simp at this; omega)
      have z32 : w.heap.size + 2 < w3.heap.size := by have := hb.size; first | omega | (simp at this; omega)
      clear hb
      go_wp2
      refine bodyPost_ret (v := .tuple #[.agg #[.int .i64 (nF (an * bd - bn * ad) (ad * bd)), .int .i64 (dF (an * bd - bn * ad) (ad * bd))], .bool (okF (an * bd - bn * ad) (ad * bd))]) (by simp [results, Try.results31, go_sem, *]) rfl (op_yes HK.out ?_)
      go_grown
    · have HK := Lib.hid (show two an ad bn bd = false by simp [two, hb0])
      go_enter Try.func31, Try.ntmps31
      go_wp2_with fail
      refine (c_implFracValid _ _ _).mono ?_
      rintro e w1 ⟨rfl, hb⟩
      obtain ⟨hc1, hf1⟩ := bcell hb
      have hB1 : Below w.heap.size w w1 := (show Below w.heap.size w _ from by go_grown).trans (hb.mono (by first | omega | (simp; omega)))
      have z10 : w.heap.size < w1.heap.size := by have := hb.size; first | omega | (simp at this; omega)
      have z11 : w.heap.size + 1 < w1.heap.size := by have := hb.size; first | omega | (simp at this; omega)
      have z12 : w.heap.size + 2 < w1.heap.size := by have := hb.size; first | omega | (simp at this; omega)
      clear hb
      go_wp2_with fail
      refine (c_implFracValid _ _ _).mono ?_
      rintro e w2 ⟨rfl, hb⟩
      obtain ⟨hc2, hf2⟩ := bcell hb
      have hB2 : Below w.heap.size w w2 := (show Below w.heap.size w _ from by go_grown).trans (hb.mono (by first | omega | (simp; omega)))
      have z20 : w.heap.size < w2.heap.size := by have := hb.size; first | omega | (simp at this; omega)
      have z21 : w.heap.size + 1 < w2.heap.size := by have := hb.size; first | omega | (simp at this; omega)
      have z22 : w.heap.size + 2 < w2.heap.size := by have := hb.size; first | omega | (simp at this; omega)
      clear hb
      go_wp2
      refine bodyPost_ret (v := .tuple #[.agg #[.int .i64 0, .int .i64 0], .bool false]) (by simp [results, Try.results31, go_sem, *]) rfl (op_no HK.out ?_)
      go_grown
  · have HK := Lib.hid (show two an ad bn bd = false by simp [two, ha])
    go_enter Try.func31, Try.ntmps31
    go_wp2_with fail
    refine (c_implFracValid _ _ _).mono ?_
    rintro e w1 ⟨rfl, hb⟩
    obtain ⟨hc1, hf1⟩ := bcell hb
    have hB1 : Below w.heap.size w w1 := (show Below w.heap.size w _ from by go_grown).trans (hb.mono (by first | omega | (simp; omega)))
    have z10 : w.heap.size < w1.heap.size := by have := hb.size; first | omega | (simp at this; omega)
    have z11 : w.heap.size + 1 < w1.heap.size := by have := hb.size; first | omega | (simp at this; omega)
    have z12 : w.heap.size + 2 < w1.heap.size := by have := hb.size; first | omega | (simp at this; omega)
    clear hb
    go_wp2
    refine bodyPost_ret (v := .tuple #[.agg #[.int .i64 0, .int .i64 0], .bool false]) (by simp [results, Try.results31, go_sem, *]) rfl (op_no HK.out ?_)
    go_grown
end Go.Proofs.Ytfngdemjlglliaa
