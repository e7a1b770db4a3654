/-
  Contracts of WaterValid, WaterRatio and WaterDelta, of the program and of the reference.
-/
import Derived.Test.YtbbipieadjggkaaFracOfImpl
import Derived.Test.YtbbipieadjggkaaFracOfSpec
import Derived.Test.YtbbipieadjggkaaFracOpsWords
import Derived.Test.YtbbipieadjggkaaIsoMath
namespace Go.Proofs.Ytbbipieadjggkaa
open Go.RowKit

def vD (a h sn sd : Int) : Bool := vW a h && vF sn sd && decide (1 ≤ sn)
def dX (a h sn sd : Int) : Int := 1000 * (h * sd - a * sn)
theorem vD_yes {a h sn sd : Int} (hv : vD a h sn sd = true) : vW a h = true ∧ vF sn sd = true ∧ 1 ≤ sn := by
  simp only [vD, Bool.and_eq_true, decide_eq_true_eq] at hv
  exact ⟨hv.1.1, hv.1.2, hv.2⟩
theorem vW_no {a h : Int} (hn : a < 1 ∨ 1000 < a ∨ h < 0 ∨ a < h) : vW a h = false := by
  rcases Bool.eq_false_or_eq_true (vW a h) with hv | hv
  · have := vW_yes hv; omega
  · exact hv
theorem vW_mk {a h : Int} (h1 : 1 ≤ a) (h2 : a ≤ 1000) (h3 : 0 ≤ h) (h4 : h ≤ a) : vW a h = true := by simp [vW, inB_of h1 h2, inB_of h3 h4]

set_option maxHeartbeats 1000000 in
theorem c_implWaterValid (a h : Int) (w : World) :
    Calls Try.prog 35 #[.agg #[.int .i64 a, .int .i64 h]] w fun e w' => e = .returned (.bool (vW a h)) ∧ Below w.heap.size w w' := by
  by_cases c0 : a < 1
  · have d0 : decide (1 ≤ a) = false := by simp; omega
    have HV := Lib.hid (vW_no (a := a) (h := h) (by omega))
    go_enter Try.func35, Try.ntmps35
    go_wp2
    go_ret
    exact ⟨ret_bool HV.out.symm, by go_grown⟩
  · have d0 : decide (1 ≤ a) = true := by simp; omega
    by_cases c1 : 1000 < a
    · have d1 : decide (a ≤ 1000) = false := by simp; omega
      have HV := Lib.hid (vW_no (a := a) (h := h) (by omega))
      go_enter Try.func35, Try.ntmps35
      go_wp2
      go_ret
      exact ⟨ret_bool HV.out.symm, by go_grown⟩
    · have d1 : decide (a ≤ 1000) = true := by simp; omega
      by_cases c2 : h < 0
      · have d2 : decide (0 ≤ h) = false := by simp; omega
        have HV := Lib.hid (vW_no (a := a) (h := h) (by omega))
        go_enter Try.func35, Try.ntmps35
        go_wp2
        go_ret
        exact ⟨ret_bool HV.out.symm, by go_grown⟩
      · have d2 : decide (0 ≤ h) = true := by simp; omega
        by_cases c3 : a < h
        · have d3 : decide (h ≤ a) = false := by simp; omega
          have HV := Lib.hid (vW_no (a := a) (h := h) (by omega))
          go_enter Try.func35, Try.ntmps35
          go_wp2
          go_ret
          exact ⟨ret_bool HV.out.symm, by go_grown⟩
        · have d3 : decide (h ≤ a) = true := by simp; omega
          have HV := Lib.hid (vW_mk (a := a) (h := h) (by omega) (by omega) (by omega) (by omega))
          go_enter Try.func35, Try.ntmps35
          go_wp2
          go_ret
          exact ⟨ret_bool HV.out.symm, by go_grown⟩

set_option maxHeartbeats 1000000 in
theorem c_specWaterValid (a h : Int) (w : World) :
    Calls Try.prog 48 #[.agg #[.int .i64 a, .int .i64 h]] w fun e w' => e = .returned (.bool (vW a h)) ∧ Below w.heap.size w w' := by
  rcases Bool.eq_false_or_eq_true (inB a 1 1000) with h1 | h1
  · have HV := Lib.hid (show vW a h = inB h 0 a by simp [vW, h1])
    go_enter Try.func48, Try.ntmps48
    go_wp2_with fail
    refine (c_l6In _ _ _ _).mono ?_
    rintro e w' ⟨rfl, rfl⟩
    go_wp2_with fail
    refine (c_l6In _ _ _ _).mono ?_
    rintro e w' ⟨rfl, rfl⟩
    go_wp2
    go_ret
    exact ⟨ret_bool HV.out.symm, by go_grown⟩
  · have HV := Lib.hid (show vW a h = false by simp [vW, h1])
    go_enter Try.func48, Try.ntmps48
    go_wp2_with fail
    refine (c_l6In _ _ _ _).mono ?_
    rintro e w' ⟨rfl, rfl⟩
    go_wp2
    go_ret
    exact ⟨ret_bool HV.out.symm, by go_grown⟩

set_option maxHeartbeats 1000000 in
theorem c_implWaterRatio (a h : Int) (w : World) :
    Calls Try.prog 24 #[.agg #[.int .i64 a, .int .i64 h]] w (OpPost (vW a h) h a w) := by
  rcases Bool.eq_false_or_eq_true (vW a h) with hv | hv
  · have HK := Lib.hid hv
    go_enter Try.func24, Try.ntmps24
    go_wp2_with fail
    refine (c_implWaterValid _ _ _).mono ?_
    rintro e w1 ⟨rfl, hb⟩
    obtain ⟨hc1, hf1⟩ := bcell hb
    have hB1 : Below w.heap.size w w1 := (show Below w.heap.size w _ from by go_grown).trans (hb.mono (by first | omega | (simp; omega)))
    have z10 : w.heap.size < w1.heap.size := by have := hb.size; first | omega | (simp at this; omega)
    have z11 : w.heap.size + 1 < w1.heap.size := by have := hb.size; first | omega | (simp at this; omega)
    clear hb
    go_wp2_with fail
    refine (c_implFracOf _ _ _).mono ?_
    rintro e w2 ⟨rfl, hb⟩
    obtain ⟨hc2, hf2⟩ := bcell hb
    have hB2 : Below w.heap.size w w2 := (show Below w.heap.size w _ from by go_grown).trans (hb.mono (by first | omega | (simp; omega)))
    have z20 : w.heap.size < w2.heap.size := by have := hb.size; first | omega | (simp at this; omega)
    have z21 : w.heap.size + 1 < w2.heap.size := by have := hb.size; first | omega | (simp at this; omega)
    clear hb
    go_wp2
    refine bodyPost_ret (v := .tuple #[.agg #[.int .i64 (nF (h) (a)), .int .i64 (dF (h) (a))], .bool (okF (h) (a))]) (by simp [results, Try.results24, go_sem, *]) rfl (op_yes HK.out ?_)
    go_grown
  · have HK := Lib.hid hv
    go_enter Try.func24, Try.ntmps24
    go_wp2_with fail
    refine (c_implWaterValid _ _ _).mono ?_
    rintro e w1 ⟨rfl, hb⟩
    obtain ⟨hc1, hf1⟩ := bcell hb
    have hB1 : Below w.heap.size w w1 := (show Below w.heap.size w _ from by go_grown).trans (hb.mono (by first | omega | (simp; omega)))
    have z10 : w.heap.size < w1.heap.size := by have := hb.size; first | omega | (simp at this; omega)
    have z11 : w.heap.size + 1 < w1.heap.size := by have := hb.size; first | omega | (simp at this; omega)
    clear hb
    go_wp2
    refine bodyPost_ret (v := .tuple #[.agg #[.int .i64 0, .int .i64 0], .bool false]) (by simp [results, Try.results24, go_sem, *]) rfl (op_no HK.out ?_)
    go_grown

set_option maxHeartbeats 1000000 in
theorem c_specWaterRatio (a h : Int) (w : World) :
    Calls Try.prog 37 #[.agg #[.int .i64 a, .int .i64 h]] w (OpPost (vW a h) h a w) := by
  rcases Bool.eq_false_or_eq_true (vW a h) with hv | hv
  · have HK := Lib.hid hv
    go_enter Try.func37, Try.ntmps37
    go_wp2_with fail
    refine (c_specWaterValid _ _ _).mono ?_
    rintro e w1 ⟨rfl, hb⟩
    obtain ⟨hc1, hf1⟩ := bcell hb
    have hB1 : Below w.heap.size w w1 := (show Below w.heap.size w _ from by go_grown).trans (hb.mono (by first | omega | (simp; omega)))
    have z10 : w.heap.size < w1.heap.size := by have := hb.size; first | omega | (simp at this; omega)
    have z11 : w.heap.size + 1 < w1.heap.size := by have := hb.size; first | omega | (simp at this; omega)
    clear hb
    go_wp2_with fail
    refine (c_specFracOf _ _ _).mono ?_
    rintro e w2 ⟨rfl, hb⟩
    obtain ⟨hc2, hf2⟩ := bcell hb
    have hB2 : Below w.heap.size w w2 := (show Below w.heap.size w _ from by go_grown).trans (hb.mono (by first | omega | (simp; omega)))
    have z20 : w.heap.size < w2.heap.size := by have := hb.size; first | omega | (simp at this; omega)
    have z21 : w.heap.size + 1 < w2.heap.size := by have := hb.size; first | omega | (simp at this; omega)
    clear hb
    go_wp2
    refine bodyPost_ret (v := .tuple #[.agg #[.int .i64 (nF (h) (a)), .int .i64 (dF (h) (a))], .bool (okF (h) (a))]) (by simp [results, Try.results37, go_sem, *]) rfl (op_yes HK.out ?_)
    go_grown
  · have HK := Lib.hid hv
    go_enter Try.func37, Try.ntmps37
    go_wp2_with fail
    refine (c_specWaterValid _ _ _).mono ?_
    rintro e w1 ⟨rfl, hb⟩
    obtain ⟨hc1, hf1⟩ := bcell hb
    have hB1 : Below w.heap.size w w1 := (show Below w.heap.size w _ from by go_grown).trans (hb.mono (by first | omega | (simp; omega)))
    have z10 : w.heap.size < w1.heap.size := by have := hb.size; first | omega | (simp at this; omega)
    have z11 : w.heap.size + 1 < w1.heap.size := by have := hb.size; first | omega | (simp at this; omega)
    clear hb
    go_wp2
    refine bodyPost_ret (v := .tuple #[.agg #[.int .i64 0, .int .i64 0], .bool false]) (by simp [results, Try.results37, go_sem, *]) rfl (op_no HK.out ?_)
    go_grown

set_option maxHeartbeats 2000000 in
theorem c_implWaterDelta (a h sn sd : Int) (w : World) :
    Calls Try.prog 16 #[.agg #[.int .i64 a, .int .i64 h], .agg #[.int .i64 sn, .int .i64 sd]] w (OpPost (vD a h sn sd) (dX a h sn sd) (a * sn) w) := by
  rcases Bool.eq_false_or_eq_true (vW a h) with hv | hv
  · rcases Bool.eq_false_or_eq_true (vF sn sd) with hs | hs
    · obtain ⟨a1, a2, a3, a4⟩ := vW_yes hv
      obtain ⟨s1, s2, s3, s4, _⟩ := vF_yes hs
      obtain ⟨m00, m01⟩ := prod_bd (a := a) (b := sn) (by omega) (by omega) (by omega) (by omega)
      by_cases hz : sn ≤ 0
      · have HK := Lib.hid (show vD a h sn sd = false by simp [vD]; omega)
        have hz' : decide (sn ≤ 0) = true := by simp; omega
        go_enter Try.func16, Try.ntmps16
        go_wp2_with fail
        refine (c_implWaterValid _ _ _).mono ?_
        rintro e w1 ⟨rfl, hb⟩
        obtain ⟨hc1, hf1⟩ := bcell hb
        have hB1 : Below w.heap.size w w1 := (show Below w.heap.size w _ from by go_grown).trans (hb.mono (by first | omega | (simp; omega)))
        have z10 : w.heap.size < w1.heap.size := by have := hb.size; first | omega | (simp at this; omega)
        have z11 : w.heap.size + 1 < w1.heap.size := by have := hb.size; first | omega | (simp at this; omega)
        have z12 : w.heap.size + 2 < w1.heap.size := by have := hb.size; first | omega | (simp at this; omega)
        clear hb
        go_wp2_with fail
        refine (c_implFracValid _ _ _).mono ?_
        rintro e w2 ⟨rfl, hb⟩
        obtain ⟨hc2, hf2⟩ := bcell hb
        have hB2 : Below w.heap.size w w2 := (show Below w.heap.size w _ from by go_grown).trans (hb.mono (by first | omega | (simp; omega)))
        have z20 : w.heap.size < w2.heap.size := by have := hb.size; first | omega | (simp at this; omega)
        have z21 : w.heap.size + 1 < w2.heap.size := by have := hb.size; first | omega | (simp at this; omega)
        have z22 : w.heap.size + 2 < w2.heap.size := by have := hb.size; first | omega | (simp at this; omega)
        clear hb
        go_wp2
        refine bodyPost_ret (v := .tuple #[.agg #[.int .i64 0, .int .i64 0], .bool false]) (by simp [results, Try.results16, go_sem, *]) rfl (op_no HK.out ?_)
        go_grown
      · have HK := Lib.hid (show vD a h sn sd = true by simp [vD, hv, hs]; omega)
        have hz' : decide (sn ≤ 0) = false := by simp; omega
        have q3 := p3 (A := 1000) (B := 1000000000) a3 (show h ≤ 1000 by omega) (show 0 ≤ sd by omega) s2
        have q4 := p3 (A := 1000) (B := 1000000000) (show 0 ≤ a by omega) a2 (show 0 ≤ sn by omega) s4
        go_enter Try.func16, Try.ntmps16
        go_wp2_with fail
        refine (c_implWaterValid _ _ _).mono ?_
        rintro e w1 ⟨rfl, hb⟩
        obtain ⟨hc1, hf1⟩ := bcell hb
        have hB1 : Below w.heap.size w w1 := (show Below w.heap.size w _ from by go_grown).trans (hb.mono (by first | omega | (simp; omega)))
        have z10 : w.heap.size < w1.heap.size := by have := hb.size; first | omega | (simp at this; omega)
        have z11 : w.heap.size + 1 < w1.heap.size := by have := hb.size; first | omega | (simp at this; omega)
        have z12 : w.heap.size + 2 < w1.heap.size := by have := hb.size; first | omega | (simp at this; omega)
        clear hb
        go_wp2_with fail
        refine (c_implFracValid _ _ _).mono ?_
        rintro e w2 ⟨rfl, hb⟩
        obtain ⟨hc2, hf2⟩ := bcell hb
        have hB2 : Below w.heap.size w w2 := (show Below w.heap.size w _ from by go_grown).trans (hb.mono (by first | omega | (simp; omega)))
        have z20 : w.heap.size < w2.heap.size := by have := hb.size; first | omega | (simp at this; omega)
        have z21 : w.heap.size + 1 < w2.heap.size := by have := hb.size; first | omega | (simp at this; omega)
        have z22 : w.heap.size + 2 < w2.heap.size := by have := hb.size; first | omega | (simp at this; omega)
        clear hb
        go_wp2_with fail
        refine (c_implFracOf _ _ _).mono ?_
        rintro e w3 ⟨rfl, hb⟩
        obtain ⟨hc3, hf3⟩ := bcell hb
        have hB3 : Below w.heap.size w w3 := (show Below w.heap.size w _ from by go_grown).trans (hb.mono (by first | omega | (simp; omega)))
        have z30 : w.heap.size < w3.heap.size := by have := hb.size; first | omega | (simp at this; omega)
        have z31 : w.heap.size + 1 < w3.heap.size := by have := hb.size; first | omega | (simp at this; omega)
        have z32 : w.heap.size + 2 < w3.heap.size := by have := hb.size; first | omega | (simp at this; omega)
        clear hb
        go_wp2
        refine bodyPost_ret (v := .tuple #[.agg #[.int .i64 (nF (1000 * (h * sd - a * sn)) (a * sn)), .int .i64 (dF (1000 * (h * sd - a * sn)) (a * sn))], .bool (okF (1000 * (h * sd - a * sn)) (a * sn))]) (by simp [results, Try.results16, go_sem, *]) rfl (op_yes HK.out ?_)
        go_grown
    · have HK := Lib.hid (show vD a h sn sd = false by simp [vD, hs])
      go_enter Try.func16, Try.ntmps16
      go_wp2_with fail
      refine (c_implWaterValid _ _ _).mono ?_
      rintro e w1 ⟨rfl, hb⟩
      obtain ⟨hc1, hf1⟩ := bcell hb
      have hB1 : Below w.heap.size w w1 := (show Below w.heap.size w _ from by go_grown).trans (hb.mono (by first | omega | (simp; omega)))
      have z10 : w.heap.size < w1.heap.size := by have := hb.size; first | omega | (simp at this; omega)
      have z11 : w.heap.size + 1 < w1.heap.size := by have := hb.size; first | omega | (simp at this; omega)
      have z12 : w.heap.size + 2 < w1.heap.size := by have := hb.size; first | omega | (simp at this; omega)
      clear hb
      go_wp2_with fail
      refine (c_implFracValid _ _ _).mono ?_
      rintro e w2 ⟨rfl, hb⟩
      obtain ⟨hc2, hf2⟩ := bcell hb
      have hB2 : Below w.heap.size w w2 := (show Below w.heap.size w _ from by go_grown).trans (hb.mono (by first | omega | (simp; omega)))
      have z20 : w.heap.size < w2.heap.size := by have := hb.size; first | omega | (simp at this; omega)
      have z21 : w.heap.size + 1 < w2.heap.size := by have := hb.size; first | omega | (simp at this; omega)
      have z22 : w.heap.size + 2 < w2.heap.size := by have := hb.size; first | omega | (simp at this; omega)
      clear hb
      go_wp2
      refine bodyPost_ret (v := .tuple #[.agg #[.int .i64 0, .int .i64 0], .bool false]) (by simp [results, Try.results16, go_sem, *]) rfl (op_no HK.out ?_)
      go_grown
  · have HK := Lib.hid (show vD a h sn sd = false by simp [vD, hv])
    go_enter Try.func16, Try.ntmps16
    go_wp2_with fail
    refine (c_implWaterValid _ _ _).mono ?_
    rintro e w1 ⟨rfl, hb⟩
    obtain ⟨hc1, hf1⟩ := bcell hb
    have hB1 : Below w.heap.size w w1 := (show Below w.heap.size w _ from by go_grown).trans (hb.mono (by first | omega | (simp; omega)))
    have z10 : w.heap.size < w1.heap.size := by have := hb.size; first | omega | (simp at this; omega)
    have z11 : w.heap.size + 1 < w1.heap.size := by have := hb.size; first | omega | (simp at this; omega)
    have z12 : w.heap.size + 2 < w1.heap.size := by have := hb.size; first | omega | (simp at this; omega)
    clear hb
    go_wp2
    refine bodyPost_ret (v := .tuple #[.agg #[.int .i64 0, .int .i64 0], .bool false]) (by simp [results, Try.results16, go_sem, *]) rfl (op_no HK.out ?_)
    go_grown

theorem blk_new2 (w : World) (o1 o2 : Obj) (t : TypeId) (cs : Array Value) : Blk (((w.alloc o1).alloc o2).alloc (.cells cs t)) (w.heap.size + 1 + 1) t cs := by
  have h := blk_new ((w.alloc o1).alloc o2) t cs
  have e : ((w.alloc o1).alloc o2).heap.size = w.heap.size + 1 + 1 := by simp
  rwa [e] at h

set_option maxHeartbeats 2000000 in
theorem c_specWaterDelta (a h sn sd : Int) (w : World) :
    Calls Try.prog 17 #[.agg #[.int .i64 a, .int .i64 h], .agg #[.int .i64 sn, .int .i64 sd]] w (OpPost (vD a h sn sd) (dX a h sn sd) (a * sn) w) := by
  rcases Bool.eq_false_or_eq_true (vW a h) with hv | hv
  · rcases Bool.eq_false_or_eq_true (vF sn sd) with hs | hs
    · obtain ⟨a1, a2, a3, a4⟩ := vW_yes hv
      obtain ⟨s1, s2, s3, s4, _⟩ := vF_yes hs
      obtain ⟨_, _, t1, t2, t3, t4⟩ := ratio_val hv
      have q1 := p3 (A := 1000) (B := 1000000000) t1 t2 (show 0 ≤ sd by omega) s2
      have HRO := Lib.hid (ratio_ok hv)
      by_cases hz : sn < 1
      · have HK := Lib.hid (show vD a h sn sd = false by simp [vD]; omega)
        have hz' : decide (sn < 1) = true := by simp; omega
        go_enter Try.func17, Try.ntmps17
        go_wp2_with fail
        refine (c_specWaterRatio _ _ _).mono ?_
        intro e w1 hop
        obtain ⟨rfl, hb⟩ := op_ok hv HRO.out hop
        clear hop
        have J1 := Lib.hid ((((blk_new w _ _).alloc _).alloc _).below hb (by simp <;> omega))
        have K1 := Lib.hid (((blk_new1 w _ _ _).alloc _).below hb (by simp <;> omega))
        have R1 := Lib.hid ((blk_new2 w _ _ _ _).below hb (by simp))
        have hB1 : Below w.heap.size w w1 := (show Below w.heap.size w _ from by go_grown).trans (hb.mono (by simp <;> omega))
        have hz1 := hB1.size
        obtain ⟨k0, k1, _, _⟩ := K1.out.two
        obtain ⟨r0, r1, fr0, fr1⟩ := R1.out.two
        have y1a : w.heap.size < w1.heap.size := by have := hb.size; simp at this; omega
        have y1b : w.heap.size + 1 < w1.heap.size := by have := hb.size; simp at this; omega
        have y1c : w.heap.size + 1 + 1 < w1.heap.size := by have := hb.size; simp at this; omega
        clear hb
        go_wp2_with fail
        refine (c_specFracValid _ _ _).mono ?_
        rintro e w2 ⟨rfl, hb⟩
        have K2 := Lib.hid ((K1.out.alloc _).below hb (by simp <;> omega))
        have R2 := Lib.hid ((R1.out.alloc _).below hb (by simp <;> omega))
        have Q2 := Lib.hid ((blk_new w1 _ _).below hb (by simp))
        have hB2 : Below w.heap.size w w2 := (hB1.alloc hz1 _).trans (hb.mono (by simp <;> omega))
        have hz2 := hB2.size
        obtain ⟨k20, k21, _, _⟩ := K2.out.two
        obtain ⟨r20, r21, fr20, fr21⟩ := R2.out.two
        obtain ⟨q20, q21, _, _⟩ := Q2.out.two
        have y2 : w1.heap.size < w2.heap.size := by have := hb.size; simp at this; omega
        have y2b : w.heap.size + 1 < w2.heap.size := by omega
        have y2c : w.heap.size + 1 + 1 < w2.heap.size := by omega
        clear hb
        go_wp2
        refine bodyPost_ret (v := .tuple #[.agg #[.int .i64 0, .int .i64 0], .bool false]) (by simp [results, Try.results17, go_sem, *]) rfl (op_no HK.out ?_)
        go_grown
      · have HK := Lib.hid (show vD a h sn sd = true by simp [vD, hv, hs]; omega)
        have hz' : decide (sn < 1) = false := by simp; omega
        have q2 := p3 (A := 1000000000) (B := 1000) (show 0 ≤ sn by omega) s4 (show 0 ≤ dF h a by omega) t4
        have q3 := p3 (A := 1000) (B := 1000000000) (show 0 ≤ dF h a by omega) t4 (show 0 ≤ sn by omega) s4
        have HE := Lib.hid (delta_spec hv hs (show 1 ≤ sn by omega))
        go_enter Try.func17, Try.ntmps17
        go_wp2_with fail
        refine (c_specWaterRatio _ _ _).mono ?_
        intro e w1 hop
        obtain ⟨rfl, hb⟩ := op_ok hv HRO.out hop
        clear hop
        have J1 := Lib.hid ((((blk_new w _ _).alloc _).alloc _).below hb (by simp <;> omega))
        have K1 := Lib.hid (((blk_new1 w _ _ _).alloc _).below hb (by simp <;> omega))
        have R1 := Lib.hid ((blk_new2 w _ _ _ _).below hb (by simp))
        have hB1 : Below w.heap.size w w1 := (show Below w.heap.size w _ from by go_grown).trans (hb.mono (by simp <;> omega))
        have hz1 := hB1.size
        obtain ⟨k0, k1, _, _⟩ := K1.out.two
        obtain ⟨r0, r1, fr0, fr1⟩ := R1.out.two
        have y1a : w.heap.size < w1.heap.size := by have := hb.size; simp at this; omega
        have y1b : w.heap.size + 1 < w1.heap.size := by have := hb.size; simp at this; omega
        have y1c : w.heap.size + 1 + 1 < w1.heap.size := by have := hb.size; simp at this; omega
        clear hb
        go_wp2_with fail
        refine (c_specFracValid _ _ _).mono ?_
        rintro e w2 ⟨rfl, hb⟩
        have K2 := Lib.hid ((K1.out.alloc _).below hb (by simp <;> omega))
        have R2 := Lib.hid ((R1.out.alloc _).below hb (by simp <;> omega))
        have Q2 := Lib.hid ((blk_new w1 _ _).below hb (by simp))
        have hB2 : Below w.heap.size w w2 := (hB1.alloc hz1 _).trans (hb.mono (by simp <;> omega))
        have hz2 := hB2.size
        obtain ⟨k20, k21, _, _⟩ := K2.out.two
        obtain ⟨r20, r21, fr20, fr21⟩ := R2.out.two
        obtain ⟨q20, q21, _, _⟩ := Q2.out.two
        have y2 : w1.heap.size < w2.heap.size := by have := hb.size; simp at this; omega
        have y2b : w.heap.size + 1 < w2.heap.size := by omega
        have y2c : w.heap.size + 1 + 1 < w2.heap.size := by omega
        clear hb
        go_wp2_with fail
        refine (c_specFracOf _ _ _).mono ?_
        rintro e w3 ⟨rfl, hb⟩
        have R3 := Lib.hid (R2.out.below hb (by omega))
        have hB3 : Below w.heap.size w w3 := hB2.trans (hb.mono hz2)
        obtain ⟨r30, r31, fr30, fr31⟩ := R3.out.two
        clear hb
        go_wp2
        refine bodyPost_ret (v := .tuple #[.agg #[.int .i64 (nF (1000 * (nF h a * sd - sn * dF h a)) (dF h a * sn)), .int .i64 (dF (1000 * (nF h a * sd - sn * dF h a)) (dF h a * sn))], .bool (okF (1000 * (nF h a * sd - sn * dF h a)) (dF h a * sn))]) (by simp [results, Try.results17, go_sem, r30, r31]) rfl (by rw [HE.out.1, HE.out.2.1, HE.out.2.2]; refine op_yes HK.out ?_; go_grown)
    · have HK := Lib.hid (show vD a h sn sd = false by simp [vD, hs])
      have HRO := Lib.hid (ratio_ok hv)
      go_enter Try.func17, Try.ntmps17
      go_wp2_with fail
      refine (c_specWaterRatio _ _ _).mono ?_
      intro e w1 hop
      obtain ⟨rfl, hb⟩ := op_ok hv HRO.out hop
      clear hop
      have J1 := Lib.hid ((((blk_new w _ _).alloc _).alloc _).below hb (by simp <;> omega))
      have K1 := Lib.hid (((blk_new1 w _ _ _).alloc _).below hb (by simp <;> omega))
      have R1 := Lib.hid ((blk_new2 w _ _ _ _).below hb (by simp))
      have hB1 : Below w.heap.size w w1 := (show Below w.heap.size w _ from by go_grown).trans (hb.mono (by simp <;> omega))
      have hz1 := hB1.size
      obtain ⟨k0, k1, _, _⟩ := K1.out.two
      obtain ⟨r0, r1, fr0, fr1⟩ := R1.out.two
      have y1a : w.heap.size < w1.heap.size := by have := hb.size; simp at this; omega
      have y1b : w.heap.size + 1 < w1.heap.size := by have := hb.size; simp at this; omega
      have y1c : w.heap.size + 1 + 1 < w1.heap.size := by have := hb.size; simp at this; omega
      clear hb
      go_wp2_with fail
      refine (c_specFracValid _ _ _).mono ?_
      rintro e w2 ⟨rfl, hb⟩
      have K2 := Lib.hid ((K1.out.alloc _).below hb (by simp <;> omega))
      have R2 := Lib.hid ((R1.out.alloc _).below hb (by simp <;> omega))
      have Q2 := Lib.hid ((blk_new w1 _ _).below hb (by simp))
      have hB2 : Below w.heap.size w w2 := (hB1.alloc hz1 _).trans (hb.mono (by simp <;> omega))
      have hz2 := hB2.size
      obtain ⟨k20, k21, _, _⟩ := K2.out.two
      obtain ⟨r20, r21, fr20, fr21⟩ := R2.out.two
      obtain ⟨q20, q21, _, _⟩ := Q2.out.two
      have y2 : w1.heap.size < w2.heap.size := by have := hb.size; simp at this; omega
      have y2b : w.heap.size + 1 < w2.heap.size := by omega
      have y2c : w.heap.size + 1 + 1 < w2.heap.size := by omega
      clear hb
      go_wp2
      refine bodyPost_ret (v := .tuple #[.agg #[.int .i64 0, .int .i64 0], .bool false]) (by simp [results, Try.results17, go_sem, *]) rfl (op_no HK.out ?_)
      go_grown
  · have HK := Lib.hid (show vD a h sn sd = false by simp [vD, hv])
    have HRO := Lib.hid (show okO (vW a h) h a = false by simp [okO, hv])
    go_enter Try.func17, Try.ntmps17
    go_wp2_with fail
    refine (c_specWaterRatio _ _ _).mono ?_
    intro e w1 hop
    obtain ⟨rfl, hb⟩ := op_bad HRO.out hop
    clear hop
    have J1 := Lib.hid ((((blk_new w _ _).alloc _).alloc _).below hb (by simp <;> omega))
    have K1 := Lib.hid (((blk_new1 w _ _ _).alloc _).below hb (by simp <;> omega))
    have R1 := Lib.hid ((blk_new2 w _ _ _ _).below hb (by simp))
    have hB1 : Below w.heap.size w w1 := (show Below w.heap.size w _ from by go_grown).trans (hb.mono (by simp <;> omega))
    have hz1 := hB1.size
    obtain ⟨k0, k1, _, _⟩ := K1.out.two
    obtain ⟨r0, r1, fr0, fr1⟩ := R1.out.two
    have y1a : w.heap.size < w1.heap.size := by have := hb.size; simp at this; omega
    have y1b : w.heap.size + 1 < w1.heap.size := by have := hb.size; simp at this; omega
    have y1c : w.heap.size + 1 + 1 < w1.heap.size := by have := hb.size; simp at this; omega
    clear hb
    go_wp2
    refine bodyPost_ret (v := .tuple #[.agg #[.int .i64 0, .int .i64 0], .bool false]) (by simp [results, Try.results17, go_sem, *]) rfl (op_no HK.out ?_)
    go_grown

end Go.Proofs.Ytbbipieadjggkaa
