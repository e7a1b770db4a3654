/-
  Contracts of CurveAt, CurveThen, GasLag, GasDepth of the reference.
-/
import Derived.Test.YtfngdemjlglliaaL11At
import Derived.Test.YtfngdemjlglliaaL11In
import Derived.Test.YtfngdemjlglliaaTurnSpec
import Derived.Test.YtfngdemjlglliaaLagImpl
import Derived.Test.YtfngdemjlglliaaFracSubSpec
namespace Go.Proofs.Ytfngdemjlglliaa
open Go.RowKit

theorem inC_one {l : List (Int × Int)} {x : Int} : inC l x 1 = inB x (px l 0) (px l (l.length - 1)) := by simp [inC, inB]
theorem vF_any {x : Int} (h0 : 0 ≤ x) (h1 : x ≤ 30000) : vF x 1 = true := vF_whole h0 (by omega)
set_option maxHeartbeats 4000000 in
theorem c_specCurveAt (A : Option Addr) (n c : Nat) (l : List (Int × Int)) (x : Int) (w : World) (hn : n ≤ 2000000) (h : RdP w A n l) :
    Calls Try.prog 32 #[.slice A n c, .int .i64 x] w (FrPost (nC l x) (dC l x) (okC l x) w) := by
  have HR := Lib.hid h
  have HL := Lib.hid h.len
  have HRA := Lib.hid (show RdP (w.alloc (.cells #[.int .i64 0, .int .i64 0] 27)) A n l from h.below ((Below.refl _ _).alloc (Nat.le_refl _) _))
  rcases Bool.eq_false_or_eq_true (vC l) with hv | hv
  · have HV := Lib.hid hv
    obtain ⟨hb0, _, h2n, _⟩ := vC_yes hv
    have hnn : 2 ≤ n := by have := HL.out; omega
    obtain ⟨j, rfl⟩ : ∃ j, n = j + 1 := ⟨n - 1, by omega⟩
    obtain ⟨b, off, rfl, hb, hc⟩ := h.at_ (by omega)
    have r0 := (hc 0 (by omega)).1
    have r1 := (hc j (by omega)).1
    rw [Nat.zero_mul, Nat.add_zero] at r0
    obtain ⟨x0, hx0⟩ : ∃ y, px l 0 = y := ⟨_, rfl⟩
    obtain ⟨xl, hxl⟩ : ∃ y, px l j = y := ⟨_, rfl⟩
    have a := hb0 0 (by omega)
    have a' := hb0 j (by have := HL.out; omega)
    rw [hx0] at r0 a
    rw [hxl] at r1 a'
    have hin : inC l x 1 = inB x x0 xl := by rw [inC_one, HL.out, Nat.add_sub_cancel, hx0, hxl]
    have hj : ((j + 1 : Nat) : Int) - 1 = (j : Int) := by omega
    have hj0 : (0 : Int) ≤ (j : Int) := by omega
    have hj1 : (j : Int) < ((j + 1 : Nat) : Int) := by omega
    have hj4 : (0 : Int) < ((j + 1 : Nat) : Int) := by omega
    clear h hc hx0 hxl hb0 h2n hv
    rcases Bool.eq_false_or_eq_true (inB x x0 xl) with hi | hi
    · have HI := Lib.hid hi
      have HIN := Lib.hid (hin.trans hi)
      obtain ⟨i0, i1⟩ := inB_true hi
      have HF := Lib.hid (vF_any (x := x) (by omega) (by omega))
      clear hi hin
      go_enter Try.func32, Try.ntmps32
      go_wp2_with fail
      go_quiet (first | (go_at_call 49; with_reducible exact qc_curveValid HV.out hn HRA.out _) | (go_at_call 50; with_reducible exact qc_l6In HI.out _ _))
      go_wp2_with fail
      refine (c_l11Whole x _).mono ?_
      rintro e w2 ⟨rfl, hb2⟩
      have Y2 := Lib.hid (show Blk w2 w.heap.size 27 #[.int .i64 0, .int .i64 0] from blk_b0 (by (repeat (first | with_reducible refine blk_drewN ?_ | with_reducible refine Blk.drew ?_)); exact blk_new w _ _) hb2)
      have hB2 : Below w.heap.size w w2 := bel0 (by (repeat (first | with_reducible refine below_drewC ?_ | with_reducible refine Below.drew ?_)); go_grown) hb2
      clear hb2 r0 r1
      go_wp2_with fail
      refine (c_l11At _ _ _ l x 1 _ hn (HR.out.below hB2) HV.out HIN.out HF.out (by omega)).mono ?_
      rintro e w3 ⟨rfl, hb3⟩
      have Y3 := Lib.hid (blk_b0 Y2.out hb3)
      have hB3 := bel0 hB2 hb3
      obtain ⟨y0, y1, y2, y3⟩ := Y3.out.two
      have yy := Y3.out.lt
      clear hb3
      go_wp2_with (
        with_reducible refine bodyPost_ret (v := .tuple #[.agg #[.int .i64 (nA l x 1), .int .i64 (dA l x 1)], .bool (okA l x 1)]) ?_ ?_ ?_
        · simp [results, Try.results32, go_sem, *]
        · rfl
        · refine fr_of (c_on HV.out) ?_
          go_grown)
    · have HI := Lib.hid hi
      have HIN := Lib.hid (at_out (hin.trans hi))
      clear hi hin
      go_enter Try.func32, Try.ntmps32
      go_wp2_with fail
      go_quiet (first | (go_at_call 49; with_reducible exact qc_curveValid HV.out hn HRA.out _) | (go_at_call 50; with_reducible exact qc_l6In HI.out _ _))
      go_wp2_with (
        with_reducible refine bodyPost_ret (v := .tuple #[.agg #[.int .i64 (0), .int .i64 (0)], .bool false]) ?_ ?_ ?_
        · simp [results, Try.results32, go_sem, *]
        · rfl
        · refine fr_of (by obtain ⟨p1, p2, p3⟩ := c_on (x := x) HV.out; rw [p1, p2, p3]; exact HIN.out) ?_
          repeat (first | with_reducible refine below_drewC ?_ | with_reducible refine Below.setCell ?_ ?_ _)
          all_goals go_grown)
  · have HV := Lib.hid hv
    clear hv h
    go_enter Try.func32, Try.ntmps32
    go_wp2_with fail
    go_quiet (first | (go_at_call 49; with_reducible exact qc_curveValid HV.out hn HRA.out _) | fail)
    go_wp2_with (
      with_reducible refine bodyPost_ret (v := .tuple #[.agg #[.int .i64 (0), .int .i64 (0)], .bool false]) ?_ ?_ ?_
      · simp [results, Try.results32, go_sem, *]
      · rfl
      · refine fr_of (c_off HV.out) ?_
        repeat (first | with_reducible refine below_drewC ?_ | with_reducible refine Below.setCell ?_ ?_ _)
        all_goals go_grown)
set_option maxHeartbeats 4000000 in
theorem c_specCurveThen (A : Option Addr) (n c : Nat) (a : List (Int × Int)) (B : Option Addr) (m cm : Nat) (b : List (Int × Int)) (x : Int) (w : World) (hn : n ≤ 2000000) (hm : m ≤ 2000000) (h : RdP w A n a) (h' : RdP w B m b) :
    Calls Try.prog 41 #[.slice A n c, .slice B m cm, .int .i64 x] w (FrPost (nT a b x) (dT a b x) (okT a b x) w) := by
  have HA := Lib.hid h
  have HB := Lib.hid h'
  clear h h'
  rcases Bool.eq_false_or_eq_true (okC a x) with hok | hok
  · obtain ⟨n0, d0, hn0, hd0, z0, z1, z2, z3, hvf⟩ := c_nam hok
    have HK := Lib.hid hok
    have HN0 := Lib.hid hn0
    have HD0 := Lib.hid hd0
    have HF := Lib.hid hvf
    clear hok hn0 hd0 hvf
    rcases Bool.eq_false_or_eq_true (vC b) with hv | hv
    all_goals have HV := Lib.hid hv
    · clear hv
      rcases Bool.eq_false_or_eq_true (inC b n0 d0) with hi | hi
      all_goals have HI := Lib.hid hi
      · clear hi
        go_enter Try.func41, Try.ntmps41
        go_wp2_with fail
        refine (c_specCurveAt _ _ _ a x _ hn (HA.out.below (by go_grown))).mono ?_
        intro e w1 hp
        obtain ⟨rfl, hb⟩ := hp.val ⟨HK.out, HN0.out, HD0.out⟩
        clear hp
        have Y1 := Lib.hid (blk_n1 hb)
        have hB1 := bel1 (Below.refl _ w) hb
        have zY1 := Y1.out.lt
        clear hb
        go_wp2_with fail
        refine (c_specCurveValid _ _ _ b _ hm (HB.out.below (by go_grown))).mono ?_
        rintro e w2 ⟨he, hb⟩
        rw [HV.out] at he
        subst he
        have Y2 := Lib.hid (blk_b1 Y1.out hb)
        have D2 := Lib.hid (blk_n1 hb)
        have hB2 := bel1 hB1 hb
        have zY2 := Y2.out.lt
        have zD2 := D2.out.lt
        obtain ⟨cY2, dY2, fY2, hY2⟩ := Y2.out.two
        obtain ⟨cD2, dD2, fD2, hD2⟩ := D2.out.two
        clear hb
        go_wp2_with fail
        refine (c_l11In _ _ _ b n0 d0 _ hm (HB.out.below (by go_grown)) HV.out HF.out).mono ?_
        rintro e w3 ⟨he, hb⟩
        rw [HI.out] at he
        subst he
        have Y3 := Lib.hid (blk_b0 Y2.out hb)
        have D3 := Lib.hid (blk_b0 D2.out hb)
        have hB3 := bel0 hB2 hb
        have zY3 := Y3.out.lt
        have zD3 := D3.out.lt
        obtain ⟨cY3, dY3, fY3, hY3⟩ := Y3.out.two
        obtain ⟨cD3, dD3, fD3, hD3⟩ := D3.out.two
        clear hb
        clear cY2 dY2 fY2 hY2 cD2 dD2 fD2 hD2
        go_wp2_with fail
        refine (c_l11At _ _ _ b n0 d0 _ hm (HB.out.below (by go_grown)) HV.out HI.out HF.out z3).mono ?_
        rintro e w4 ⟨rfl, hb⟩
        have Y4 := Lib.hid (blk_b0 Y3.out hb)
        have D4 := Lib.hid (blk_b0 D3.out hb)
        have hB4 := bel0 hB3 hb
        have zY4 := Y4.out.lt
        have zD4 := D4.out.lt
        obtain ⟨cY4, dY4, fY4, hY4⟩ := Y4.out.two
        clear hb
        clear cY3 dY3 fY3 hY3 cD3 dD3 fD3 hD3
        go_wp2_with (
          with_reducible refine bodyPost_ret (v := .tuple #[.agg #[.int .i64 (nA b n0 d0), .int .i64 (dA b n0 d0)], .bool (okA b n0 d0)]) ?_ ?_ ?_
          · simp [results, Try.results41, go_sem, *]
          · rfl
          · refine fr_of (t_on HK.out HV.out HN0.out HD0.out) ?_
            go_grown)
      · clear hi
        go_enter Try.func41, Try.ntmps41
        go_wp2_with fail
        refine (c_specCurveAt _ _ _ a x _ hn (HA.out.below (by go_grown))).mono ?_
        intro e w1 hp
        obtain ⟨rfl, hb⟩ := hp.val ⟨HK.out, HN0.out, HD0.out⟩
        clear hp
        have Y1 := Lib.hid (blk_n1 hb)
        have hB1 := bel1 (Below.refl _ w) hb
        have zY1 := Y1.out.lt
        clear hb
        go_wp2_with fail
        refine (c_specCurveValid _ _ _ b _ hm (HB.out.below (by go_grown))).mono ?_
        rintro e w2 ⟨he, hb⟩
        rw [HV.out] at he
        subst he
        have Y2 := Lib.hid (blk_b1 Y1.out hb)
        have D2 := Lib.hid (blk_n1 hb)
        have hB2 := bel1 hB1 hb
        have zY2 := Y2.out.lt
        have zD2 := D2.out.lt
        obtain ⟨cY2, dY2, fY2, hY2⟩ := Y2.out.two
        obtain ⟨cD2, dD2, fD2, hD2⟩ := D2.out.two
        clear hb
        go_wp2_with fail
        refine (c_l11In _ _ _ b n0 d0 _ hm (HB.out.below (by go_grown)) HV.out HF.out).mono ?_
        rintro e w3 ⟨he, hb⟩
        rw [HI.out] at he
        subst he
        have Y3 := Lib.hid (blk_b0 Y2.out hb)
        have D3 := Lib.hid (blk_b0 D2.out hb)
        have hB3 := bel0 hB2 hb
        have zY3 := Y3.out.lt
        have zD3 := D3.out.lt
        obtain ⟨cY3, dY3, fY3, hY3⟩ := Y3.out.two
        obtain ⟨cD3, dD3, fD3, hD3⟩ := D3.out.two
        clear hb
        clear cY2 dY2 fY2 hY2 cD2 dD2 fD2 hD2
        go_wp2_with (
          with_reducible refine bodyPost_ret (v := .tuple #[.agg #[.int .i64 (0), .int .i64 (0)], .bool false]) ?_ ?_ ?_
          · simp [results, Try.results41, go_sem, *]
          · rfl
          · refine fr_of (t_out HK.out HV.out HN0.out HD0.out HI.out) ?_
            go_grown)
    · clear hv
      go_enter Try.func41, Try.ntmps41
      go_wp2_with fail
      refine (c_specCurveAt _ _ _ a x _ hn (HA.out.below (by go_grown))).mono ?_
      intro e w1 hp
      obtain ⟨rfl, hb⟩ := hp.val ⟨HK.out, HN0.out, HD0.out⟩
      clear hp
      have Y1 := Lib.hid (blk_n1 hb)
      have hB1 := bel1 (Below.refl _ w) hb
      have zY1 := Y1.out.lt
      clear hb
      go_wp2_with fail
      refine (c_specCurveValid _ _ _ b _ hm (HB.out.below (by go_grown))).mono ?_
      rintro e w2 ⟨he, hb⟩
      rw [HV.out] at he
      subst he
      have Y2 := Lib.hid (blk_b1 Y1.out hb)
      have D2 := Lib.hid (blk_n1 hb)
      have hB2 := bel1 hB1 hb
      have zY2 := Y2.out.lt
      have zD2 := D2.out.lt
      obtain ⟨cY2, dY2, fY2, hY2⟩ := Y2.out.two
      obtain ⟨cD2, dD2, fD2, hD2⟩ := D2.out.two
      clear hb
      go_wp2_with (
        with_reducible refine bodyPost_ret (v := .tuple #[.agg #[.int .i64 (0), .int .i64 (0)], .bool false]) ?_ ?_ ?_
        · simp [results, Try.results41, go_sem, *]
        · rfl
        · refine fr_of (t_no2 HV.out) ?_
          go_grown)
  · have HK := Lib.hid (c_no hok)
    clear hok
    go_enter Try.func41, Try.ntmps41
    go_wp2_with fail
    refine (c_specCurveAt _ _ _ a x _ hn (HA.out.below (by go_grown))).mono ?_
    intro e w1 hp
    obtain ⟨rfl, hb⟩ := hp.val ⟨HK.out.1, HK.out.2.1, HK.out.2.2⟩
    clear hp
    have Y1 := Lib.hid (blk_n1 hb)
    have hB1 := bel1 (Below.refl _ w) hb
    have zY1 := Y1.out.lt
    obtain ⟨cY1, dY1, fY1, hY1⟩ := Y1.out.two
    clear hb
    go_wp2_with (
      with_reducible refine bodyPost_ret (v := .tuple #[.agg #[.int .i64 (0), .int .i64 (0)], .bool false]) ?_ ?_ ?_
      · simp [results, Try.results41, go_sem, *]
      · rfl
      · refine fr_of (t_no1 HK.out.1) ?_
        go_grown)
set_option maxHeartbeats 4000000 in
theorem c_specGasLag (A : Option Addr) (n c : Nat) (a : List (Int × Int)) (B : Option Addr) (m cm : Nat) (b : List (Int × Int)) (x : Int) (w : World) (hn : n ≤ 2000000) (hm : m ≤ 2000000) (h : RdP w A n a) (h' : RdP w B m b) :
    Calls Try.prog 12 #[.slice A n c, .slice B m cm, .int .i64 x] w (FrPost (nL a b x) (dL a b x) (okL a b x) w) := by
  have HA := Lib.hid h
  have HB := Lib.hid h'
  clear h h'
  rcases Bool.eq_false_or_eq_true (okC a x) with hok | hok
  · obtain ⟨n0, d0, hn0, hd0, z0, z1, z2, z3, hvf⟩ := c_nam hok
    have HK := Lib.hid hok
    have HN0 := Lib.hid hn0
    have HD0 := Lib.hid hd0
    have HF := Lib.hid hvf
    clear hok hn0 hd0 hvf
    rcases Bool.eq_false_or_eq_true (okC b x) with hok | hok
    · obtain ⟨n1, d1, hn1, hd1, y0, y1, y2, y3, hvf⟩ := c_nam hok
      have HK' := Lib.hid hok
      have HN1 := Lib.hid hn1
      have HD1 := Lib.hid hd1
      have HF' := Lib.hid hvf
      clear hok hn1 hd1 hvf
      go_enter Try.func12, Try.ntmps12
      go_wp2_with fail
      refine (c_specCurveAt _ _ _ a x _ hn (HA.out.below (by go_grown))).mono ?_
      intro e w1 hp
      obtain ⟨rfl, hb⟩ := hp.val ⟨HK.out, HN0.out, HD0.out⟩
      clear hp
      have Y1 := Lib.hid (blk_n1 hb)
      have hB1 := bel1 (Below.refl _ w) hb
      have zY1 := Y1.out.lt
      clear hb
      go_wp2_with fail
      refine (c_specCurveAt _ _ _ b x _ hm (HB.out.below (by go_grown))).mono ?_
      intro e w2 hp
      obtain ⟨rfl, hb⟩ := hp.val ⟨HK'.out, HN1.out, HD1.out⟩
      clear hp
      have Y2 := Lib.hid (blk_b1 Y1.out hb)
      have D2 := Lib.hid (blk_n1 hb)
      have hB2 := bel1 hB1 hb
      have zY2 := Y2.out.lt
      have zD2 := D2.out.lt
      obtain ⟨cY2, dY2, fY2, hY2⟩ := Y2.out.two
      obtain ⟨cD2, dD2, fD2, hD2⟩ := D2.out.two
      clear hb
      go_wp2_with fail
      refine (c_specFracSub _ _ _ _ _).mono ?_
      intro e w3 hp
      have HP := Lib.hid (l_fr (a := a) (b := b) (x := x) HK.out HK'.out HN0.out HD0.out HN1.out HD1.out HF.out HF'.out hp)
      obtain ⟨rfl, hb⟩ := hp
      have Y3 := Lib.hid (blk_b1 Y2.out hb)
      have D3 := Lib.hid (blk_b1 D2.out hb)
      have E3 := Lib.hid (blk_n1 hb)
      have hB3 := bel1 hB2 hb
      have zY3 := Y3.out.lt
      have zD3 := D3.out.lt
      have zE3 := E3.out.lt
      obtain ⟨cY3, dY3, fY3, hY3⟩ := Y3.out.two
      clear hb
      clear cY2 dY2 fY2 hY2 cD2 dD2 fD2 hD2
      obtain ⟨he, _⟩ := HP.out
      injection he with he
      have HE := Lib.hid he
      clear he HP
      go_wp2_with (
        with_reducible refine bodyPost_ret (v := .tuple #[.agg #[.int .i64 (nO (two n0 d0 n1 d1) (n0 * d1 - n1 * d0) (d0 * d1)), .int .i64 (dO (two n0 d0 n1 d1) (n0 * d1 - n1 * d0) (d0 * d1))], .bool (okO (two n0 d0 n1 d1) (n0 * d1 - n1 * d0) (d0 * d1))]) ?_ ?_ ?_
        · simp [results, Try.results12, go_sem, *]
        · rfl
        · refine ⟨by rw [HE.out], ?_⟩
          go_grown)
    · have HK' := Lib.hid (c_no hok)
      clear hok
      go_enter Try.func12, Try.ntmps12
      go_wp2_with fail
      refine (c_specCurveAt _ _ _ a x _ hn (HA.out.below (by go_grown))).mono ?_
      intro e w1 hp
      obtain ⟨rfl, hb⟩ := hp.val ⟨HK.out, HN0.out, HD0.out⟩
      clear hp
      have Y1 := Lib.hid (blk_n1 hb)
      have hB1 := bel1 (Below.refl _ w) hb
      have zY1 := Y1.out.lt
      clear hb
      go_wp2_with fail
      refine (c_specCurveAt _ _ _ b x _ hm (HB.out.below (by go_grown))).mono ?_
      intro e w2 hp
      obtain ⟨rfl, hb⟩ := hp.val ⟨HK'.out.1, HK'.out.2.1, HK'.out.2.2⟩
      clear hp
      have Y2 := Lib.hid (blk_b1 Y1.out hb)
      have D2 := Lib.hid (blk_n1 hb)
      have hB2 := bel1 hB1 hb
      have zY2 := Y2.out.lt
      have zD2 := D2.out.lt
      obtain ⟨cY2, dY2, fY2, hY2⟩ := Y2.out.two
      obtain ⟨cD2, dD2, fD2, hD2⟩ := D2.out.two
      clear hb
      go_wp2_with (
        with_reducible refine bodyPost_ret (v := .tuple #[.agg #[.int .i64 (0), .int .i64 (0)], .bool false]) ?_ ?_ ?_
        · simp [results, Try.results12, go_sem, *]
        · rfl
        · refine fr_of (l_no2 HK'.out.1) ?_
          go_grown)
  · have HK := Lib.hid (c_no hok)
    clear hok
    go_enter Try.func12, Try.ntmps12
    go_wp2_with fail
    refine (c_specCurveAt _ _ _ a x _ hn (HA.out.below (by go_grown))).mono ?_
    intro e w1 hp
    obtain ⟨rfl, hb⟩ := hp.val ⟨HK.out.1, HK.out.2.1, HK.out.2.2⟩
    clear hp
    have Y1 := Lib.hid (blk_n1 hb)
    have hB1 := bel1 (Below.refl _ w) hb
    have zY1 := Y1.out.lt
    clear hb
    go_wp2_with fail
    refine (c_specCurveAt _ _ _ b x _ hm (HB.out.below (by go_grown))).mono ?_
    rintro e w2 ⟨rfl, hb⟩
    have Y2 := Lib.hid (blk_b1 Y1.out hb)
    have D2 := Lib.hid (blk_n1 hb)
    have hB2 := bel1 hB1 hb
    have zY2 := Y2.out.lt
    have zD2 := D2.out.lt
    obtain ⟨cY2, dY2, fY2, hY2⟩ := Y2.out.two
    obtain ⟨cD2, dD2, fD2, hD2⟩ := D2.out.two
    clear hb
    go_wp2_with (
      with_reducible refine bodyPost_ret (v := .tuple #[.agg #[.int .i64 (0), .int .i64 (0)], .bool false]) ?_ ?_ ?_
      · simp [results, Try.results12, go_sem, *]
      · rfl
      · refine fr_of (l_no1 HK.out.1) ?_
        go_grown)
set_option maxHeartbeats 4000000 in
theorem c_specGasDepth (A : Option Addr) (n c : Nat) (a : List (Int × Int)) (B : Option Addr) (m cm : Nat) (b : List (Int × Int)) (x : Int) (w : World) (hn : n ≤ 2000000) (hm : m ≤ 2000000) (h : RdP w A n a) (h' : RdP w B m b) :
    Calls Try.prog 18 #[.slice A n c, .slice B m cm, .int .i64 x] w (FrPost (nP a b x) (dP a b x) (okP a b x) w) := by
  have HA := Lib.hid h
  have HB := Lib.hid h'
  clear h h'
  rcases Bool.eq_false_or_eq_true (vC a) with hv | hv
  all_goals have HV := Lib.hid hv
  · clear hv
    go_enter Try.func18, Try.ntmps18
    go_wp2_with fail
    refine (c_specCurveTurn _ _ _ a _ hn (HA.out.below (by go_grown))).mono ?_
    rintro e w1 ⟨A1, n1, c1, he, hr, hb⟩
    rw [HV.out] at he
    subst he
    obtain ⟨hn1, hr⟩ := hr HV.out
    have HT := Lib.hid hr
    clear hr
    have Y1 := Lib.hid (blk_n1 hb)
    have hB1 := bel1 (Below.refl _ w) hb
    have zY1 := Y1.out.lt
    obtain ⟨cY1, dY1, fY1, hY1⟩ := Y1.out.two
    clear hb
    go_wp2_with fail
    refine (c_specCurveThen _ _ _ b _ _ _ (turn a) x _ hm (by omega) (HB.out.below (by go_grown)) HT.out).mono ?_
    rintro e w2 ⟨rfl, hb⟩
    have Y2 := Lib.hid (blk_b0 Y1.out hb)
    have hB2 := bel0 hB1 hb
    have zY2 := Y2.out.lt
    obtain ⟨cY2, dY2, fY2, hY2⟩ := Y2.out.two
    clear hb
    clear cY1 dY1 fY1 hY1
    go_wp2_with (
      with_reducible refine bodyPost_ret (v := .tuple #[.agg #[.int .i64 (nT b (turn a) x), .int .i64 (dT b (turn a) x)], .bool (okT b (turn a) x)]) ?_ ?_ ?_
      · simp [results, Try.results18, go_sem, *]
      · rfl
      · refine fr_of (p_on HV.out) ?_
        go_grown)
  · clear hv
    go_enter Try.func18, Try.ntmps18
    go_wp2_with fail
    refine (c_specCurveTurn _ _ _ a _ hn (HA.out.below (by go_grown))).mono ?_
    rintro e w1 ⟨A1, n1, c1, he, hr, hb⟩
    rw [HV.out] at he
    subst he
    clear hr
    have Y1 := Lib.hid (blk_n1 hb)
    have hB1 := bel1 (Below.refl _ w) hb
    have zY1 := Y1.out.lt
    obtain ⟨cY1, dY1, fY1, hY1⟩ := Y1.out.two
    clear hb
    go_wp2_with (
      with_reducible refine bodyPost_ret (v := .tuple #[.agg #[.int .i64 (0), .int .i64 (0)], .bool false]) ?_ ?_ ?_
      · simp [results, Try.results18, go_sem, *]
      · rfl
      · refine fr_of (p_no HV.out) ?_
        go_grown)
end Go.Proofs.Ytfngdemjlglliaa
