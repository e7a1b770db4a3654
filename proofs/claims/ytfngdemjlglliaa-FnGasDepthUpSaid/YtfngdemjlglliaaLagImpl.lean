/-
  Contracts of CurveAt, CurveThen, GasLag, GasDepth of the program.
-/
import Derived.Test.YtfngdemjlglliaaLagWords
import Derived.Test.YtfngdemjlglliaaAtImpl
import Derived.Test.YtfngdemjlglliaaTurnImpl
import Derived.Test.YtfngdemjlglliaaFracSubImpl
namespace Go.Proofs.Ytfngdemjlglliaa
open Go.RowKit

set_option maxHeartbeats 4000000 in
theorem c_implCurveAt (A : Option Addr) (n c : Nat) (l : List (Int × Int)) (x : Int) (w : World) (hn : n ≤ 2000000) (h : RdP w A n l) :
    Calls Try.prog 14 #[.slice A n c, .int .i64 x] w (FrPost (nC l x) (dC l x) (okC l x) w) := by
  have HR := Lib.hid h
  clear h
  rcases Bool.eq_false_or_eq_true (vC l) with hv | hv
  all_goals have HV := Lib.hid hv
  · clear hv
    go_enter Try.func14, Try.ntmps14
    go_wp2_with fail
    refine (c_implCurveValid _ _ _ l _ hn (HR.out.below (by go_grown))).mono ?_
    rintro e w1 ⟨he, hb⟩
    rw [HV.out] at he
    subst he
    have Y1 := Lib.hid (blk_n1 hb)
    have hB1 := bel1 (Below.refl _ w) hb
    have zY1 := Y1.out.lt
    obtain ⟨cY1, dY1, fY1, hY1⟩ := Y1.out.two
    clear hb
    go_wp2_with fail
    refine (c_curveAt _ _ _ l x 1 _ hn (HR.out.below (by go_grown)) HV.out (by omega) (by omega)).mono ?_
    rintro e w2 ⟨rfl, hb⟩
    have Y2 := Lib.hid (blk_b0 Y1.out hb)
    have hB2 := bel0 hB1 hb
    have zY2 := Y2.out.lt
    obtain ⟨cY2, dY2, fY2, hY2⟩ := Y2.out.two
    clear hb
    clear cY1 dY1 fY1 hY1
    go_wp2_with (
      with_reducible refine bodyPost_ret (v := .tuple #[.agg #[.int .i64 (nA l x 1), .int .i64 (dA l x 1)], .bool (okA l x 1)]) ?_ ?_ ?_
      · simp [results, Try.results14, go_sem, *]
      · rfl
      · refine fr_of (c_on HV.out) ?_
        go_grown)
  · clear hv
    go_enter Try.func14, Try.ntmps14
    go_wp2_with fail
    refine (c_implCurveValid _ _ _ l _ hn (HR.out.below (by go_grown))).mono ?_
    rintro e w1 ⟨he, hb⟩
    rw [HV.out] at he
    subst he
    have Y1 := Lib.hid (blk_n1 hb)
    have hB1 := bel1 (Below.refl _ w) hb
    have zY1 := Y1.out.lt
    obtain ⟨cY1, dY1, fY1, hY1⟩ := Y1.out.two
    clear hb
    go_wp2_with (
      with_reducible refine bodyPost_ret (v := .tuple #[.agg #[.int .i64 (0), .int .i64 (0)], .bool false]) ?_ ?_ ?_
      · simp [results, Try.results14, go_sem, *]
      · rfl
      · refine fr_of (c_off HV.out) ?_
        go_grown)
set_option maxHeartbeats 4000000 in
theorem c_implCurveThen (A : Option Addr) (n c : Nat) (a : List (Int × Int)) (B : Option Addr) (m cm : Nat) (b : List (Int × Int)) (x : Int) (w : World) (hn : n ≤ 2000000) (hm : m ≤ 2000000) (h : RdP w A n a) (h' : RdP w B m b) :
    Calls Try.prog 39 #[.slice A n c, .slice B m cm, .int .i64 x] w (FrPost (nT a b x) (dT a b x) (okT a b x) w) := by
  have HA := Lib.hid h
  have HB := Lib.hid h'
  clear h h'
  rcases Bool.eq_false_or_eq_true (okC a x) with hok | hok
  · obtain ⟨n0, d0, hn0, hd0, z0, z1, z2, z3, hvf⟩ := c_nam hok
    have HK := Lib.hid hok
    have HN0 := Lib.hid hn0
    have HD0 := Lib.hid hd0
    clear hok hn0 hd0 hvf
    rcases Bool.eq_false_or_eq_true (vC b) with hv | hv
    all_goals have HV := Lib.hid hv
    · clear hv
      go_enter Try.func39, Try.ntmps39
      go_wp2_with fail
      refine (c_implCurveAt _ _ _ a x _ hn (HA.out.below (by go_grown))).mono ?_
      intro e w1 hp
      obtain ⟨rfl, hb⟩ := hp.val ⟨HK.out, HN0.out, HD0.out⟩
      clear hp
      have Y1 := Lib.hid (blk_n1 hb)
      have hB1 := bel1 (Below.refl _ w) hb
      have zY1 := Y1.out.lt
      clear hb
      go_wp2_with fail
      refine (c_implCurveValid _ _ _ b _ hm (HB.out.below (by go_grown))).mono ?_
      rintro e w2 ⟨he, hb⟩
      rw [HV.out] at he
      subst he
      have Y2 := Lib.hid (blk_b1 Y1.out hb)
      have D2 := Lib.hid (blk_n1 hb)
      have hB2 := bel1 hB1 hb
      have zY2 := Y2.out.lt
      have zD2 := D2.out.lt
      obtain ⟨cY2, dY2, fY2, hY2⟩ := Y2.out.two
      obtain ⟨cD2, dD2, fD2, hD2⟩ := D2.out.two
      clear hb
      go_wp2_with fail
      refine (c_curveAt _ _ _ b n0 d0 _ hm (HB.out.below (by go_grown)) HV.out z2 z3).mono ?_
      rintro e w3 ⟨rfl, hb⟩
      have Y3 := Lib.hid (blk_b0 Y2.out hb)
      have D3 := Lib.hid (blk_b0 D2.out hb)
      have hB3 := bel0 hB2 hb
      have zY3 := Y3.out.lt
      have zD3 := D3.out.lt
      obtain ⟨cY3, dY3, fY3, hY3⟩ := Y3.out.two
      clear hb
      clear cY2 dY2 fY2 hY2 cD2 dD2 fD2 hD2
      go_wp2_with (
        with_reducible refine bodyPost_ret (v := .tuple #[.agg #[.int .i64 (nA b n0 d0), .int .i64 (dA b n0 d0)], .bool (okA b n0 d0)]) ?_ ?_ ?_
        · simp [results, Try.results39, go_sem, *]
        · rfl
        · refine fr_of (t_on HK.out HV.out HN0.out HD0.out) ?_
          go_grown)
    · clear hv
      go_enter Try.func39, Try.ntmps39
      go_wp2_with fail
      refine (c_implCurveAt _ _ _ a x _ hn (HA.out.below (by go_grown))).mono ?_
      intro e w1 hp
      obtain ⟨rfl, hb⟩ := hp.val ⟨HK.out, HN0.out, HD0.out⟩
      clear hp
      have Y1 := Lib.hid (blk_n1 hb)
      have hB1 := bel1 (Below.refl _ w) hb
      have zY1 := Y1.out.lt
      clear hb
      go_wp2_with fail
      refine (c_implCurveValid _ _ _ b _ hm (HB.out.below (by go_grown))).mono ?_
      rintro e w2 ⟨he, hb⟩
      rw [HV.out] at he
      subst he
      have Y2 := Lib.hid (blk_b1 Y1.out hb)
      have D2 := Lib.hid (blk_n1 hb)
      have hB2 := bel1 hB1 hb
      have zY2 := Y2.out.lt
      have zD2 := D2.out.lt
      obtain ⟨cY2, dY2, fY2, hY2⟩ := Y2.out.two
      obtain ⟨cD2, dD2, fD2, hD2⟩ := D2.out.two
      clear hb
      go_wp2_with (
        with_reducible refine bodyPost_ret (v := .tuple #[.agg #[.int .i64 (0), .int .i64 (0)], .bool false]) ?_ ?_ ?_
        · simp [results, Try.results39, go_sem, *]
        · rfl
        · refine fr_of (t_no2 HV.out) ?_
          go_grown)
  · have HK := Lib.hid (c_no hok)
    clear hok
    go_enter Try.func39, Try.ntmps39
    go_wp2_with fail
    refine (c_implCurveAt _ _ _ a x _ hn (HA.out.below (by go_grown))).mono ?_
    intro e w1 hp
    obtain ⟨rfl, hb⟩ := hp.val ⟨HK.out.1, HK.out.2.1, HK.out.2.2⟩
    clear hp
    have Y1 := Lib.hid (blk_n1 hb)
    have hB1 := bel1 (Below.refl _ w) hb
    have zY1 := Y1.out.lt
    obtain ⟨cY1, dY1, fY1, hY1⟩ := Y1.out.two
    clear hb
    go_wp2_with (
      with_reducible refine bodyPost_ret (v := .tuple #[.agg #[.int .i64 (0), .int .i64 (0)], .bool false]) ?_ ?_ ?_
      · simp [results, Try.results39, go_sem, *]
      · rfl
      · refine fr_of (t_no1 HK.out.1) ?_
        go_grown)
set_option maxHeartbeats 4000000 in
theorem c_implGasLag (A : Option Addr) (n c : Nat) (a : List (Int × Int)) (B : Option Addr) (m cm : Nat) (b : List (Int × Int)) (x : Int) (w : World) (hn : n ≤ 2000000) (hm : m ≤ 2000000) (h : RdP w A n a) (h' : RdP w B m b) :
    Calls Try.prog 11 #[.slice A n c, .slice B m cm, .int .i64 x] w (FrPost (nL a b x) (dL a b x) (okL a b x) w) := by
  have HA := Lib.hid h
  have HB := Lib.hid h'
  clear h h'
  rcases Bool.eq_false_or_eq_true (okC a x) with hok | hok
  · obtain ⟨n0, d0, hn0, hd0, z0, z1, z2, z3, hvf⟩ := c_nam hok
    have HK := Lib.hid hok
    have HN0 := Lib.hid hn0
    have HD0 := Lib.hid hd0
    have HF := Lib.hid hvf
    clear hok hn0 hd0 hvf
    rcases Bool.eq_false_or_eq_true (okC b x) with hok | hok
    · obtain ⟨n1, d1, hn1, hd1, y0, y1, y2, y3, hvf⟩ := c_nam hok
      have HK' := Lib.hid hok
      have HN1 := Lib.hid hn1
      have HD1 := Lib.hid hd1
      have HF' := Lib.hid hvf
      clear hok hn1 hd1 hvf
      go_enter Try.func11, Try.ntmps11
      go_wp2_with fail
      refine (c_implCurveAt _ _ _ a x _ hn (HA.out.below (by go_grown))).mono ?_
      intro e w1 hp
      obtain ⟨rfl, hb⟩ := hp.val ⟨HK.out, HN0.out, HD0.out⟩
      clear hp
      have Y1 := Lib.hid (blk_n1 hb)
      have hB1 := bel1 (Below.refl _ w) hb
      have zY1 := Y1.out.lt
      clear hb
      go_wp2_with fail
      refine (c_implCurveAt _ _ _ b x _ hm (HB.out.below (by go_grown))).mono ?_
      intro e w2 hp
      obtain ⟨rfl, hb⟩ := hp.val ⟨HK'.out, HN1.out, HD1.out⟩
      clear hp
      have Y2 := Lib.hid (blk_b1 Y1.out hb)
      have D2 := Lib.hid (blk_n1 hb)
      have hB2 := bel1 hB1 hb
      have zY2 := Y2.out.lt
      have zD2 := D2.out.lt
      obtain ⟨cY2, dY2, fY2, hY2⟩ := Y2.out.two
      obtain ⟨cD2, dD2, fD2, hD2⟩ := D2.out.two
      clear hb
      go_wp2_with fail
      refine (c_implFracSub _ _ _ _ _).mono ?_
      intro e w3 hp
      have HP := Lib.hid (l_fr (a := a) (b := b) (x := x) HK.out HK'.out HN0.out HD0.out HN1.out HD1.out HF.out HF'.out hp)
      obtain ⟨rfl, hb⟩ := hp
      have Y3 := Lib.hid (blk_b1 Y2.out hb)
      have D3 := Lib.hid (blk_b1 D2.out hb)
      have E3 := Lib.hid (blk_n1 hb)
      have hB3 := bel1 hB2 hb
      have zY3 := Y3.out.lt
      have zD3 := D3.out.lt
      have zE3 := E3.out.lt
      obtain ⟨cY3, dY3, fY3, hY3⟩ := Y3.out.two
      clear hb
      clear cY2 dY2 fY2 hY2 cD2 dD2 fD2 hD2
      obtain ⟨he, _⟩ := HP.out
      injection he with he
      have HE := Lib.hid he
      clear he HP
      go_wp2_with (
        with_reducible refine bodyPost_ret (v := .tuple #[.agg #[.int .i64 (nO (two n0 d0 n1 d1) (n0 * d1 - n1 * d0) (d0 * d1)), .int .i64 (dO (two n0 d0 n1 d1) (n0 * d1 - n1 * d0) (d0 * d1))], .bool (okO (two n0 d0 n1 d1) (n0 * d1 - n1 * d0) (d0 * d1))]) ?_ ?_ ?_
        · simp [results, Try.results11, go_sem, *]
        · rfl
        · refine ⟨by rw [HE.out], ?_⟩
          go_grown)
    · have HK' := Lib.hid (c_no hok)
      clear hok
      go_enter Try.func11, Try.ntmps11
      go_wp2_with fail
      refine (c_implCurveAt _ _ _ a x _ hn (HA.out.below (by go_grown))).mono ?_
      intro e w1 hp
      obtain ⟨rfl, hb⟩ := hp.val ⟨HK.out, HN0.out, HD0.out⟩
      clear hp
      have Y1 := Lib.hid (blk_n1 hb)
      have hB1 := bel1 (Below.refl _ w) hb
      have zY1 := Y1.out.lt
      clear hb
      go_wp2_with fail
      refine (c_implCurveAt _ _ _ b x _ hm (HB.out.below (by go_grown))).mono ?_
      intro e w2 hp
      obtain ⟨rfl, hb⟩ := hp.val ⟨HK'.out.1, HK'.out.2.1, HK'.out.2.2⟩
      clear hp
      have Y2 := Lib.hid (blk_b1 Y1.out hb)
      have D2 := Lib.hid (blk_n1 hb)
      have hB2 := bel1 hB1 hb
      have zY2 := Y2.out.lt
      have zD2 := D2.out.lt
      obtain ⟨cY2, dY2, fY2, hY2⟩ := Y2.out.two
      obtain ⟨cD2, dD2, fD2, hD2⟩ := D2.out.two
      clear hb
      go_wp2_with (
        with_reducible refine bodyPost_ret (v := .tuple #[.agg #[.int .i64 (0), .int .i64 (0)], .bool false]) ?_ ?_ ?_
        · simp [results, Try.results11, go_sem, *]
        · rfl
        · refine fr_of (l_no2 HK'.out.1) ?_
          go_grown)
  · have HK := Lib.hid (c_no hok)
    clear hok
    go_enter Try.func11, Try.ntmps11
    go_wp2_with fail
    refine (c_implCurveAt _ _ _ a x _ hn (HA.out.below (by go_grown))).mono ?_
    intro e w1 hp
    obtain ⟨rfl, hb⟩ := hp.val ⟨HK.out.1, HK.out.2.1, HK.out.2.2⟩
    clear hp
    have Y1 := Lib.hid (blk_n1 hb)
    have hB1 := bel1 (Below.refl _ w) hb
    have zY1 := Y1.out.lt
    clear hb
    go_wp2_with fail
    refine (c_implCurveAt _ _ _ b x _ hm (HB.out.below (by go_grown))).mono ?_
    rintro e w2 ⟨rfl, hb⟩
    have Y2 := Lib.hid (blk_b1 Y1.out hb)
    have D2 := Lib.hid (blk_n1 hb)
    have hB2 := bel1 hB1 hb
    have zY2 := Y2.out.lt
    have zD2 := D2.out.lt
    obtain ⟨cY2, dY2, fY2, hY2⟩ := Y2.out.two
    obtain ⟨cD2, dD2, fD2, hD2⟩ := D2.out.two
    clear hb
    go_wp2_with (
      with_reducible refine bodyPost_ret (v := .tuple #[.agg #[.int .i64 (0), .int .i64 (0)], .bool false]) ?_ ?_ ?_
      · simp [results, Try.results11, go_sem, *]
      · rfl
      · refine fr_of (l_no1 HK.out.1) ?_
        go_grown)
set_option maxHeartbeats 4000000 in
theorem c_implGasDepth (A : Option Addr) (n c : Nat) (a : List (Int × Int)) (B : Option Addr) (m cm : Nat) (b : List (Int × Int)) (x : Int) (w : World) (hn : n ≤ 2000000) (hm : m ≤ 2000000) (h : RdP w A n a) (h' : RdP w B m b) :
    Calls Try.prog 17 #[.slice A n c, .slice B m cm, .int .i64 x] w (FrPost (nP a b x) (dP a b x) (okP a b x) w) := by
  have HA := Lib.hid h
  have HB := Lib.hid h'
  clear h h'
  rcases Bool.eq_false_or_eq_true (vC a) with hv | hv
  all_goals have HV := Lib.hid hv
  · clear hv
    go_enter Try.func17, Try.ntmps17
    go_wp2_with fail
    refine (c_implCurveTurn _ _ _ a _ hn (HA.out.below (by go_grown))).mono ?_
    rintro e w1 ⟨A1, n1, c1, he, hr, hb⟩
    rw [HV.out] at he
    subst he
    obtain ⟨hn1, hr⟩ := hr HV.out
    have HT := Lib.hid hr
    clear hr
    have Y1 := Lib.hid (blk_n1 hb)
    have hB1 := bel1 (Below.refl _ w) hb
    have zY1 := Y1.out.lt
    obtain ⟨cY1, dY1, fY1, hY1⟩ := Y1.out.two
    clear hb
    go_wp2_with fail
    refine (c_implCurveThen _ _ _ b _ _ _ (turn a) x _ hm (by omega) (HB.out.below (by go_grown)) HT.out).mono ?_
    rintro e w2 ⟨rfl, hb⟩
    have Y2 := Lib.hid (blk_b0 Y1.out hb)
    have hB2 := bel0 hB1 hb
    have zY2 := Y2.out.lt
    obtain ⟨cY2, dY2, fY2, hY2⟩ := Y2.out.two
    clear hb
    clear cY1 dY1 fY1 hY1
    go_wp2_with (
      with_reducible refine bodyPost_ret (v := .tuple #[.agg #[.int .i64 (nT b (turn a) x), .int .i64 (dT b (turn a) x)], .bool (okT b (turn a) x)]) ?_ ?_ ?_
      · simp [results, Try.results17, go_sem, *]
      · rfl
      · refine fr_of (p_on HV.out) ?_
        go_grown)
  · clear hv
    go_enter Try.func17, Try.ntmps17
    go_wp2_with fail
    refine (c_implCurveTurn _ _ _ a _ hn (HA.out.below (by go_grown))).mono ?_
    rintro e w1 ⟨A1, n1, c1, he, hr, hb⟩
    rw [HV.out] at he
    subst he
    clear hr
    have Y1 := Lib.hid (blk_n1 hb)
    have hB1 := bel1 (Below.refl _ w) hb
    have zY1 := Y1.out.lt
    obtain ⟨cY1, dY1, fY1, hY1⟩ := Y1.out.two
    clear hb
    go_wp2_with (
      with_reducible refine bodyPost_ret (v := .tuple #[.agg #[.int .i64 (0), .int .i64 (0)], .bool false]) ?_ ?_ ?_
      · simp [results, Try.results17, go_sem, *]
      · rfl
      · refine fr_of (p_no HV.out) ?_
        go_grown)
end Go.Proofs.Ytfngdemjlglliaa
