/-
  The walk of the law FnGasDepth: it returns true and writes nothing that was there.
-/
import Derived.Test.YtfngdemjlglliaaLagLawW
import Derived.Test.YtfngdemjlglliaaLagDraw
import Derived.Test.YtfngdemjlglliaaLagImpl
import Derived.Test.YtfngdemjlglliaaLagSpec
import Derived.Test.YtfngdemjlglliaaFracAddImpl
namespace Go.Proofs.Ytfngdemjlglliaa
open Go.RowKit

set_option maxHeartbeats 8000000 in
set_option maxRecDepth 4000 in
theorem walk_FnGasDepth (A : Option Addr) (n c : Nat) (w : World) (h : RdB w A n) (hn : n ≤ maxLen) (hc : n ≤ c) :
    Calls Try.prog 5 #[.slice A n c] w fun e w' => e = .returned (.bool true) ∧ Below w.heap.size w w' := by
  unfold maxLen at hn
  have HB := Lib.hid h
  clear h
  by_cases hbig : 1048576 < n
  · go_enter Try.func5, Try.ntmps5
    go_wp2
    go_ret
    exact ⟨rfl, Below.refl _ _⟩
  · have hd1 : decide ((1048576 : Int) < (n : Int)) = false := by simp; omega
    go_enter Try.func5, Try.ntmps5
    go_wp2_with fail
    refine (c_DrawGasDepth _ _ _ _ HB.out (by omega) hc).mono ?_
    rintro e w1 ⟨A1, n1, c1, a, B1, m1, cm1, b, x, rfl, hn1, hm1, hA, hB, hB1⟩
    have HA := Lib.hid hA
    have HBB := Lib.hid hB
    have hC1 : Below w1.heap.size w1 w1 := Below.refl _ _
    clear hA hB HB
    rcases Bool.eq_false_or_eq_true (okP a b x) with hok | hok
    · obtain ⟨N, hN⟩ : ∃ y, nP a b x = y := ⟨_, rfl⟩
      obtain ⟨D, hD⟩ : ∃ y, dP a b x = y := ⟨_, rfl⟩
      have HK := Lib.hid hok
      have HN := Lib.hid hN
      have HD := Lib.hid hD
      have hNN : (N != N) = false := by simp
      have hDD : (D != D) = false := by simp
      clear hok hN hD
      go_wp2_with fail
      refine (c_implGasDepth _ _ _ a _ _ _ b x _ (by omega) (by omega) (HA.out.below (by have hsz := hC1.size; first | exact hC1 | go_grown)) (HBB.out.below (by have hsz := hC1.size; first | exact hC1 | go_grown))).mono ?_
      intro e w2 hp
      obtain ⟨rfl, hb⟩ := hp.val ⟨HK.out, HN.out, HD.out⟩
      clear hp
      have hC2 := bel0 hC1 hb
      have hB2 := bel0 hB1 hb
      clear hb
      go_wp2_with fail
      refine (c_specGasDepth _ _ _ a _ _ _ b x _ (by omega) (by omega) (HA.out.below (by have hsz := hC2.size; first | exact hC2 | go_grown)) (HBB.out.below (by have hsz := hC2.size; first | exact hC2 | go_grown))).mono ?_
      intro e w3 hp
      obtain ⟨rfl, hb⟩ := hp.val ⟨HK.out, HN.out, HD.out⟩
      clear hp
      have hC3 := bel1 hC2 hb
      have O3 := Lib.hid (blk_n1 hb)
      have hB3 := bel1 hB2 hb
      have zO3 := O3.out.lt
      obtain ⟨cO3, dO3, fO3, hO3⟩ := O3.out.two
      clear hb
      obtain ⟨_, hb0, _, _⟩ := p_yes HK.out
      obtain ⟨n2, d2, hn2, hd2, _, _, _, _, _⟩ := c_nam hb0
      have KB := Lib.hid hb0
      have N2 := Lib.hid hn2
      have D2 := Lib.hid hd2
      have HBK := Lib.hid (fun h => depth_back HK.out h)
      clear hb0 hn2 hd2
      go_wp2_with fail
      refine (c_implCurveAt _ _ _ b x _ (by omega) (HBB.out.below (by have hsz := hC3.size; first | exact hC3 | go_grown))).mono ?_
      intro e w4 hp
      obtain ⟨rfl, hb⟩ := hp.val ⟨KB.out, N2.out, D2.out⟩
      clear hp
      have hC4 := bel1 hC3 hb
      have O4 := Lib.hid (blk_b1 O3.out hb)
      have V4 := Lib.hid (blk_n1 hb)
      have hB4 := bel1 hB3 hb
      have zO4 := O4.out.lt
      have zV4 := V4.out.lt
      obtain ⟨cO4, dO4, fO4, hO4⟩ := O4.out.two
      clear hb
      clear cO3 dO3 fO3 hO3
      by_cases hd : D = 1
      · obtain ⟨_, k1, k2, k3⟩ := HBK.out (HD.out.trans hd)
        rw [HN.out] at k1 k2 k3
        rw [N2.out] at k2
        rw [D2.out] at k3
        have K1 := Lib.hid k1
        have K2 := Lib.hid k2
        have K3 := Lib.hid k3
        have hd' : (D != 1) = false := by simpa using hd
        clear hd k1 k2 k3 HBK
        go_wp2_with fail
        refine (c_implCurveAt _ _ _ a N _ (by omega) (HA.out.below (by have hsz := hC4.size; first | exact hC4 | go_grown))).mono ?_
        intro e w5 hp
        obtain ⟨rfl, hb⟩ := hp.val ⟨K1.out, K2.out, K3.out⟩
        clear hp
        have hC5 := bel1 hC4 hb
        have O5 := Lib.hid (blk_b1 O4.out hb)
        have V5 := Lib.hid (blk_b1 V4.out hb)
        have P5 := Lib.hid (blk_n1 hb)
        have hB5 := bel1 hB4 hb
        have zO5 := O5.out.lt
        have zV5 := V5.out.lt
        have zP5 := P5.out.lt
        obtain ⟨cP5, dP5, fP5, hP5⟩ := P5.out.two
        clear hb
        clear cO4 dO4 fO4 hO4
        go_wp2
        go_ret
        exact ⟨rfl, hB5.alloc hB5.size _⟩
      · have hd' : (D != 1) = true := by simpa using hd
        go_wp2
        go_ret
        exact ⟨rfl, hB4.alloc hB4.size _⟩
    · have HK := Lib.hid (p_none hok)
      clear hok
      go_wp2_with fail
      refine (c_implGasDepth _ _ _ a _ _ _ b x _ (by omega) (by omega) (HA.out.below (by have hsz := hC1.size; first | exact hC1 | go_grown)) (HBB.out.below (by have hsz := hC1.size; first | exact hC1 | go_grown))).mono ?_
      intro e w2 hp
      obtain ⟨rfl, hb⟩ := hp.val ⟨HK.out.1, HK.out.2.1, HK.out.2.2⟩
      clear hp
      have hC2 := bel0 hC1 hb
      have hB2 := bel0 hB1 hb
      clear hb
      go_wp2_with fail
      refine (c_specGasDepth _ _ _ a _ _ _ b x _ (by omega) (by omega) (HA.out.below (by have hsz := hC2.size; first | exact hC2 | go_grown)) (HBB.out.below (by have hsz := hC2.size; first | exact hC2 | go_grown))).mono ?_
      intro e w3 hp
      obtain ⟨rfl, hb⟩ := hp.val ⟨HK.out.1, HK.out.2.1, HK.out.2.2⟩
      clear hp
      have hC3 := bel1 hC2 hb
      have O3 := Lib.hid (blk_n1 hb)
      have hB3 := bel1 hB2 hb
      have zO3 := O3.out.lt
      obtain ⟨cO3, dO3, fO3, hO3⟩ := O3.out.two
      clear hb
      go_wp2
      go_ret
      exact ⟨rfl, hB3.alloc hB3.size _⟩
end Go.Proofs.Ytfngdemjlglliaa
