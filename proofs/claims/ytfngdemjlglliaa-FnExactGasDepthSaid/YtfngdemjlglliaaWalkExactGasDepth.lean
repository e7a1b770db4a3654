/-
  The walk of the law FnExactGasDepth: it returns true and writes nothing that was there.
-/
import Derived.Test.YtfngdemjlglliaaExactFrac
import Derived.Test.YtfngdemjlglliaaLagImpl
import Derived.Test.YtfngdemjlglliaaLagSpec
namespace Go.Proofs.Ytfngdemjlglliaa
open Go.RowKit

set_option maxHeartbeats 4000000 in
theorem walk_FnExactGasDepth (A : Option Addr) (n c : Nat) (a : List (Int × Int)) (B : Option Addr) (m cm : Nat) (b : List (Int × Int)) (x : Int) (w : World) (h : RdP w A n a) (hn : n ≤ maxLen) (h' : RdP w B m b) (hm : m ≤ maxLen) (_hx0 : -9223372036854775808 ≤ x) (_hx1 : x ≤ 9223372036854775807) :
    Calls Try.prog 7 #[.slice A n c, .slice B m cm, .int .i64 x] w fun e w' => e = .returned (.bool true) ∧ Below w.heap.size w w' := by
  unfold maxLen at hn hm
  have HA := Lib.hid h
  have HB := Lib.hid h'
  clear h h'
  by_cases hbig : 1048576 < n
  · go_enter Try.func7, Try.ntmps7
    go_wp2_with fail
    refine (c_szKnotS_no _ _ _ _ hbig (by omega)).mono ?_
    rintro e w' ⟨rfl, rfl⟩
    go_wp2_with fail
    go_ret
    exact ⟨rfl, Below.refl _ _⟩
  · have hd : decide ((1048576 : Int) - ↑n < 0) = false := by simp; omega
    by_cases hbig2 : (1048576 : Int) - n < m
    · go_enter Try.func7, Try.ntmps7
      go_wp2_with fail
      refine (c_szKnotS_yes _ _ _ _ (by omega)).mono ?_
      rintro e w' ⟨rfl, rfl⟩
      go_wp2_with fail
      refine (c_szKnotS_noG _ _ _ _ _ hbig2 (by omega) (by omega)).mono ?_
      rintro e w' ⟨rfl, rfl⟩
      go_wp2_with fail
      go_ret
      exact ⟨rfl, Below.refl _ _⟩
    · have hd2 : decide ((1048576 : Int) - ↑n - ↑m < 0) = false := by simp; omega
      go_enter Try.func7, Try.ntmps7
      go_wp2_with fail
      refine (c_szKnotS_yes _ _ _ _ (by omega)).mono ?_
      rintro e w' ⟨rfl, rfl⟩
      go_wp2_with fail
      refine (c_szKnotS_yesG _ _ _ _ _ (by omega) (by omega)).mono ?_
      rintro e w' ⟨rfl, rfl⟩
      go_wp2_with fail
      refine (c_toKnotS _ _ _ a _ (by omega) (HA.out.below (by first | exact Below.refl _ _ | (have hsz := hB0.size; go_grown)))).mono ?_
      rintro e w1 ⟨gP, rfl, hgP, hr, hb⟩
      clear hgP
      have P1 := Lib.hid hr
      clear hr
      have hB1 := bel0 (Below.refl _ w) hb
      clear hb
      go_wp2_with fail
      refine (c_toKnotS _ _ _ b _ (by omega) (HB.out.below (by first | exact Below.refl _ _ | (have hsz := hB1.size; go_grown)))).mono ?_
      rintro e w2 ⟨gQ, rfl, hgQ, hr, hb⟩
      clear hgQ
      have Q2 := Lib.hid hr
      clear hr
      have P2 := Lib.hid (P1.out.below (bel0 (Below.refl _ w1) hb))
      have hB2 := bel0 hB1 hb
      clear hb
      go_wp2_with fail
      refine (c_specGasDepth _ _ _ a _ _ _ b x _ (by omega) (by omega) P2.out.rd Q2.out.rd).mono ?_
      rintro e w3 ⟨rfl, hb⟩
      have hB3 := bel0 hB2 hb
      clear hb
      go_wp2_with fail
      refine (c_toKnotS _ _ _ a _ (by omega) (HA.out.below (by first | exact Below.refl _ _ | (have hsz := hB3.size; go_grown)))).mono ?_
      rintro e w4 ⟨gX, rfl, hgX, hr, hb⟩
      clear hgX
      have X4 := Lib.hid hr
      clear hr
      have J4 := Lib.hid (blk_n1 hb)
      have hB4 := bel1 hB3 hb
      have zJ4 := J4.out.lt
      clear hb
      go_wp2_with fail
      refine (c_toKnotS _ _ _ b _ (by omega) (HB.out.below (by first | exact Below.refl _ _ | (have hsz := hB4.size; go_grown)))).mono ?_
      rintro e w5 ⟨gY, rfl, hgY, hr, hb⟩
      clear hgY
      have Y5 := Lib.hid hr
      clear hr
      have X5 := Lib.hid (X4.out.below (bel0 (Below.refl _ w4) hb))
      have J5 := Lib.hid (blk_b0 J4.out hb)
      have hB5 := bel0 hB4 hb
      have zJ5 := J5.out.lt
      clear hb
      go_wp2_with fail
      refine (c_implGasDepth _ _ _ a _ _ _ b x _ (by omega) (by omega) X5.out.rd Y5.out.rd).mono ?_
      rintro e w6 ⟨rfl, hb⟩
      have X6 := Lib.hid (X5.out.below (bel0 (Below.refl _ w5) hb))
      have Y6 := Lib.hid (Y5.out.below (bel0 (Below.refl _ w5) hb))
      have J6 := Lib.hid (blk_b0 J5.out hb)
      have hB6 := bel0 hB5 hb
      have zJ6 := J6.out.lt
      obtain ⟨cJ6, dJ6, fJ6, hJ6⟩ := J6.out.two
      clear hb
      have hne : (okP a b x != okP a b x) = false := by simp
      have hcmp := eqP_refl (nP a b x) (dP a b x)
      have hla := eqL_refl a
      have hlb := eqL_refl b
      go_wp2_with fail
      refine (c_eqFrac _ _ _ _ _).mono ?_
      rintro e w7 ⟨he, hb⟩
      rw [hcmp] at he
      subst he
      have X7 := Lib.hid (X6.out.below (bel1 (Below.refl _ w6) hb))
      have Y7 := Lib.hid (Y6.out.below (bel1 (Below.refl _ w6) hb))
      have J7 := Lib.hid (blk_b1 J6.out hb)
      have K7 := Lib.hid (blk_n1 hb)
      have hB7 := bel1 hB6 hb
      have zJ7 := J7.out.lt
      have zK7 := K7.out.lt
      clear hb
      clear cJ6 dJ6 fJ6 hJ6
      go_wp2_with fail
      refine (c_toKnotS _ _ _ a _ (by omega) (HA.out.below (by first | exact Below.refl _ _ | (have hsz := hB7.size; go_grown)))).mono ?_
      rintro e w8 ⟨gU, rfl, hgU, hr, hb⟩
      clear hgU
      have U8 := Lib.hid hr
      clear hr
      have X8 := Lib.hid (X7.out.below (bel0 (Below.refl _ w7) hb))
      have Y8 := Lib.hid (Y7.out.below (bel0 (Below.refl _ w7) hb))
      have J8 := Lib.hid (blk_b0 J7.out hb)
      have K8 := Lib.hid (blk_b0 K7.out hb)
      have hB8 := bel0 hB7 hb
      have zJ8 := J8.out.lt
      have zK8 := K8.out.lt
      clear hb
      go_wp2_with fail
      refine (c_eqKnotS _ _ _ _ _ _ a a _ (by omega) (by omega) X8.out.rd U8.out.rd).mono ?_
      rintro e w9 ⟨he, hb⟩
      rw [hla] at he
      subst he
      have Y9 := Lib.hid (Y8.out.below (bel0 (Below.refl _ w8) hb))
      have J9 := Lib.hid (blk_b0 J8.out hb)
      have K9 := Lib.hid (blk_b0 K8.out hb)
      have hB9 := bel0 hB8 hb
      have zJ9 := J9.out.lt
      have zK9 := K9.out.lt
      clear hb
      go_wp2_with fail
      refine (c_toKnotS _ _ _ b _ (by omega) (HB.out.below (by first | exact Below.refl _ _ | (have hsz := hB9.size; go_grown)))).mono ?_
      rintro e w10 ⟨gV, rfl, hgV, hr, hb⟩
      clear hgV
      have V10 := Lib.hid hr
      clear hr
      have Y10 := Lib.hid (Y9.out.below (bel0 (Below.refl _ w9) hb))
      have J10 := Lib.hid (blk_b0 J9.out hb)
      have K10 := Lib.hid (blk_b0 K9.out hb)
      have hB10 := bel0 hB9 hb
      have zJ10 := J10.out.lt
      have zK10 := K10.out.lt
      clear hb
      go_wp2_with fail
      refine (c_eqKnotS _ _ _ _ _ _ b b _ (by omega) (by omega) Y10.out.rd V10.out.rd).mono ?_
      rintro e w11 ⟨he, hb⟩
      rw [hlb] at he
      subst he
      have J11 := Lib.hid (blk_b0 J10.out hb)
      have K11 := Lib.hid (blk_b0 K10.out hb)
      have hB11 := bel0 hB10 hb
      have zJ11 := J11.out.lt
      have zK11 := K11.out.lt
      clear hb
      go_wp2
      go_ret
      exact ⟨rfl, hB11⟩
end Go.Proofs.Ytfngdemjlglliaa
