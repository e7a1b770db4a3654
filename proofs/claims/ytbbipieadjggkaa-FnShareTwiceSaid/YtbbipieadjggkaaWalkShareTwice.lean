/-
  The walk of the law FnShareTwice: it returns true and writes nothing that was there.
-/
import Derived.Test.YtbbipieadjggkaaShareImpl
import Derived.Test.YtbbipieadjggkaaShareSpec
import Derived.Test.YtbbipieadjggkaaDrawShare
import Derived.Test.YtbbipieadjggkaaFracAddImpl
import Derived.Test.YtbbipieadjggkaaLawWords
import Derived.Deep.RegionHeld3
namespace Go.Proofs.Ytbbipieadjggkaa
open Go.RowKit

set_option maxHeartbeats 8000000 in
theorem walk_FnShareTwice (A : Option Addr) (n c : Nat) (w : World) (h : RdB w A n) (hn : n ≤ maxLen) (hc : n ≤ c) :
    Calls Try.prog 11 #[.slice A n c] w fun e w' => e = .returned (.bool true) ∧ Below w.heap.size w w' := by
  unfold maxLen at hn
  have HB := Lib.hid h
  clear h
  by_cases hbig : 1048576 < n
  · go_enter Try.func11, Try.ntmps11
    go_wp2
    go_ret
    exact ⟨rfl, Below.refl _ _⟩
  · have hd1 : decide ((1048576 : Int) < (n : Int)) = false := by simp; omega
    go_enter Try.func11, Try.ntmps11
    go_wp2_with fail
    refine (c_DrawWaterShare _ _ _ _ HB.out (by omega) hc).mono ?_
    rintro e w1 ⟨aA, aH, bA, bH, rn, rd, rfl, hB1⟩
    rcases Bool.eq_false_or_eq_true (vS aA aH bA bH rn rd) with hok | hok
    · obtain ⟨N, D, hN, hD, hvf, h0, h1, he, hne⟩ := vS_val hok
      have HV := Lib.hid hok
      have H3 := Lib.hid (vS_yes hok).1
      have HN := Lib.hid hN
      have HD := Lib.hid hD
      have HVF := Lib.hid hvf
      have HE := Lib.hid he
      have HNE := Lib.hid hne
      obtain ⟨n1, n2, n3, n4, _⟩ := vF_yes hvf
      obtain ⟨ha, hb0, hr⟩ := wv3_yes H3.out
      obtain ⟨a1, a2, a3, a4⟩ := vW_yes ha
      obtain ⟨b1, b2, b3, b4⟩ := vW_yes hb0
      have HA := Lib.hid ha
      have HBB := Lib.hid hb0
      clear hok hN hD hvf he hne ha hb0 hr
      go_wp2_with fail
      refine (c_implWaterShare _ _ _ _ _ _ _).mono ?_
      intro e w2 hp
      obtain ⟨rfl, hb⟩ := sh_ok HV.out HN.out HD.out hp
      clear hp
      have J2 := Lib.hid (blk_n3_1 hb)
      have K2 := Lib.hid (blk_n3_2 hb)
      have P2 := Lib.hid (blk_n3_3 hb)
      have hB2 := bel3 hB1 hb
      have zJ2 := J2.out.lt
      have zK2 := K2.out.lt
      have zP2 := P2.out.lt
      obtain ⟨cJ2, dJ2, fJ2, hJ2⟩ := J2.out.two
      obtain ⟨cK2, dK2, fK2, hK2⟩ := K2.out.two
      obtain ⟨cP2, dP2, fP2, hP2⟩ := P2.out.two
      clear hb
      go_wp2_with fail
      refine (c_specWaterShare _ _ _ _ _ _ _).mono ?_
      intro e w3 hp
      obtain ⟨rfl, hb⟩ := sh_ok HV.out HN.out HD.out hp
      clear hp
      have J3 := Lib.hid (blk_b1 J2.out hb)
      have K3 := Lib.hid (blk_b1 K2.out hb)
      have P3 := Lib.hid (blk_b1 P2.out hb)
      have O3 := Lib.hid (blk_n1 hb)
      have hB3 := bel1 hB2 hb
      have zJ3 := J3.out.lt
      have zK3 := K3.out.lt
      have zP3 := P3.out.lt
      have zO3 := O3.out.lt
      obtain ⟨cJ3, dJ3, fJ3, hJ3⟩ := J3.out.two
      obtain ⟨cK3, dK3, fK3, hK3⟩ := K3.out.two
      obtain ⟨cP3, dP3, fP3, hP3⟩ := P3.out.two
      obtain ⟨cO3, dO3, fO3, hO3⟩ := O3.out.two
      clear hb
      clear cJ2 dJ2 fJ2 hJ2 cK2 dK2 fK2 hK2 cP2 dP2 fP2 hP2
      by_cases hbig2 : 1000 < 2 * aA
      · have HX := Lib.hid (show vS (2 * aA) (2 * aH) bA bH rn rd = false by
          have : vW (2 * aA) (2 * aH) = false := by simp [vW, inB_not (show 2 * aA < 1 ∨ 1000 < 2 * aA by omega)]
          simp [vS, wv3, this])
        go_wp2_with fail
        refine (c_implWaterShare _ _ _ _ _ _ _).mono ?_
        intro e w4 hp
        obtain ⟨rfl, hb⟩ := sh_bad HX.out hp
        clear hp
        have J4 := Lib.hid (blk_b1 J3.out hb)
        have O4 := Lib.hid (blk_b1 O3.out hb)
        have hB4 := bel1 hB3 hb
        have zJ4 := J4.out.lt
        have zO4 := O4.out.lt
        obtain ⟨cJ4, dJ4, fJ4, hJ4⟩ := J4.out.two
        obtain ⟨cO4, dO4, fO4, hO4⟩ := O4.out.two
        clear hb
        clear cJ3 dJ3 fJ3 hJ3 cK3 dK3 fK3 hK3 cP3 dP3 fP3 hP3 cO3 dO3 fO3 hO3
        go_wp2
        go_ret
        exact ⟨rfl, hB4.alloc hB4.size _⟩
      · have hsm : decide (1000 < 2 * aA) = false := by simp; omega
        obtain ⟨t1, t2, t3⟩ := share_twice H3.out (show 2 * aA ≤ 1000 by omega) HNE.out HVF.out h0 h1 HE.out
        have HX1 := Lib.hid t1
        have HX2 := Lib.hid t2
        have HX3 := Lib.hid t3
        clear t1 t2 t3
        go_wp2_with fail
        refine (c_implWaterShare _ _ _ _ _ _ _).mono ?_
        intro e w4 hp
        obtain ⟨rfl, hb⟩ := sh_ok HX1.out HX2.out HX3.out hp
        clear hp
        have J4 := Lib.hid (blk_b1 J3.out hb)
        have O4 := Lib.hid (blk_b1 O3.out hb)
        have hB4 := bel1 hB3 hb
        have zJ4 := J4.out.lt
        have zO4 := O4.out.lt
        obtain ⟨cJ4, dJ4, fJ4, hJ4⟩ := J4.out.two
        obtain ⟨cO4, dO4, fO4, hO4⟩ := O4.out.two
        clear hb
        clear cJ3 dJ3 fJ3 hJ3 cK3 dK3 fK3 hK3 cP3 dP3 fP3 hP3 cO3 dO3 fO3 hO3
        go_wp2
        go_ret
        exact ⟨rfl, hB4.alloc hB4.size _⟩
    · have HO := Lib.hid hok
      clear hok
      go_wp2_with fail
      refine (c_implWaterShare _ _ _ _ _ _ _).mono ?_
      intro e w2 hp
      obtain ⟨rfl, hb⟩ := sh_bad HO.out hp
      clear hp
      have J2 := Lib.hid (blk_n3_1 hb)
      have K2 := Lib.hid (blk_n3_2 hb)
      have P2 := Lib.hid (blk_n3_3 hb)
      have hB2 := bel3 hB1 hb
      have zJ2 := J2.out.lt
      have zK2 := K2.out.lt
      have zP2 := P2.out.lt
      obtain ⟨cJ2, dJ2, fJ2, hJ2⟩ := J2.out.two
      obtain ⟨cK2, dK2, fK2, hK2⟩ := K2.out.two
      obtain ⟨cP2, dP2, fP2, hP2⟩ := P2.out.two
      clear hb
      go_wp2_with fail
      refine (c_specWaterShare _ _ _ _ _ _ _).mono ?_
      intro e w3 hp
      obtain ⟨rfl, hb⟩ := sh_bad HO.out hp
      clear hp
      have J3 := Lib.hid (blk_b1 J2.out hb)
      have K3 := Lib.hid (blk_b1 K2.out hb)
      have P3 := Lib.hid (blk_b1 P2.out hb)
      have O3 := Lib.hid (blk_n1 hb)
      have hB3 := bel1 hB2 hb
      have zJ3 := J3.out.lt
      have zK3 := K3.out.lt
      have zP3 := P3.out.lt
      have zO3 := O3.out.lt
      obtain ⟨cO3, dO3, fO3, hO3⟩ := O3.out.two
      clear hb
      clear cJ2 dJ2 fJ2 hJ2 cK2 dK2 fK2 hK2 cP2 dP2 fP2 hP2
      go_wp2
      go_ret
      exact ⟨rfl, hB3.alloc hB3.size _⟩
end Go.Proofs.Ytbbipieadjggkaa
