/-
  The walk of the law FnShareMix: it returns true and writes nothing that was there.
-/
import Derived.Test.YtbbipieadjggkaaShareImpl
import Derived.Test.YtbbipieadjggkaaShareSpec
import Derived.Test.YtbbipieadjggkaaDrawShare
import Derived.Test.YtbbipieadjggkaaFracAddImpl
import Derived.Test.YtbbipieadjggkaaLawWords
import Derived.Deep.RegionHeld3
namespace Go.Proofs.Ytbbipieadjggkaa
open Go.RowKit

theorem mix_ok {a h : Int} (hm : vW a h = true) {e : Ending} {w w' : World} (hp : MixPost a h w e w') : e = .returned (.tuple #[.agg #[.int .i64 a, .int .i64 h], .bool true]) ∧ Below w.heap.size w w' := by
  obtain ⟨he, hb⟩ := hp
  exact ⟨by simpa [hm] using he, hb⟩
theorem mix_bad {a h : Int} (hm : vW a h = false) {e : Ending} {w w' : World} (hp : MixPost a h w e w') : e = .returned (.tuple #[.agg #[.int .i64 0, .int .i64 0], .bool false]) ∧ Below w.heap.size w w' := by
  obtain ⟨he, hb⟩ := hp
  exact ⟨by simpa [hm] using he, hb⟩

set_option maxHeartbeats 8000000 in
theorem walk_FnShareMix (A : Option Addr) (n c : Nat) (w : World) (h : RdB w A n) (hn : n ≤ maxLen) (hc : n ≤ c) :
    Calls Try.prog 14 #[.slice A n c] w fun e w' => e = .returned (.bool true) ∧ Below w.heap.size w w' := by
  unfold maxLen at hn
  have HB := Lib.hid h
  clear h
  by_cases hbig : 1048576 < n
  · go_enter Try.func14, Try.ntmps14
    go_wp2
    go_ret
    exact ⟨rfl, Below.refl _ _⟩
  · have hd1 : decide ((1048576 : Int) < (n : Int)) = false := by simp; omega
    go_enter Try.func14, Try.ntmps14
    go_wp2_with fail
    refine (c_DrawWaterShare _ _ _ _ HB.out (by omega) hc).mono ?_
    rintro e w1 ⟨aA, aH, bA, bH, rn, rd, rfl, hB1⟩
    rcases Bool.eq_false_or_eq_true (vS aA aH bA bH rn rd) with hok | hok
    · obtain ⟨N, D, hN, hD, hvf, h0, h1, he, hne⟩ := vS_val hok
      have HV := Lib.hid hok
      have H3 := Lib.hid (vS_yes hok).1
      have HN := Lib.hid hN
      have HD := Lib.hid hD
      have HVF := Lib.hid hvf
      have HE := Lib.hid he
      have HNE := Lib.hid hne
      obtain ⟨n1, n2, n3, n4, _⟩ := vF_yes hvf
      obtain ⟨ha, hb0, hr⟩ := wv3_yes H3.out
      obtain ⟨a1, a2, a3, a4⟩ := vW_yes ha
      obtain ⟨b1, b2, b3, b4⟩ := vW_yes hb0
      have HA := Lib.hid ha
      have HBB := Lib.hid hb0
      clear hok hN hD hvf he hne ha hb0 hr
      go_wp2_with fail
      refine (c_implWaterShare _ _ _ _ _ _ _).mono ?_
      intro e w2 hp
      obtain ⟨rfl, hb⟩ := sh_ok HV.out HN.out HD.out hp
      clear hp
      have J2 := Lib.hid (blk_n3_1 hb)
      have K2 := Lib.hid (blk_n3_2 hb)
      have P2 := Lib.hid (blk_n3_3 hb)
      have hB2 := bel3 hB1 hb
      have zJ2 := J2.out.lt
      have zK2 := K2.out.lt
      have zP2 := P2.out.lt
      obtain ⟨cJ2, dJ2, fJ2, hJ2⟩ := J2.out.two
      obtain ⟨cK2, dK2, fK2, hK2⟩ := K2.out.two
      obtain ⟨cP2, dP2, fP2, hP2⟩ := P2.out.two
      clear hb
      go_wp2_with fail
      refine (c_specWaterShare _ _ _ _ _ _ _).mono ?_
      intro e w3 hp
      obtain ⟨rfl, hb⟩ := sh_ok HV.out HN.out HD.out hp
      clear hp
      have J3 := Lib.hid (blk_b1 J2.out hb)
      have K3 := Lib.hid (blk_b1 K2.out hb)
      have P3 := Lib.hid (blk_b1 P2.out hb)
      have O3 := Lib.hid (blk_n1 hb)
      have hB3 := bel1 hB2 hb
      have zJ3 := J3.out.lt
      have zK3 := K3.out.lt
      have zP3 := P3.out.lt
      have zO3 := O3.out.lt
      obtain ⟨cJ3, dJ3, fJ3, hJ3⟩ := J3.out.two
      obtain ⟨cK3, dK3, fK3, hK3⟩ := K3.out.two
      obtain ⟨cP3, dP3, fP3, hP3⟩ := P3.out.two
      obtain ⟨cO3, dO3, fO3, hO3⟩ := O3.out.two
      clear hb
      clear cJ2 dJ2 fJ2 hJ2 cK2 dK2 fK2 hK2 cP2 dP2 fP2 hP2
      have hgt : decide (0 < D) = true := by simp; omega
      rcases Bool.eq_false_or_eq_true (vW (aA + bA) (aH + bH)) with hm | hm
      · obtain ⟨t1, t2, t3, t4⟩ := share_mix H3.out HNE.out hm
        have HM := Lib.hid hm
        obtain ⟨rn', hrn⟩ : ∃ x, nF (aH + bH) (aA + bA) = x := ⟨_, rfl⟩
        obtain ⟨rd', hrd⟩ : ∃ x, dF (aH + bH) (aA + bA) = x := ⟨_, rfl⟩
        obtain ⟨yn, hyn⟩ : ∃ x, nF aA (aA + bA) = x := ⟨_, rfl⟩
        obtain ⟨yd, hyd⟩ : ∃ x, dF aA (aA + bA) = x := ⟨_, rfl⟩
        rw [hrn, hrd] at t2 t3 t4
        rw [hyn] at t3
        rw [hyd] at t4
        have HRN := Lib.hid hrn
        have HRD := Lib.hid hrd
        have HRO := Lib.hid (ratio_ok hm)
        have HYN := Lib.hid hyn
        have HYD := Lib.hid hyd
        have HYO := Lib.hid t1
        have HX1 := Lib.hid t2
        have HX2 := Lib.hid t3
        have HX3 := Lib.hid t4
        clear hm t1 t2 t3 t4 hrn hrd hyn hyd
        go_wp2_with fail
        refine (c_implWaterMix _ _ [(aA, aH), (bA, bH)] _ (by first | exact rd_lit1 _ _ _ _ | exact rd_lit _ _ _ _) (show vW aA aH = true from HA.out) (show vW bA bH = true from HBB.out)).mono ?_
        intro e w4 hp
        obtain ⟨rfl, hb⟩ := mix_ok HM.out (show MixPost (aA + bA) (aH + bH) _ _ _ from hp)
        clear hp
        have J4 := Lib.hid (blk_b2 J3.out hb)
        have K4 := Lib.hid (blk_b2 K3.out hb)
        have O4 := Lib.hid (blk_b2 O3.out hb)
        have hB4 := bel2 hB3 hb
        have zJ4 := J4.out.lt
        have zK4 := K4.out.lt
        have zO4 := O4.out.lt
        obtain ⟨cJ4, dJ4, fJ4, hJ4⟩ := J4.out.two
        obtain ⟨cK4, dK4, fK4, hK4⟩ := K4.out.two
        obtain ⟨cO4, dO4, fO4, hO4⟩ := O4.out.two
        clear hb
        clear cJ3 dJ3 fJ3 hJ3 cK3 dK3 fK3 hK3 cP3 dP3 fP3 hP3 cO3 dO3 fO3 hO3
        go_wp2_with fail
        refine (c_implWaterRatio _ _ _).mono ?_
        intro e w5 hp
        obtain ⟨rfl, hb⟩ := op_at HM.out HRN.out HRD.out HRO.out hp
        clear hp
        have J5 := Lib.hid (blk_b1 J4.out hb)
        have K5 := Lib.hid (blk_b1 K4.out hb)
        have hB5 := bel1 hB4 hb
        have zJ5 := J5.out.lt
        have zK5 := K5.out.lt
        obtain ⟨cJ5, dJ5, fJ5, hJ5⟩ := J5.out.two
        obtain ⟨cK5, dK5, fK5, hK5⟩ := K5.out.two
        clear hb
        clear cJ4 dJ4 fJ4 hJ4 cK4 dK4 fK4 hK4 cO4 dO4 fO4 hO4
        go_wp2_with fail
        refine (c_implWaterShare _ _ _ _ _ _ _).mono ?_
        intro e w6 hp
        obtain ⟨rfl, hb⟩ := sh_ok HX1.out HX2.out HX3.out hp
        clear hp
        have J6 := Lib.hid (blk_b1 J5.out hb)
        have K6 := Lib.hid (blk_b1 K5.out hb)
        have hB6 := bel1 hB5 hb
        have zJ6 := J6.out.lt
        have zK6 := K6.out.lt
        obtain ⟨cJ6, dJ6, fJ6, hJ6⟩ := J6.out.two
        obtain ⟨cK6, dK6, fK6, hK6⟩ := K6.out.two
        clear hb
        clear cJ5 dJ5 fJ5 hJ5 cK5 dK5 fK5 hK5
        go_wp2_with fail
        refine (c_implFracOf _ _ _).mono ?_
        rintro e w7 ⟨he, hb⟩
        rw [HYN.out, HYD.out, HYO.out] at he
        subst he
        have S7 := Lib.hid (blk_n1 hb)
        have hB7 := bel1 hB6 hb
        have zS7 := S7.out.lt
        obtain ⟨cS7, dS7, fS7, hS7⟩ := S7.out.two
        clear hb
        clear cJ6 dJ6 fJ6 hJ6 cK6 dK6 fK6 hK6
        go_wp2
        go_ret
        exact ⟨rfl, hB7.alloc hB7.size _⟩
      · have HM := Lib.hid hm
        clear hm
        go_wp2_with fail
        refine (c_implWaterMix _ _ [(aA, aH), (bA, bH)] _ (by first | exact rd_lit1 _ _ _ _ | exact rd_lit _ _ _ _) (show vW aA aH = true from HA.out) (show vW bA bH = true from HBB.out)).mono ?_
        intro e w4 hp
        obtain ⟨rfl, hb⟩ := mix_bad HM.out (show MixPost (aA + bA) (aH + bH) _ _ _ from hp)
        clear hp
        have J4 := Lib.hid (blk_b2 J3.out hb)
        have K4 := Lib.hid (blk_b2 K3.out hb)
        have O4 := Lib.hid (blk_b2 O3.out hb)
        have hB4 := bel2 hB3 hb
        have zJ4 := J4.out.lt
        have zK4 := K4.out.lt
        have zO4 := O4.out.lt
        obtain ⟨cJ4, dJ4, fJ4, hJ4⟩ := J4.out.two
        obtain ⟨cK4, dK4, fK4, hK4⟩ := K4.out.two
        obtain ⟨cO4, dO4, fO4, hO4⟩ := O4.out.two
        clear hb
        clear cJ3 dJ3 fJ3 hJ3 cK3 dK3 fK3 hK3 cP3 dP3 fP3 hP3 cO3 dO3 fO3 hO3
        go_wp2
        go_ret
        exact ⟨rfl, hB4.alloc hB4.size _⟩
    · have HO := Lib.hid hok
      clear hok
      go_wp2_with fail
      refine (c_implWaterShare _ _ _ _ _ _ _).mono ?_
      intro e w2 hp
      obtain ⟨rfl, hb⟩ := sh_bad HO.out hp
      clear hp
      have J2 := Lib.hid (blk_n3_1 hb)
      have K2 := Lib.hid (blk_n3_2 hb)
      have P2 := Lib.hid (blk_n3_3 hb)
      have hB2 := bel3 hB1 hb
      have zJ2 := J2.out.lt
      have zK2 := K2.out.lt
      have zP2 := P2.out.lt
      obtain ⟨cJ2, dJ2, fJ2, hJ2⟩ := J2.out.two
      obtain ⟨cK2, dK2, fK2, hK2⟩ := K2.out.two
      obtain ⟨cP2, dP2, fP2, hP2⟩ := P2.out.two
      clear hb
      go_wp2_with fail
      refine (c_specWaterShare _ _ _ _ _ _ _).mono ?_
      intro e w3 hp
      obtain ⟨rfl, hb⟩ := sh_bad HO.out hp
      clear hp
      have J3 := Lib.hid (blk_b1 J2.out hb)
      have K3 := Lib.hid (blk_b1 K2.out hb)
      have P3 := Lib.hid (blk_b1 P2.out hb)
      have O3 := Lib.hid (blk_n1 hb)
      have hB3 := bel1 hB2 hb
      have zJ3 := J3.out.lt
      have zK3 := K3.out.lt
      have zP3 := P3.out.lt
      have zO3 := O3.out.lt
      obtain ⟨cO3, dO3, fO3, hO3⟩ := O3.out.two
      clear hb
      clear cJ2 dJ2 fJ2 hJ2 cK2 dK2 fK2 hK2 cP2 dP2 fP2 hP2
      go_wp2
      go_ret
      exact ⟨rfl, hB3.alloc hB3.size _⟩
end Go.Proofs.Ytbbipieadjggkaa
