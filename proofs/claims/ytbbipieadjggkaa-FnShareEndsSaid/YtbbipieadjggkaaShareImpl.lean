/-
  Contract of WaterShare of the program.
-/
import Derived.Test.YtbbipieadjggkaaShareWords
import Derived.Test.YtbbipieadjggkaaWaterA
namespace Go.Proofs.Ytbbipieadjggkaa
open Go.RowKit

set_option maxHeartbeats 8000000 in
theorem c_implWaterShare (aA aH bA bH rn rd : Int) (w : World) :
    Calls Try.prog 28 #[.agg #[.int .i64 aA, .int .i64 aH], .agg #[.int .i64 bA, .int .i64 bH], .agg #[.int .i64 rn, .int .i64 rd]] w (ShPost aA aH bA bH rn rd w) := by
  rcases Bool.eq_false_or_eq_true (vW aA aH) with ha | ha
  · rcases Bool.eq_false_or_eq_true (vW bA bH) with hb0 | hb0
    · rcases Bool.eq_false_or_eq_true (vF rn rd) with hr | hr
      · have h3 : wv3 aA aH bA bH rn rd = true := by simp [wv3, ha, hb0, hr]
        obtain ⟨⟨m1, m2⟩, ⟨m3, m4⟩, ⟨m5, m6⟩, ⟨m7, m8⟩, ⟨m9, m10⟩, ⟨m11, m12⟩⟩ := sh_bd h3
        have H3 := Lib.hid h3
        rcases Bool.eq_false_or_eq_true (okF (shX aA bA bH rn rd) (shY aA aH bA bH rd)) with hok | hok
        · obtain ⟨N, hN⟩ : ∃ x, nF (shX aA bA bH rn rd) (shY aA aH bA bH rd) = x := ⟨_, rfl⟩
          obtain ⟨D, hD⟩ : ∃ x, dF (shX aA bA bH rn rd) (shY aA aH bA bH rd) = x := ⟨_, rfl⟩
          have HN := Lib.hid hN
          have HD := Lib.hid hD
          have HO := Lib.hid hok
          have HN' := Lib.hid (show nF ((rn * bA - bH * rd) * aA) (rd * (aH * bA - bH * aA)) = N from hN)
          have HD' := Lib.hid (show dF ((rn * bA - bH * rd) * aA) (rd * (aH * bA - bH * aA)) = D from hD)
          have HO' := Lib.hid (show okF ((rn * bA - bH * rd) * aA) (rd * (aH * bA - bH * aA)) = true from hok)
          clear hN hD hok h3
          by_cases hn0 : N < 0
          · have HK := Lib.hid (show vS aA aH bA bH rn rd = false by simp [vS, inS, HN.out]; omega)
            go_enter Try.func28, Try.ntmps28
            go_wp2_with fail
            refine (c_implWaterValid _ _ _).mono ?_
            rintro e w1 ⟨rfl, hb⟩
            have J1 := Lib.hid (blk_n4_1 hb)
            have K1 := Lib.hid (blk_n4_2 hb)
            have P1 := Lib.hid (blk_n4_3 hb)
            have R1 := Lib.hid (blk_n4_4 hb)
            have hB1 := bel4 (Below.refl _ w) hb
            have zJ1 := J1.out.lt
            have zK1 := K1.out.lt
            have zP1 := P1.out.lt
            have zR1 := R1.out.lt
            obtain ⟨cJ1, dJ1, fJ1, hJ1⟩ := J1.out.two
            obtain ⟨cK1, dK1, fK1, hK1⟩ := K1.out.two
            obtain ⟨cP1, dP1, fP1, hP1⟩ := P1.out.two
            obtain ⟨cR1, dR1, fR1, hR1⟩ := R1.out.two
            clear hb
            go_wp2_with fail
            refine (c_implWaterValid _ _ _).mono ?_
            rintro e w2 ⟨rfl, hb⟩
            have J2 := Lib.hid (blk_b0 J1.out hb)
            have K2 := Lib.hid (blk_b0 K1.out hb)
            have P2 := Lib.hid (blk_b0 P1.out hb)
            have R2 := Lib.hid (blk_b0 R1.out hb)
            have hB2 := bel0 hB1 hb
            have zJ2 := J2.out.lt
            have zK2 := K2.out.lt
            have zP2 := P2.out.lt
            have zR2 := R2.out.lt
            obtain ⟨cJ2, dJ2, fJ2, hJ2⟩ := J2.out.two
            obtain ⟨cK2, dK2, fK2, hK2⟩ := K2.out.two
            obtain ⟨cP2, dP2, fP2, hP2⟩ := P2.out.two
            obtain ⟨cR2, dR2, fR2, hR2⟩ := R2.out.two
            clear hb
            clear cJ1 dJ1 fJ1 hJ1 cK1 dK1 fK1 hK1 cP1 dP1 fP1 hP1 cR1 dR1 fR1 hR1
            go_wp2_with fail
            refine (c_implFracValid _ _ _).mono ?_
            rintro e w3 ⟨rfl, hb⟩
            have J3 := Lib.hid (blk_b0 J2.out hb)
            have K3 := Lib.hid (blk_b0 K2.out hb)
            have P3 := Lib.hid (blk_b0 P2.out hb)
            have R3 := Lib.hid (blk_b0 R2.out hb)
            have hB3 := bel0 hB2 hb
            have zJ3 := J3.out.lt
            have zK3 := K3.out.lt
            have zP3 := P3.out.lt
            have zR3 := R3.out.lt
            obtain ⟨cJ3, dJ3, fJ3, hJ3⟩ := J3.out.two
            obtain ⟨cK3, dK3, fK3, hK3⟩ := K3.out.two
            obtain ⟨cP3, dP3, fP3, hP3⟩ := P3.out.two
            obtain ⟨cR3, dR3, fR3, hR3⟩ := R3.out.two
            clear hb
            clear cJ2 dJ2 fJ2 hJ2 cK2 dK2 fK2 hK2 cP2 dP2 fP2 hP2 cR2 dR2 fR2 hR2
            go_wp2_with fail
            refine (c_implFracOf _ _ _).mono ?_
            rintro e w4 ⟨he, hb⟩
            rw [HN'.out, HD'.out, HO'.out] at he
            subst he
            have R4 := Lib.hid (blk_b0 R3.out hb)
            have hB4 := bel0 hB3 hb
            have zR4 := R4.out.lt
            obtain ⟨cR4, dR4, fR4, hR4⟩ := R4.out.two
            clear hb
            clear cJ3 dJ3 fJ3 hJ3 cK3 dK3 fK3 hK3 cP3 dP3 fP3 hP3 cR3 dR3 fR3 hR3
            go_wp2
            refine bodyPost_ret (v := .tuple #[.agg #[.int .i64 0, .int .i64 0], .bool false]) (by simp [results, Try.results28, go_sem, *]) rfl (sh_no HK.out ?_)
            go_grown
          · have hd0 : decide (N < 0) = false := by simp; omega
            by_cases hn1 : D < N
            · have HK := Lib.hid (show vS aA aH bA bH rn rd = false by simp [vS, inS, HN.out, HD.out]; omega)
              go_enter Try.func28, Try.ntmps28
              go_wp2_with fail
              refine (c_implWaterValid _ _ _).mono ?_
              rintro e w1 ⟨rfl, hb⟩
              have J1 := Lib.hid (blk_n4_1 hb)
              have K1 := Lib.hid (blk_n4_2 hb)
              have P1 := Lib.hid (blk_n4_3 hb)
              have R1 := Lib.hid (blk_n4_4 hb)
              have hB1 := bel4 (Below.refl _ w) hb
              have zJ1 := J1.out.lt
              have zK1 := K1.out.lt
              have zP1 := P1.out.lt
              have zR1 := R1.out.lt
              obtain ⟨cJ1, dJ1, fJ1, hJ1⟩ := J1.out.two
              obtain ⟨cK1, dK1, fK1, hK1⟩ := K1.out.two
              obtain ⟨cP1, dP1, fP1, hP1⟩ := P1.out.two
              obtain ⟨cR1, dR1, fR1, hR1⟩ := R1.out.two
              clear hb
              go_wp2_with fail
              refine (c_implWaterValid _ _ _).mono ?_
              rintro e w2 ⟨rfl, hb⟩
              have J2 := Lib.hid (blk_b0 J1.out hb)
              have K2 := Lib.hid (blk_b0 K1.out hb)
              have P2 := Lib.hid (blk_b0 P1.out hb)
              have R2 := Lib.hid (blk_b0 R1.out hb)
              have hB2 := bel0 hB1 hb
              have zJ2 := J2.out.lt
              have zK2 := K2.out.lt
              have zP2 := P2.out.lt
              have zR2 := R2.out.lt
              obtain ⟨cJ2, dJ2, fJ2, hJ2⟩ := J2.out.two
              obtain ⟨cK2, dK2, fK2, hK2⟩ := K2.out.two
              obtain ⟨cP2, dP2, fP2, hP2⟩ := P2.out.two
              obtain ⟨cR2, dR2, fR2, hR2⟩ := R2.out.two
              clear hb
              clear cJ1 dJ1 fJ1 hJ1 cK1 dK1 fK1 hK1 cP1 dP1 fP1 hP1 cR1 dR1 fR1 hR1
              go_wp2_with fail
              refine (c_implFracValid _ _ _).mono ?_
              rintro e w3 ⟨rfl, hb⟩
              have J3 := Lib.hid (blk_b0 J2.out hb)
              have K3 := Lib.hid (blk_b0 K2.out hb)
              have P3 := Lib.hid (blk_b0 P2.out hb)
              have R3 := Lib.hid (blk_b0 R2.out hb)
              have hB3 := bel0 hB2 hb
              have zJ3 := J3.out.lt
              have zK3 := K3.out.lt
              have zP3 := P3.out.lt
              have zR3 := R3.out.lt
              obtain ⟨cJ3, dJ3, fJ3, hJ3⟩ := J3.out.two
              obtain ⟨cK3, dK3, fK3, hK3⟩ := K3.out.two
              obtain ⟨cP3, dP3, fP3, hP3⟩ := P3.out.two
              obtain ⟨cR3, dR3, fR3, hR3⟩ := R3.out.two
              clear hb
              clear cJ2 dJ2 fJ2 hJ2 cK2 dK2 fK2 hK2 cP2 dP2 fP2 hP2 cR2 dR2 fR2 hR2
              go_wp2_with fail
              refine (c_implFracOf _ _ _).mono ?_
              rintro e w4 ⟨he, hb⟩
              rw [HN'.out, HD'.out, HO'.out] at he
              subst he
              have R4 := Lib.hid (blk_b0 R3.out hb)
              have hB4 := bel0 hB3 hb
              have zR4 := R4.out.lt
              obtain ⟨cR4, dR4, fR4, hR4⟩ := R4.out.two
              clear hb
              clear cJ3 dJ3 fJ3 hJ3 cK3 dK3 fK3 hK3 cP3 dP3 fP3 hP3 cR3 dR3 fR3 hR3
              go_wp2
              refine bodyPost_ret (v := .tuple #[.agg #[.int .i64 0, .int .i64 0], .bool false]) (by simp [results, Try.results28, go_sem, *]) rfl (sh_no HK.out ?_)
              go_grown
            · have hd2 : decide (D < N) = false := by simp; omega
              have HK := Lib.hid (vS_mk H3.out HO.out (by rw [HN.out]; omega) (by rw [HN.out, HD.out]; omega))
              go_enter Try.func28, Try.ntmps28
              go_wp2_with fail
              refine (c_implWaterValid _ _ _).mono ?_
              rintro e w1 ⟨rfl, hb⟩
              have J1 := Lib.hid (blk_n4_1 hb)
              have K1 := Lib.hid (blk_n4_2 hb)
              have P1 := Lib.hid (blk_n4_3 hb)
              have R1 := Lib.hid (blk_n4_4 hb)
              have hB1 := bel4 (Below.refl _ w) hb
              have zJ1 := J1.out.lt
              have zK1 := K1.out.lt
              have zP1 := P1.out.lt
              have zR1 := R1.out.lt
              obtain ⟨cJ1, dJ1, fJ1, hJ1⟩ := J1.out.two
              obtain ⟨cK1, dK1, fK1, hK1⟩ := K1.out.two
              obtain ⟨cP1, dP1, fP1, hP1⟩ := P1.out.two
              obtain ⟨cR1, dR1, fR1, hR1⟩ := R1.out.two
              clear hb
              go_wp2_with fail
              refine (c_implWaterValid _ _ _).mono ?_
              rintro e w2 ⟨rfl, hb⟩
              have J2 := Lib.hid (blk_b0 J1.out hb)
              have K2 := Lib.hid (blk_b0 K1.out hb)
              have P2 := Lib.hid (blk_b0 P1.out hb)
              have R2 := Lib.hid (blk_b0 R1.out hb)
              have hB2 := bel0 hB1 hb
              have zJ2 := J2.out.lt
              have zK2 := K2.out.lt
              have zP2 := P2.out.lt
              have zR2 := R2.out.lt
              obtain ⟨cJ2, dJ2, fJ2, hJ2⟩ := J2.out.two
              obtain ⟨cK2, dK2, fK2, hK2⟩ := K2.out.two
              obtain ⟨cP2, dP2, fP2, hP2⟩ := P2.out.two
              obtain ⟨cR2, dR2, fR2, hR2⟩ := R2.out.two
              clear hb
              clear cJ1 dJ1 fJ1 hJ1 cK1 dK1 fK1 hK1 cP1 dP1 fP1 hP1 cR1 dR1 fR1 hR1
              go_wp2_with fail
              refine (c_implFracValid _ _ _).mono ?_
              rintro e w3 ⟨rfl, hb⟩
              have J3 := Lib.hid (blk_b0 J2.out hb)
              have K3 := Lib.hid (blk_b0 K2.out hb)
              have P3 := Lib.hid (blk_b0 P2.out hb)
              have R3 := Lib.hid (blk_b0 R2.out hb)
              have hB3 := bel0 hB2 hb
              have zJ3 := J3.out.lt
              have zK3 := K3.out.lt
              have zP3 := P3.out.lt
              have zR3 := R3.out.lt
              obtain ⟨cJ3, dJ3, fJ3, hJ3⟩ := J3.out.two
              obtain ⟨cK3, dK3, fK3, hK3⟩ := K3.out.two
              obtain ⟨cP3, dP3, fP3, hP3⟩ := P3.out.two
              obtain ⟨cR3, dR3, fR3, hR3⟩ := R3.out.two
              clear hb
              clear cJ2 dJ2 fJ2 hJ2 cK2 dK2 fK2 hK2 cP2 dP2 fP2 hP2 cR2 dR2 fR2 hR2
              go_wp2_with fail
              refine (c_implFracOf _ _ _).mono ?_
              rintro e w4 ⟨he, hb⟩
              rw [HN'.out, HD'.out, HO'.out] at he
              subst he
              have R4 := Lib.hid (blk_b0 R3.out hb)
              have hB4 := bel0 hB3 hb
              have zR4 := R4.out.lt
              obtain ⟨cR4, dR4, fR4, hR4⟩ := R4.out.two
              clear hb
              clear cJ3 dJ3 fJ3 hJ3 cK3 dK3 fK3 hK3 cP3 dP3 fP3 hP3 cR3 dR3 fR3 hR3
              go_wp2
              refine bodyPost_ret (v := .tuple #[.agg #[.int .i64 N, .int .i64 D], .bool true]) (by simp [results, Try.results28, go_sem, *]) rfl (sh_yes HK.out HN.out HD.out ?_)
              go_grown
        · have HK := Lib.hid (show vS aA aH bA bH rn rd = false by simp [vS, hok])
          have HN' := Lib.hid (show nF ((rn * bA - bH * rd) * aA) (rd * (aH * bA - bH * aA)) = 0 by have : okF ((rn * bA - bH * rd) * aA) (rd * (aH * bA - bH * aA)) = false := hok; simp [nF, this])
          have HD' := Lib.hid (show dF ((rn * bA - bH * rd) * aA) (rd * (aH * bA - bH * aA)) = 0 by have : okF ((rn * bA - bH * rd) * aA) (rd * (aH * bA - bH * aA)) = false := hok; simp [dF, this])
          have HO' := Lib.hid (show okF ((rn * bA - bH * rd) * aA) (rd * (aH * bA - bH * aA)) = false from hok)
          clear hok h3
          go_enter Try.func28, Try.ntmps28
          go_wp2_with fail
          refine (c_implWaterValid _ _ _).mono ?_
          rintro e w1 ⟨rfl, hb⟩
          have J1 := Lib.hid (blk_n4_1 hb)
          have K1 := Lib.hid (blk_n4_2 hb)
          have P1 := Lib.hid (blk_n4_3 hb)
          have R1 := Lib.hid (blk_n4_4 hb)
          have hB1 := bel4 (Below.refl _ w) hb
          have zJ1 := J1.out.lt
          have zK1 := K1.out.lt
          have zP1 := P1.out.lt
          have zR1 := R1.out.lt
          obtain ⟨cJ1, dJ1, fJ1, hJ1⟩ := J1.out.two
          obtain ⟨cK1, dK1, fK1, hK1⟩ := K1.out.two
          obtain ⟨cP1, dP1, fP1, hP1⟩ := P1.out.two
          obtain ⟨cR1, dR1, fR1, hR1⟩ := R1.out.two
          clear hb
          go_wp2_with fail
          refine (c_implWaterValid _ _ _).mono ?_
          rintro e w2 ⟨rfl, hb⟩
          have J2 := Lib.hid (blk_b0 J1.out hb)
          have K2 := Lib.hid (blk_b0 K1.out hb)
          have P2 := Lib.hid (blk_b0 P1.out hb)
          have R2 := Lib.hid (blk_b0 R1.out hb)
          have hB2 := bel0 hB1 hb
          have zJ2 := J2.out.lt
          have zK2 := K2.out.lt
          have zP2 := P2.out.lt
          have zR2 := R2.out.lt
          obtain ⟨cJ2, dJ2, fJ2, hJ2⟩ := J2.out.two
          obtain ⟨cK2, dK2, fK2, hK2⟩ := K2.out.two
          obtain ⟨cP2, dP2, fP2, hP2⟩ := P2.out.two
          obtain ⟨cR2, dR2, fR2, hR2⟩ := R2.out.two
          clear hb
          clear cJ1 dJ1 fJ1 hJ1 cK1 dK1 fK1 hK1 cP1 dP1 fP1 hP1 cR1 dR1 fR1 hR1
          go_wp2_with fail
          refine (c_implFracValid _ _ _).mono ?_
          rintro e w3 ⟨rfl, hb⟩
          have J3 := Lib.hid (blk_b0 J2.out hb)
          have K3 := Lib.hid (blk_b0 K2.out hb)
          have P3 := Lib.hid (blk_b0 P2.out hb)
          have R3 := Lib.hid (blk_b0 R2.out hb)
          have hB3 := bel0 hB2 hb
          have zJ3 := J3.out.lt
          have zK3 := K3.out.lt
          have zP3 := P3.out.lt
          have zR3 := R3.out.lt
          obtain ⟨cJ3, dJ3, fJ3, hJ3⟩ := J3.out.two
          obtain ⟨cK3, dK3, fK3, hK3⟩ := K3.out.two
          obtain ⟨cP3, dP3, fP3, hP3⟩ := P3.out.two
          obtain ⟨cR3, dR3, fR3, hR3⟩ := R3.out.two
          clear hb
          clear cJ2 dJ2 fJ2 hJ2 cK2 dK2 fK2 hK2 cP2 dP2 fP2 hP2 cR2 dR2 fR2 hR2
          go_wp2_with fail
          refine (c_implFracOf _ _ _).mono ?_
          rintro e w4 ⟨he, hb⟩
          rw [HN'.out, HD'.out, HO'.out] at he
          subst he
          have R4 := Lib.hid (blk_b0 R3.out hb)
          have hB4 := bel0 hB3 hb
          have zR4 := R4.out.lt
          obtain ⟨cR4, dR4, fR4, hR4⟩ := R4.out.two
          clear hb
          clear cJ3 dJ3 fJ3 hJ3 cK3 dK3 fK3 hK3 cP3 dP3 fP3 hP3 cR3 dR3 fR3 hR3
          go_wp2
          refine bodyPost_ret (v := .tuple #[.agg #[.int .i64 0, .int .i64 0], .bool false]) (by simp [results, Try.results28, go_sem, *]) rfl (sh_no HK.out ?_)
          go_grown
      · have HK := Lib.hid (show vS aA aH bA bH rn rd = false by simp [vS, wv3, hr])
        go_enter Try.func28, Try.ntmps28
        go_wp2_with fail
        refine (c_implWaterValid _ _ _).mono ?_
        rintro e w1 ⟨rfl, hb⟩
        have J1 := Lib.hid (blk_n4_1 hb)
        have K1 := Lib.hid (blk_n4_2 hb)
        have P1 := Lib.hid (blk_n4_3 hb)
        have R1 := Lib.hid (blk_n4_4 hb)
        have hB1 := bel4 (Below.refl _ w) hb
        have zJ1 := J1.out.lt
        have zK1 := K1.out.lt
        have zP1 := P1.out.lt
        have zR1 := R1.out.lt
        obtain ⟨cJ1, dJ1, fJ1, hJ1⟩ := J1.out.two
        obtain ⟨cK1, dK1, fK1, hK1⟩ := K1.out.two
        obtain ⟨cP1, dP1, fP1, hP1⟩ := P1.out.two
        obtain ⟨cR1, dR1, fR1, hR1⟩ := R1.out.two
        clear hb
        go_wp2_with fail
        refine (c_implWaterValid _ _ _).mono ?_
        rintro e w2 ⟨rfl, hb⟩
        have J2 := Lib.hid (blk_b0 J1.out hb)
        have K2 := Lib.hid (blk_b0 K1.out hb)
        have P2 := Lib.hid (blk_b0 P1.out hb)
        have R2 := Lib.hid (blk_b0 R1.out hb)
        have hB2 := bel0 hB1 hb
        have zJ2 := J2.out.lt
        have zK2 := K2.out.lt
        have zP2 := P2.out.lt
        have zR2 := R2.out.lt
        obtain ⟨cJ2, dJ2, fJ2, hJ2⟩ := J2.out.two
        obtain ⟨cK2, dK2, fK2, hK2⟩ := K2.out.two
        obtain ⟨cP2, dP2, fP2, hP2⟩ := P2.out.two
        obtain ⟨cR2, dR2, fR2, hR2⟩ := R2.out.two
        clear hb
        clear cJ1 dJ1 fJ1 hJ1 cK1 dK1 fK1 hK1 cP1 dP1 fP1 hP1 cR1 dR1 fR1 hR1
        go_wp2_with fail
        refine (c_implFracValid _ _ _).mono ?_
        rintro e w3 ⟨rfl, hb⟩
        have J3 := Lib.hid (blk_b0 J2.out hb)
        have K3 := Lib.hid (blk_b0 K2.out hb)
        have P3 := Lib.hid (blk_b0 P2.out hb)
        have R3 := Lib.hid (blk_b0 R2.out hb)
        have hB3 := bel0 hB2 hb
        have zJ3 := J3.out.lt
        have zK3 := K3.out.lt
        have zP3 := P3.out.lt
        have zR3 := R3.out.lt
        obtain ⟨cJ3, dJ3, fJ3, hJ3⟩ := J3.out.two
        obtain ⟨cK3, dK3, fK3, hK3⟩ := K3.out.two
        obtain ⟨cP3, dP3, fP3, hP3⟩ := P3.out.two
        obtain ⟨cR3, dR3, fR3, hR3⟩ := R3.out.two
        clear hb
        clear cJ2 dJ2 fJ2 hJ2 cK2 dK2 fK2 hK2 cP2 dP2 fP2 hP2 cR2 dR2 fR2 hR2
        go_wp2
        refine bodyPost_ret (v := .tuple #[.agg #[.int .i64 0, .int .i64 0], .bool false]) (by simp [results, Try.results28, go_sem, *]) rfl (sh_no HK.out ?_)
        go_grown
    · have HK := Lib.hid (show vS aA aH bA bH rn rd = false by simp [vS, wv3, hb0])
      go_enter Try.func28, Try.ntmps28
      go_wp2_with fail
      refine (c_implWaterValid _ _ _).mono ?_
      rintro e w1 ⟨rfl, hb⟩
      have J1 := Lib.hid (blk_n4_1 hb)
      have K1 := Lib.hid (blk_n4_2 hb)
      have P1 := Lib.hid (blk_n4_3 hb)
      have R1 := Lib.hid (blk_n4_4 hb)
      have hB1 := bel4 (Below.refl _ w) hb
      have zJ1 := J1.out.lt
      have zK1 := K1.out.lt
      have zP1 := P1.out.lt
      have zR1 := R1.out.lt
      obtain ⟨cJ1, dJ1, fJ1, hJ1⟩ := J1.out.two
      obtain ⟨cK1, dK1, fK1, hK1⟩ := K1.out.two
      obtain ⟨cP1, dP1, fP1, hP1⟩ := P1.out.two
      obtain ⟨cR1, dR1, fR1, hR1⟩ := R1.out.two
      clear hb
      go_wp2_with fail
      refine (c_implWaterValid _ _ _).mono ?_
      rintro e w2 ⟨rfl, hb⟩
      have J2 := Lib.hid (blk_b0 J1.out hb)
      have K2 := Lib.hid (blk_b0 K1.out hb)
      have P2 := Lib.hid (blk_b0 P1.out hb)
      have R2 := Lib.hid (blk_b0 R1.out hb)
      have hB2 := bel0 hB1 hb
      have zJ2 := J2.out.lt
      have zK2 := K2.out.lt
      have zP2 := P2.out.lt
      have zR2 := R2.out.lt
      obtain ⟨cJ2, dJ2, fJ2, hJ2⟩ := J2.out.two
      obtain ⟨cK2, dK2, fK2, hK2⟩ := K2.out.two
      obtain ⟨cP2, dP2, fP2, hP2⟩ := P2.out.two
      obtain ⟨cR2, dR2, fR2, hR2⟩ := R2.out.two
      clear hb
      clear cJ1 dJ1 fJ1 hJ1 cK1 dK1 fK1 hK1 cP1 dP1 fP1 hP1 cR1 dR1 fR1 hR1
      go_wp2
      refine bodyPost_ret (v := .tuple #[.agg #[.int .i64 0, .int .i64 0], .bool false]) (by simp [results, Try.results28, go_sem, *]) rfl (sh_no HK.out ?_)
      go_grown
  · have HK := Lib.hid (show vS aA aH bA bH rn rd = false by simp [vS, wv3, ha])
    go_enter Try.func28, Try.ntmps28
    go_wp2_with fail
    refine (c_implWaterValid _ _ _).mono ?_
    rintro e w1 ⟨rfl, hb⟩
    have J1 := Lib.hid (blk_n4_1 hb)
    have K1 := Lib.hid (blk_n4_2 hb)
    have P1 := Lib.hid (blk_n4_3 hb)
    have R1 := Lib.hid (blk_n4_4 hb)
    have hB1 := bel4 (Below.refl _ w) hb
    have zJ1 := J1.out.lt
    have zK1 := K1.out.lt
    have zP1 := P1.out.lt
    have zR1 := R1.out.lt
    obtain ⟨cJ1, dJ1, fJ1, hJ1⟩ := J1.out.two
    obtain ⟨cK1, dK1, fK1, hK1⟩ := K1.out.two
    obtain ⟨cP1, dP1, fP1, hP1⟩ := P1.out.two
    obtain ⟨cR1, dR1, fR1, hR1⟩ := R1.out.two
    clear hb
    go_wp2
    refine bodyPost_ret (v := .tuple #[.agg #[.int .i64 0, .int .i64 0], .bool false]) (by simp [results, Try.results28, go_sem, *]) rfl (sh_no HK.out ?_)
    go_grown
end Go.Proofs.Ytbbipieadjggkaa
