/-
  Contract of WaterShare of the reference.
-/
import Derived.Test.YtbbipieadjggkaaShareWords
import Derived.Test.YtbbipieadjggkaaWaterA
import Derived.Test.YtbbipieadjggkaaFracLessSpec
namespace Go.Proofs.Ytbbipieadjggkaa
open Go.RowKit

set_option maxHeartbeats 8000000 in
theorem c_specWaterShare (aA aH bA bH rn rd : Int) (w : World) :
    Calls Try.prog 29 #[.agg #[.int .i64 aA, .int .i64 aH], .agg #[.int .i64 bA, .int .i64 bH], .agg #[.int .i64 rn, .int .i64 rd]] w (ShPost aA aH bA bH rn rd w) := by
  rcases Bool.eq_false_or_eq_true (vW aA aH) with ha | ha
  · rcases Bool.eq_false_or_eq_true (vW bA bH) with hb0 | hb0
    · obtain ⟨xn, hxn⟩ : ∃ x, nF aH aA = x := ⟨_, rfl⟩
      obtain ⟨xd, hxd⟩ : ∃ x, dF aH aA = x := ⟨_, rfl⟩
      have HA := Lib.hid ha
      have HXN := Lib.hid hxn
      have HXD := Lib.hid hxd
      have HXO := Lib.hid (ratio_ok ha)
      obtain ⟨yn, hyn⟩ : ∃ x, nF bH bA = x := ⟨_, rfl⟩
      obtain ⟨yd, hyd⟩ : ∃ x, dF bH bA = x := ⟨_, rfl⟩
      have HB := Lib.hid hb0
      have HYN := Lib.hid hyn
      have HYD := Lib.hid hyd
      have HYO := Lib.hid (ratio_ok hb0)
      rcases Bool.eq_false_or_eq_true (vF rn rd) with hr | hr
      · have h3 : wv3 aA aH bA bH rn rd = true := by simp [wv3, ha, hb0, hr]
        obtain ⟨s1, s2, s3, s4, s5⟩ := share_spec h3
        obtain ⟨_, va, xa1, xa2, xa3, xa4⟩ := ratio_val ha
        obtain ⟨_, vb, xb1, xb2, xb3, xb4⟩ := ratio_val hb0
        obtain ⟨r1, r2, r3, r4, _⟩ := vF_yes hr
        rw [hxn, hxd, hyn, hyd] at s1 s3 s4 s5
        rw [hxn, hxd, hyn, hyd] at s2
        rw [hxn, hxd] at va
        rw [hyn, hyd] at vb
        rw [hxn] at xa1 xa2
        rw [hxd] at xa3 xa4
        rw [hyn] at xb1 xb2
        rw [hyd] at xb3 xb4
        have HXB := Lib.hid (show (0 ≤ xn ∧ xn ≤ 1000 ∧ 1 ≤ xd ∧ xd ≤ 1000) ∧ (0 ≤ yn ∧ yn ≤ 1000 ∧ 1 ≤ yd ∧ yd ≤ 1000) ∧ (1 ≤ rd ∧ rd ≤ 1000000000 ∧ -1000000000 ≤ rn ∧ rn ≤ 1000000000) from ⟨⟨xa1, xa2, xa3, xa4⟩, ⟨xb1, xb2, xb3, xb4⟩, ⟨r1, r2, r3, r4⟩⟩)
        clear hxn hxd hyn hyd xa1 xa2 xa3 xa4 xb1 xb2 xb3 xb4 r1 r2 r3 r4
        have H3 := Lib.hid h3
        have S2 := Lib.hid s2
        have S3 := Lib.hid s3
        have S4 := Lib.hid s4
        have S5 := Lib.hid s5
        clear h3 s2 s3 s4 s5
        by_cases hbt : aH * bA - bH * aA = 0
        · obtain ⟨rfl, rfl⟩ := s1.2 hbt
          have HK := Lib.hid (show vS aA aH bA bH rn rd = false by
            have : okF (shX aA bA bH rn rd) (shY aA aH bA bH rd) = false := (okF_no (.inl (by unfold shY; rw [hbt, Int.mul_zero]))).1
            simp [vS, this])
          clear s1 va vb hbt
          go_enter Try.func29, Try.ntmps29
          go_wp2_with fail
          refine (c_specWaterRatio _ _ _).mono ?_
          intro e w1 hp
          obtain ⟨rfl, hb⟩ := op_at HA.out HXN.out HXD.out HXO.out hp
          clear hp
          have K1 := Lib.hid (blk_n4_2 hb)
          have P1 := Lib.hid (blk_n4_3 hb)
          have R1 := Lib.hid (blk_n4_4 hb)
          have hB1 := bel4 (Below.refl _ w) hb
          have zK1 := K1.out.lt
          have zP1 := P1.out.lt
          have zR1 := R1.out.lt
          obtain ⟨cK1, dK1, fK1, hK1⟩ := K1.out.two
          clear hb
          go_wp2_with fail
          refine (c_specWaterRatio _ _ _).mono ?_
          intro e w2 hp
          obtain ⟨rfl, hb⟩ := op_at HB.out HYN.out HYD.out HYO.out hp
          clear hp
          have P2 := Lib.hid (blk_b1 P1.out hb)
          have R2 := Lib.hid (blk_b1 R1.out hb)
          have X2 := Lib.hid (blk_n1 hb)
          have hB2 := bel1 hB1 hb
          have zP2 := P2.out.lt
          have zR2 := R2.out.lt
          have zX2 := X2.out.lt
          obtain ⟨cP2, dP2, fP2, hP2⟩ := P2.out.two
          obtain ⟨cR2, dR2, fR2, hR2⟩ := R2.out.two
          clear hb
          clear cK1 dK1 fK1 hK1
          go_wp2_with fail
          refine (c_specFracValid _ _ _).mono ?_
          rintro e w3 ⟨rfl, hb⟩
          have P3 := Lib.hid (blk_b1 P2.out hb)
          have R3 := Lib.hid (blk_b1 R2.out hb)
          have X3 := Lib.hid (blk_b1 X2.out hb)
          have Y3 := Lib.hid (blk_n1 hb)
          have hB3 := bel1 hB2 hb
          have zP3 := P3.out.lt
          have zR3 := R3.out.lt
          have zX3 := X3.out.lt
          have zY3 := Y3.out.lt
          obtain ⟨cP3, dP3, fP3, hP3⟩ := P3.out.two
          obtain ⟨cR3, dR3, fR3, hR3⟩ := R3.out.two
          obtain ⟨cX3, dX3, fX3, hX3⟩ := X3.out.two
          obtain ⟨cY3, dY3, fY3, hY3⟩ := Y3.out.two
          clear hb
          clear cP2 dP2 fP2 hP2 cR2 dR2 fR2 hR2
          go_wp2
          refine bodyPost_ret (v := .tuple #[.agg #[.int .i64 0, .int .i64 0], .bool false]) (by simp [results, Try.results29, go_sem, *]) rfl (sh_no HK.out ?_)
          go_grown
        · have hne : ¬ (xn = yn ∧ xd = yd) := fun e => hbt (s1.1 e)
          have HNE := Lib.hid hbt
          clear s1 va vb
          rcases Int.lt_or_lt_of_ne hbt with hlt | hlt
          · have HL := Lib.hid (show lessF yn yd xn xd = false by rw [S2.out]; simp; omega)
            have HS := Lib.hid (S5.out hlt)
            clear hlt
            rcases Bool.eq_false_or_eq_true (lessF rn rd xn xd) with hb1 | hb1
            · have HB1 := Lib.hid hb1
              have HK := Lib.hid (show vS aA aH bA bH rn rd = false by
                rcases Bool.eq_false_or_eq_true (okF (shX aA bA bH rn rd) (shY aA aH bA bH rd)) with ho | ho
                · simp [vS, HS.out ho, hb1]
                · simp [vS, ho])
              clear hb1
              by_cases hxy : xn = yn
              · subst hxy
                have g1 : (xd == yd) = false := by simpa using hne
                clear hne hbt
                go_enter Try.func29, Try.ntmps29
                go_wp2_with fail
                refine (c_specWaterRatio _ _ _).mono ?_
                intro e w1 hp
                obtain ⟨rfl, hb⟩ := op_at HA.out HXN.out HXD.out HXO.out hp
                clear hp
                have K1 := Lib.hid (blk_n4_2 hb)
                have P1 := Lib.hid (blk_n4_3 hb)
                have R1 := Lib.hid (blk_n4_4 hb)
                have hB1 := bel4 (Below.refl _ w) hb
                have zK1 := K1.out.lt
                have zP1 := P1.out.lt
                have zR1 := R1.out.lt
                obtain ⟨cK1, dK1, fK1, hK1⟩ := K1.out.two
                clear hb
                go_wp2_with fail
                refine (c_specWaterRatio _ _ _).mono ?_
                intro e w2 hp
                obtain ⟨rfl, hb⟩ := op_at HB.out HYN.out HYD.out HYO.out hp
                clear hp
                have P2 := Lib.hid (blk_b1 P1.out hb)
                have R2 := Lib.hid (blk_b1 R1.out hb)
                have X2 := Lib.hid (blk_n1 hb)
                have hB2 := bel1 hB1 hb
                have zP2 := P2.out.lt
                have zR2 := R2.out.lt
                have zX2 := X2.out.lt
                obtain ⟨cP2, dP2, fP2, hP2⟩ := P2.out.two
                obtain ⟨cR2, dR2, fR2, hR2⟩ := R2.out.two
                clear hb
                clear cK1 dK1 fK1 hK1
                go_wp2_with fail
                refine (c_specFracValid _ _ _).mono ?_
                rintro e w3 ⟨rfl, hb⟩
                have P3 := Lib.hid (blk_b1 P2.out hb)
                have R3 := Lib.hid (blk_b1 R2.out hb)
                have X3 := Lib.hid (blk_b1 X2.out hb)
                have Y3 := Lib.hid (blk_n1 hb)
                have hB3 := bel1 hB2 hb
                have zP3 := P3.out.lt
                have zR3 := R3.out.lt
                have zX3 := X3.out.lt
                have zY3 := Y3.out.lt
                obtain ⟨cP3, dP3, fP3, hP3⟩ := P3.out.two
                obtain ⟨cR3, dR3, fR3, hR3⟩ := R3.out.two
                obtain ⟨cX3, dX3, fX3, hX3⟩ := X3.out.two
                obtain ⟨cY3, dY3, fY3, hY3⟩ := Y3.out.two
                clear hb
                clear cP2 dP2 fP2 hP2 cR2 dR2 fR2 hR2
                go_wp2_with fail
                refine (c_specFracLess xn yd xn xd _).mono ?_
                rintro e w4 ⟨he, hb⟩
                rw [HL.out] at he
                subst he
                have P4 := Lib.hid (blk_b2 P3.out hb)
                have R4 := Lib.hid (blk_b2 R3.out hb)
                have X4 := Lib.hid (blk_b2 X3.out hb)
                have Y4 := Lib.hid (blk_b2 Y3.out hb)
                have L4 := Lib.hid (blk_n2 hb)
                have H4 := Lib.hid (blk_n2' hb)
                have hB4 := bel2 hB3 hb
                have zP4 := P4.out.lt
                have zR4 := R4.out.lt
                have zX4 := X4.out.lt
                have zY4 := Y4.out.lt
                have zL4 := L4.out.lt
                have zH4 := H4.out.lt
                obtain ⟨cP4, dP4, fP4, hP4⟩ := P4.out.two
                obtain ⟨cR4, dR4, fR4, hR4⟩ := R4.out.two
                obtain ⟨cX4, dX4, fX4, hX4⟩ := X4.out.two
                obtain ⟨cY4, dY4, fY4, hY4⟩ := Y4.out.two
                obtain ⟨cL4, dL4, fL4, hL4⟩ := L4.out.two
                obtain ⟨cH4, dH4, fH4, hH4⟩ := H4.out.two
                clear hb
                clear cP3 dP3 fP3 hP3 cR3 dR3 fR3 hR3 cX3 dX3 fX3 hX3 cY3 dY3 fY3 hY3
                go_wp2_with fail
                refine (c_specFracLess rn rd xn xd _).mono ?_
                rintro e w5 ⟨he, hb⟩
                rw [HB1.out] at he
                subst he
                have P5 := Lib.hid (blk_b0 P4.out hb)
                have R5 := Lib.hid (blk_b0 R4.out hb)
                have X5 := Lib.hid (blk_b0 X4.out hb)
                have Y5 := Lib.hid (blk_b0 Y4.out hb)
                have L5 := Lib.hid (blk_b0 L4.out hb)
                have H5 := Lib.hid (blk_b0 H4.out hb)
                have hB5 := bel0 hB4 hb
                have zP5 := P5.out.lt
                have zR5 := R5.out.lt
                have zX5 := X5.out.lt
                have zY5 := Y5.out.lt
                have zL5 := L5.out.lt
                have zH5 := H5.out.lt
                obtain ⟨cP5, dP5, fP5, hP5⟩ := P5.out.two
                obtain ⟨cR5, dR5, fR5, hR5⟩ := R5.out.two
                obtain ⟨cX5, dX5, fX5, hX5⟩ := X5.out.two
                obtain ⟨cY5, dY5, fY5, hY5⟩ := Y5.out.two
                obtain ⟨cL5, dL5, fL5, hL5⟩ := L5.out.two
                obtain ⟨cH5, dH5, fH5, hH5⟩ := H5.out.two
                clear hb
                clear cP4 dP4 fP4 hP4 cR4 dR4 fR4 hR4 cX4 dX4 fX4 hX4 cY4 dY4 fY4 hY4 cL4 dL4 fL4 hL4 cH4 dH4 fH4 hH4
                go_wp2
                refine bodyPost_ret (v := .tuple #[.agg #[.int .i64 0, .int .i64 0], .bool false]) (by simp [results, Try.results29, go_sem, *]) rfl (sh_no HK.out ?_)
                go_grown
              · have g1 : (xn == yn) = false := by simpa using hxy
                clear hne hbt
                go_enter Try.func29, Try.ntmps29
                go_wp2_with fail
                refine (c_specWaterRatio _ _ _).mono ?_
                intro e w1 hp
                obtain ⟨rfl, hb⟩ := op_at HA.out HXN.out HXD.out HXO.out hp
                clear hp
                have K1 := Lib.hid (blk_n4_2 hb)
                have P1 := Lib.hid (blk_n4_3 hb)
                have R1 := Lib.hid (blk_n4_4 hb)
                have hB1 := bel4 (Below.refl _ w) hb
                have zK1 := K1.out.lt
                have zP1 := P1.out.lt
                have zR1 := R1.out.lt
                obtain ⟨cK1, dK1, fK1, hK1⟩ := K1.out.two
                clear hb
                go_wp2_with fail
                refine (c_specWaterRatio _ _ _).mono ?_
                intro e w2 hp
                obtain ⟨rfl, hb⟩ := op_at HB.out HYN.out HYD.out HYO.out hp
                clear hp
                have P2 := Lib.hid (blk_b1 P1.out hb)
                have R2 := Lib.hid (blk_b1 R1.out hb)
                have X2 := Lib.hid (blk_n1 hb)
                have hB2 := bel1 hB1 hb
                have zP2 := P2.out.lt
                have zR2 := R2.out.lt
                have zX2 := X2.out.lt
                obtain ⟨cP2, dP2, fP2, hP2⟩ := P2.out.two
                obtain ⟨cR2, dR2, fR2, hR2⟩ := R2.out.two
                clear hb
                clear cK1 dK1 fK1 hK1
                go_wp2_with fail
                refine (c_specFracValid _ _ _).mono ?_
                rintro e w3 ⟨rfl, hb⟩
                have P3 := Lib.hid (blk_b1 P2.out hb)
                have R3 := Lib.hid (blk_b1 R2.out hb)
                have X3 := Lib.hid (blk_b1 X2.out hb)
                have Y3 := Lib.hid (blk_n1 hb)
                have hB3 := bel1 hB2 hb
                have zP3 := P3.out.lt
                have zR3 := R3.out.lt
                have zX3 := X3.out.lt
                have zY3 := Y3.out.lt
                obtain ⟨cP3, dP3, fP3, hP3⟩ := P3.out.two
                obtain ⟨cR3, dR3, fR3, hR3⟩ := R3.out.two
                obtain ⟨cX3, dX3, fX3, hX3⟩ := X3.out.two
                obtain ⟨cY3, dY3, fY3, hY3⟩ := Y3.out.two
                clear hb
                clear cP2 dP2 fP2 hP2 cR2 dR2 fR2 hR2
                go_wp2_with fail
                refine (c_specFracLess yn yd xn xd _).mono ?_
                rintro e w4 ⟨he, hb⟩
                rw [HL.out] at he
                subst he
                have P4 := Lib.hid (blk_b2 P3.out hb)
                have R4 := Lib.hid (blk_b2 R3.out hb)
                have X4 := Lib.hid (blk_b2 X3.out hb)
                have Y4 := Lib.hid (blk_b2 Y3.out hb)
                have L4 := Lib.hid (blk_n2 hb)
                have H4 := Lib.hid (blk_n2' hb)
                have hB4 := bel2 hB3 hb
                have zP4 := P4.out.lt
                have zR4 := R4.out.lt
                have zX4 := X4.out.lt
                have zY4 := Y4.out.lt
                have zL4 := L4.out.lt
                have zH4 := H4.out.lt
                obtain ⟨cP4, dP4, fP4, hP4⟩ := P4.out.two
                obtain ⟨cR4, dR4, fR4, hR4⟩ := R4.out.two
                obtain ⟨cX4, dX4, fX4, hX4⟩ := X4.out.two
                obtain ⟨cY4, dY4, fY4, hY4⟩ := Y4.out.two
                obtain ⟨cL4, dL4, fL4, hL4⟩ := L4.out.two
                obtain ⟨cH4, dH4, fH4, hH4⟩ := H4.out.two
                clear hb
                clear cP3 dP3 fP3 hP3 cR3 dR3 fR3 hR3 cX3 dX3 fX3 hX3 cY3 dY3 fY3 hY3
                go_wp2_with fail
                refine (c_specFracLess rn rd xn xd _).mono ?_
                rintro e w5 ⟨he, hb⟩
                rw [HB1.out] at he
                subst he
                have P5 := Lib.hid (blk_b0 P4.out hb)
                have R5 := Lib.hid (blk_b0 R4.out hb)
                have X5 := Lib.hid (blk_b0 X4.out hb)
                have Y5 := Lib.hid (blk_b0 Y4.out hb)
                have L5 := Lib.hid (blk_b0 L4.out hb)
                have H5 := Lib.hid (blk_b0 H4.out hb)
                have hB5 := bel0 hB4 hb
                have zP5 := P5.out.lt
                have zR5 := R5.out.lt
                have zX5 := X5.out.lt
                have zY5 := Y5.out.lt
                have zL5 := L5.out.lt
                have zH5 := H5.out.lt
                obtain ⟨cP5, dP5, fP5, hP5⟩ := P5.out.two
                obtain ⟨cR5, dR5, fR5, hR5⟩ := R5.out.two
                obtain ⟨cX5, dX5, fX5, hX5⟩ := X5.out.two
                obtain ⟨cY5, dY5, fY5, hY5⟩ := Y5.out.two
                obtain ⟨cL5, dL5, fL5, hL5⟩ := L5.out.two
                obtain ⟨cH5, dH5, fH5, hH5⟩ := H5.out.two
                clear hb
                clear cP4 dP4 fP4 hP4 cR4 dR4 fR4 hR4 cX4 dX4 fX4 hX4 cY4 dY4 fY4 hY4 cL4 dL4 fL4 hL4 cH4 dH4 fH4 hH4
                go_wp2
                refine bodyPost_ret (v := .tuple #[.agg #[.int .i64 0, .int .i64 0], .bool false]) (by simp [results, Try.results29, go_sem, *]) rfl (sh_no HK.out ?_)
                go_grown
            · have HB1 := Lib.hid hb1
              rcases Bool.eq_false_or_eq_true (lessF yn yd rn rd) with hb2 | hb2
              · have HB2 := Lib.hid hb2
                have HK := Lib.hid (show vS aA aH bA bH rn rd = false by
                  rcases Bool.eq_false_or_eq_true (okF (shX aA bA bH rn rd) (shY aA aH bA bH rd)) with ho | ho
                  · simp [vS, HS.out ho, hb2]
                  · simp [vS, ho])
                clear hb1 hb2
                by_cases hxy : xn = yn
                · subst hxy
                  have g1 : (xd == yd) = false := by simpa using hne
                  clear hne hbt
                  go_enter Try.func29, Try.ntmps29
                  go_wp2_with fail
                  refine (c_specWaterRatio _ _ _).mono ?_
                  intro e w1 hp
                  obtain ⟨rfl, hb⟩ := op_at HA.out HXN.out HXD.out HXO.out hp
                  clear hp
                  have K1 := Lib.hid (blk_n4_2 hb)
                  have P1 := Lib.hid (blk_n4_3 hb)
                  have R1 := Lib.hid (blk_n4_4 hb)
                  have hB1 := bel4 (Below.refl _ w) hb
                  have zK1 := K1.out.lt
                  have zP1 := P1.out.lt
                  have zR1 := R1.out.lt
                  obtain ⟨cK1, dK1, fK1, hK1⟩ := K1.out.two
                  clear hb
                  go_wp2_with fail
                  refine (c_specWaterRatio _ _ _).mono ?_
                  intro e w2 hp
                  obtain ⟨rfl, hb⟩ := op_at HB.out HYN.out HYD.out HYO.out hp
                  clear hp
                  have P2 := Lib.hid (blk_b1 P1.out hb)
                  have R2 := Lib.hid (blk_b1 R1.out hb)
                  have X2 := Lib.hid (blk_n1 hb)
                  have hB2 := bel1 hB1 hb
                  have zP2 := P2.out.lt
                  have zR2 := R2.out.lt
                  have zX2 := X2.out.lt
                  obtain ⟨cP2, dP2, fP2, hP2⟩ := P2.out.two
                  obtain ⟨cR2, dR2, fR2, hR2⟩ := R2.out.two
                  clear hb
                  clear cK1 dK1 fK1 hK1
                  go_wp2_with fail
                  refine (c_specFracValid _ _ _).mono ?_
                  rintro e w3 ⟨rfl, hb⟩
                  have P3 := Lib.hid (blk_b1 P2.out hb)
                  have R3 := Lib.hid (blk_b1 R2.out hb)
                  have X3 := Lib.hid (blk_b1 X2.out hb)
                  have Y3 := Lib.hid (blk_n1 hb)
                  have hB3 := bel1 hB2 hb
                  have zP3 := P3.out.lt
                  have zR3 := R3.out.lt
                  have zX3 := X3.out.lt
                  have zY3 := Y3.out.lt
                  obtain ⟨cP3, dP3, fP3, hP3⟩ := P3.out.two
                  obtain ⟨cR3, dR3, fR3, hR3⟩ := R3.out.two
                  obtain ⟨cX3, dX3, fX3, hX3⟩ := X3.out.two
                  obtain ⟨cY3, dY3, fY3, hY3⟩ := Y3.out.two
                  clear hb
                  clear cP2 dP2 fP2 hP2 cR2 dR2 fR2 hR2
                  go_wp2_with fail
                  refine (c_specFracLess xn yd xn xd _).mono ?_
                  rintro e w4 ⟨he, hb⟩
                  rw [HL.out] at he
                  subst he
                  have P4 := Lib.hid (blk_b2 P3.out hb)
                  have R4 := Lib.hid (blk_b2 R3.out hb)
                  have X4 := Lib.hid (blk_b2 X3.out hb)
                  have Y4 := Lib.hid (blk_b2 Y3.out hb)
                  have L4 := Lib.hid (blk_n2 hb)
                  have H4 := Lib.hid (blk_n2' hb)
                  have hB4 := bel2 hB3 hb
                  have zP4 := P4.out.lt
                  have zR4 := R4.out.lt
                  have zX4 := X4.out.lt
                  have zY4 := Y4.out.lt
                  have zL4 := L4.out.lt
                  have zH4 := H4.out.lt
                  obtain ⟨cP4, dP4, fP4, hP4⟩ := P4.out.two
                  obtain ⟨cR4, dR4, fR4, hR4⟩ := R4.out.two
                  obtain ⟨cX4, dX4, fX4, hX4⟩ := X4.out.two
                  obtain ⟨cY4, dY4, fY4, hY4⟩ := Y4.out.two
                  obtain ⟨cL4, dL4, fL4, hL4⟩ := L4.out.two
                  obtain ⟨cH4, dH4, fH4, hH4⟩ := H4.out.two
                  clear hb
                  clear cP3 dP3 fP3 hP3 cR3 dR3 fR3 hR3 cX3 dX3 fX3 hX3 cY3 dY3 fY3 hY3
                  go_wp2_with fail
                  refine (c_specFracLess rn rd xn xd _).mono ?_
                  rintro e w5 ⟨he, hb⟩
                  rw [HB1.out] at he
                  subst he
                  have P5 := Lib.hid (blk_b0 P4.out hb)
                  have R5 := Lib.hid (blk_b0 R4.out hb)
                  have X5 := Lib.hid (blk_b0 X4.out hb)
                  have Y5 := Lib.hid (blk_b0 Y4.out hb)
                  have L5 := Lib.hid (blk_b0 L4.out hb)
                  have H5 := Lib.hid (blk_b0 H4.out hb)
                  have hB5 := bel0 hB4 hb
                  have zP5 := P5.out.lt
                  have zR5 := R5.out.lt
                  have zX5 := X5.out.lt
                  have zY5 := Y5.out.lt
                  have zL5 := L5.out.lt
                  have zH5 := H5.out.lt
                  obtain ⟨cP5, dP5, fP5, hP5⟩ := P5.out.two
                  obtain ⟨cR5, dR5, fR5, hR5⟩ := R5.out.two
                  obtain ⟨cX5, dX5, fX5, hX5⟩ := X5.out.two
                  obtain ⟨cY5, dY5, fY5, hY5⟩ := Y5.out.two
                  obtain ⟨cL5, dL5, fL5, hL5⟩ := L5.out.two
                  obtain ⟨cH5, dH5, fH5, hH5⟩ := H5.out.two
                  clear hb
                  clear cP4 dP4 fP4 hP4 cR4 dR4 fR4 hR4 cX4 dX4 fX4 hX4 cY4 dY4 fY4 hY4 cL4 dL4 fL4 hL4 cH4 dH4 fH4 hH4
                  go_wp2_with fail
                  refine (c_specFracLess xn yd rn rd _).mono ?_
                  rintro e w6 ⟨he, hb⟩
                  rw [HB2.out] at he
                  subst he
                  have P6 := Lib.hid (blk_b0 P5.out hb)
                  have R6 := Lib.hid (blk_b0 R5.out hb)
                  have X6 := Lib.hid (blk_b0 X5.out hb)
                  have Y6 := Lib.hid (blk_b0 Y5.out hb)
                  have L6 := Lib.hid (blk_b0 L5.out hb)
                  have H6 := Lib.hid (blk_b0 H5.out hb)
                  have hB6 := bel0 hB5 hb
                  have zP6 := P6.out.lt
                  have zR6 := R6.out.lt
                  have zX6 := X6.out.lt
                  have zY6 := Y6.out.lt
                  have zL6 := L6.out.lt
                  have zH6 := H6.out.lt
                  obtain ⟨cP6, dP6, fP6, hP6⟩ := P6.out.two
                  obtain ⟨cR6, dR6, fR6, hR6⟩ := R6.out.two
                  obtain ⟨cX6, dX6, fX6, hX6⟩ := X6.out.two
                  obtain ⟨cY6, dY6, fY6, hY6⟩ := Y6.out.two
                  clear hb
                  clear cP5 dP5 fP5 hP5 cR5 dR5 fR5 hR5 cX5 dX5 fX5 hX5 cY5 dY5 fY5 hY5 cL5 dL5 fL5 hL5 cH5 dH5 fH5 hH5
                  go_wp2
                  refine bodyPost_ret (v := .tuple #[.agg #[.int .i64 0, .int .i64 0], .bool false]) (by simp [results, Try.results29, go_sem, *]) rfl (sh_no HK.out ?_)
                  go_grown
                · have g1 : (xn == yn) = false := by simpa using hxy
                  clear hne hbt
                  go_enter Try.func29, Try.ntmps29
                  go_wp2_with fail
                  refine (c_specWaterRatio _ _ _).mono ?_
                  intro e w1 hp
                  obtain ⟨rfl, hb⟩ := op_at HA.out HXN.out HXD.out HXO.out hp
                  clear hp
                  have K1 := Lib.hid (blk_n4_2 hb)
                  have P1 := Lib.hid (blk_n4_3 hb)
                  have R1 := Lib.hid (blk_n4_4 hb)
                  have hB1 := bel4 (Below.refl _ w) hb
                  have zK1 := K1.out.lt
                  have zP1 := P1.out.lt
                  have zR1 := R1.out.lt
                  obtain ⟨cK1, dK1, fK1, hK1⟩ := K1.out.two
                  clear hb
                  go_wp2_with fail
                  refine (c_specWaterRatio _ _ _).mono ?_
                  intro e w2 hp
                  obtain ⟨rfl, hb⟩ := op_at HB.out HYN.out HYD.out HYO.out hp
                  clear hp
                  have P2 := Lib.hid (blk_b1 P1.out hb)
                  have R2 := Lib.hid (blk_b1 R1.out hb)
                  have X2 := Lib.hid (blk_n1 hb)
                  have hB2 := bel1 hB1 hb
                  have zP2 := P2.out.lt
                  have zR2 := R2.out.lt
                  have zX2 := X2.out.lt
                  obtain ⟨cP2, dP2, fP2, hP2⟩ := P2.out.two
                  obtain ⟨cR2, dR2, fR2, hR2⟩ := R2.out.two
                  clear hb
                  clear cK1 dK1 fK1 hK1
                  go_wp2_with fail
                  refine (c_specFracValid _ _ _).mono ?_
                  rintro e w3 ⟨rfl, hb⟩
                  have P3 := Lib.hid (blk_b1 P2.out hb)
                  have R3 := Lib.hid (blk_b1 R2.out hb)
                  have X3 := Lib.hid (blk_b1 X2.out hb)
                  have Y3 := Lib.hid (blk_n1 hb)
                  have hB3 := bel1 hB2 hb
                  have zP3 := P3.out.lt
                  have zR3 := R3.out.lt
                  have zX3 := X3.out.lt
                  have zY3 := Y3.out.lt
                  obtain ⟨cP3, dP3, fP3, hP3⟩ := P3.out.two
                  obtain ⟨cR3, dR3, fR3, hR3⟩ := R3.out.two
                  obtain ⟨cX3, dX3, fX3, hX3⟩ := X3.out.two
                  obtain ⟨cY3, dY3, fY3, hY3⟩ := Y3.out.two
                  clear hb
                  clear cP2 dP2 fP2 hP2 cR2 dR2 fR2 hR2
                  go_wp2_with fail
                  refine (c_specFracLess yn yd xn xd _).mono ?_
                  rintro e w4 ⟨he, hb⟩
                  rw [HL.out] at he
                  subst he
                  have P4 := Lib.hid (blk_b2 P3.out hb)
                  have R4 := Lib.hid (blk_b2 R3.out hb)
                  have X4 := Lib.hid (blk_b2 X3.out hb)
                  have Y4 := Lib.hid (blk_b2 Y3.out hb)
                  have L4 := Lib.hid (blk_n2 hb)
                  have H4 := Lib.hid (blk_n2' hb)
                  have hB4 := bel2 hB3 hb
                  have zP4 := P4.out.lt
                  have zR4 := R4.out.lt
                  have zX4 := X4.out.lt
                  have zY4 := Y4.out.lt
                  have zL4 := L4.out.lt
                  have zH4 := H4.out.lt
                  obtain ⟨cP4, dP4, fP4, hP4⟩ := P4.out.two
                  obtain ⟨cR4, dR4, fR4, hR4⟩ := R4.out.two
                  obtain ⟨cX4, dX4, fX4, hX4⟩ := X4.out.two
                  obtain ⟨cY4, dY4, fY4, hY4⟩ := Y4.out.two
                  obtain ⟨cL4, dL4, fL4, hL4⟩ := L4.out.two
                  obtain ⟨cH4, dH4, fH4, hH4⟩ := H4.out.two
                  clear hb
                  clear cP3 dP3 fP3 hP3 cR3 dR3 fR3 hR3 cX3 dX3 fX3 hX3 cY3 dY3 fY3 hY3
                  go_wp2_with fail
                  refine (c_specFracLess rn rd xn xd _).mono ?_
                  rintro e w5 ⟨he, hb⟩
                  rw [HB1.out] at he
                  subst he
                  have P5 := Lib.hid (blk_b0 P4.out hb)
                  have R5 := Lib.hid (blk_b0 R4.out hb)
                  have X5 := Lib.hid (blk_b0 X4.out hb)
                  have Y5 := Lib.hid (blk_b0 Y4.out hb)
                  have L5 := Lib.hid (blk_b0 L4.out hb)
                  have H5 := Lib.hid (blk_b0 H4.out hb)
                  have hB5 := bel0 hB4 hb
                  have zP5 := P5.out.lt
                  have zR5 := R5.out.lt
                  have zX5 := X5.out.lt
                  have zY5 := Y5.out.lt
                  have zL5 := L5.out.lt
                  have zH5 := H5.out.lt
                  obtain ⟨cP5, dP5, fP5, hP5⟩ := P5.out.two
                  obtain ⟨cR5, dR5, fR5, hR5⟩ := R5.out.two
                  obtain ⟨cX5, dX5, fX5, hX5⟩ := X5.out.two
                  obtain ⟨cY5, dY5, fY5, hY5⟩ := Y5.out.two
                  obtain ⟨cL5, dL5, fL5, hL5⟩ := L5.out.two
                  obtain ⟨cH5, dH5, fH5, hH5⟩ := H5.out.two
                  clear hb
                  clear cP4 dP4 fP4 hP4 cR4 dR4 fR4 hR4 cX4 dX4 fX4 hX4 cY4 dY4 fY4 hY4 cL4 dL4 fL4 hL4 cH4 dH4 fH4 hH4
                  go_wp2_with fail
                  refine (c_specFracLess yn yd rn rd _).mono ?_
                  rintro e w6 ⟨he, hb⟩
                  rw [HB2.out] at he
                  subst he
                  have P6 := Lib.hid (blk_b0 P5.out hb)
                  have R6 := Lib.hid (blk_b0 R5.out hb)
                  have X6 := Lib.hid (blk_b0 X5.out hb)
                  have Y6 := Lib.hid (blk_b0 Y5.out hb)
                  have L6 := Lib.hid (blk_b0 L5.out hb)
                  have H6 := Lib.hid (blk_b0 H5.out hb)
                  have hB6 := bel0 hB5 hb
                  have zP6 := P6.out.lt
                  have zR6 := R6.out.lt
                  have zX6 := X6.out.lt
                  have zY6 := Y6.out.lt
                  have zL6 := L6.out.lt
                  have zH6 := H6.out.lt
                  obtain ⟨cP6, dP6, fP6, hP6⟩ := P6.out.two
                  obtain ⟨cR6, dR6, fR6, hR6⟩ := R6.out.two
                  obtain ⟨cX6, dX6, fX6, hX6⟩ := X6.out.two
                  obtain ⟨cY6, dY6, fY6, hY6⟩ := Y6.out.two
                  clear hb
                  clear cP5 dP5 fP5 hP5 cR5 dR5 fR5 hR5 cX5 dX5 fX5 hX5 cY5 dY5 fY5 hY5 cL5 dL5 fL5 hL5 cH5 dH5 fH5 hH5
                  go_wp2
                  refine bodyPost_ret (v := .tuple #[.agg #[.int .i64 0, .int .i64 0], .bool false]) (by simp [results, Try.results29, go_sem, *]) rfl (sh_no HK.out ?_)
                  go_grown
              · have HB2 := Lib.hid hb2
                obtain ⟨t1, t2, t3⟩ := S3.out HNE.out
                obtain ⟨N, hN⟩ : ∃ x, nF (shX aA bA bH rn rd) (shY aA aH bA bH rd) = x := ⟨_, rfl⟩
                obtain ⟨D, hD⟩ : ∃ x, dF (shX aA bA bH rn rd) (shY aA aH bA bH rd) = x := ⟨_, rfl⟩
                obtain ⟨b, hbb⟩ : ∃ x, okF (shX aA bA bH rn rd) (shY aA aH bA bH rd) = x := ⟨_, rfl⟩
                have HFIN := Lib.hid (show ∀ W : World, Below w.heap.size w W → ShPost aA aH bA bH rn rd w (.returned (.tuple #[.agg #[.int .i64 N, .int .i64 D], .bool b])) W by
                  intro W hB
                  rcases Bool.eq_false_or_eq_true b with rfl | rfl
                  · exact sh_yes (by simp [vS, H3.out, hbb, HS.out hbb, hb1, hb2]) hN hD hB
                  · have e1 : N = 0 := by rw [← hN]; simp [nF, hbb]
                    have e2 : D = 0 := by rw [← hD]; simp [dF, hbb]
                    rw [e1, e2]
                    exact sh_no (by simp [vS, hbb]) hB)
                have HO := Lib.hid (t1.trans hbb)
                have HN := Lib.hid (t2.trans hN)
                have HD := Lib.hid (t3.trans hD)
                clear hb1 hb2 t1 t2 t3 hN hD hbb
                by_cases hxy : xn = yn
                · subst hxy
                  have g1 : (xd == yd) = false := by simpa using hne
                  clear hne hbt
                  go_enter Try.func29, Try.ntmps29
                  go_wp2_with fail
                  refine (c_specWaterRatio _ _ _).mono ?_
                  intro e w1 hp
                  obtain ⟨rfl, hb⟩ := op_at HA.out HXN.out HXD.out HXO.out hp
                  clear hp
                  have K1 := Lib.hid (blk_n4_2 hb)
                  have P1 := Lib.hid (blk_n4_3 hb)
                  have R1 := Lib.hid (blk_n4_4 hb)
                  have hB1 := bel4 (Below.refl _ w) hb
                  have zK1 := K1.out.lt
                  have zP1 := P1.out.lt
                  have zR1 := R1.out.lt
                  obtain ⟨cK1, dK1, fK1, hK1⟩ := K1.out.two
                  clear hb
                  go_wp2_with fail
                  refine (c_specWaterRatio _ _ _).mono ?_
                  intro e w2 hp
                  obtain ⟨rfl, hb⟩ := op_at HB.out HYN.out HYD.out HYO.out hp
                  clear hp
                  have P2 := Lib.hid (blk_b1 P1.out hb)
                  have R2 := Lib.hid (blk_b1 R1.out hb)
                  have X2 := Lib.hid (blk_n1 hb)
                  have hB2 := bel1 hB1 hb
                  have zP2 := P2.out.lt
                  have zR2 := R2.out.lt
                  have zX2 := X2.out.lt
                  obtain ⟨cP2, dP2, fP2, hP2⟩ := P2.out.two
                  obtain ⟨cR2, dR2, fR2, hR2⟩ := R2.out.two
                  clear hb
                  clear cK1 dK1 fK1 hK1
                  go_wp2_with fail
                  refine (c_specFracValid _ _ _).mono ?_
                  rintro e w3 ⟨rfl, hb⟩
                  have P3 := Lib.hid (blk_b1 P2.out hb)
                  have R3 := Lib.hid (blk_b1 R2.out hb)
                  have X3 := Lib.hid (blk_b1 X2.out hb)
                  have Y3 := Lib.hid (blk_n1 hb)
                  have hB3 := bel1 hB2 hb
                  have zP3 := P3.out.lt
                  have zR3 := R3.out.lt
                  have zX3 := X3.out.lt
                  have zY3 := Y3.out.lt
                  obtain ⟨cP3, dP3, fP3, hP3⟩ := P3.out.two
                  obtain ⟨cR3, dR3, fR3, hR3⟩ := R3.out.two
                  obtain ⟨cX3, dX3, fX3, hX3⟩ := X3.out.two
                  obtain ⟨cY3, dY3, fY3, hY3⟩ := Y3.out.two
                  clear hb
                  clear cP2 dP2 fP2 hP2 cR2 dR2 fR2 hR2
                  go_wp2_with fail
                  refine (c_specFracLess xn yd xn xd _).mono ?_
                  rintro e w4 ⟨he, hb⟩
                  rw [HL.out] at he
                  subst he
                  have P4 := Lib.hid (blk_b2 P3.out hb)
                  have R4 := Lib.hid (blk_b2 R3.out hb)
                  have X4 := Lib.hid (blk_b2 X3.out hb)
                  have Y4 := Lib.hid (blk_b2 Y3.out hb)
                  have L4 := Lib.hid (blk_n2 hb)
                  have H4 := Lib.hid (blk_n2' hb)
                  have hB4 := bel2 hB3 hb
                  have zP4 := P4.out.lt
                  have zR4 := R4.out.lt
                  have zX4 := X4.out.lt
                  have zY4 := Y4.out.lt
                  have zL4 := L4.out.lt
                  have zH4 := H4.out.lt
                  obtain ⟨cP4, dP4, fP4, hP4⟩ := P4.out.two
                  obtain ⟨cR4, dR4, fR4, hR4⟩ := R4.out.two
                  obtain ⟨cX4, dX4, fX4, hX4⟩ := X4.out.two
                  obtain ⟨cY4, dY4, fY4, hY4⟩ := Y4.out.two
                  obtain ⟨cL4, dL4, fL4, hL4⟩ := L4.out.two
                  obtain ⟨cH4, dH4, fH4, hH4⟩ := H4.out.two
                  clear hb
                  clear cP3 dP3 fP3 hP3 cR3 dR3 fR3 hR3 cX3 dX3 fX3 hX3 cY3 dY3 fY3 hY3
                  go_wp2_with fail
                  refine (c_specFracLess rn rd xn xd _).mono ?_
                  rintro e w5 ⟨he, hb⟩
                  rw [HB1.out] at he
                  subst he
                  have P5 := Lib.hid (blk_b0 P4.out hb)
                  have R5 := Lib.hid (blk_b0 R4.out hb)
                  have X5 := Lib.hid (blk_b0 X4.out hb)
                  have Y5 := Lib.hid (blk_b0 Y4.out hb)
                  have L5 := Lib.hid (blk_b0 L4.out hb)
                  have H5 := Lib.hid (blk_b0 H4.out hb)
                  have hB5 := bel0 hB4 hb
                  have zP5 := P5.out.lt
                  have zR5 := R5.out.lt
                  have zX5 := X5.out.lt
                  have zY5 := Y5.out.lt
                  have zL5 := L5.out.lt
                  have zH5 := H5.out.lt
                  obtain ⟨cP5, dP5, fP5, hP5⟩ := P5.out.two
                  obtain ⟨cR5, dR5, fR5, hR5⟩ := R5.out.two
                  obtain ⟨cX5, dX5, fX5, hX5⟩ := X5.out.two
                  obtain ⟨cY5, dY5, fY5, hY5⟩ := Y5.out.two
                  obtain ⟨cL5, dL5, fL5, hL5⟩ := L5.out.two
                  obtain ⟨cH5, dH5, fH5, hH5⟩ := H5.out.two
                  clear hb
                  clear cP4 dP4 fP4 hP4 cR4 dR4 fR4 hR4 cX4 dX4 fX4 hX4 cY4 dY4 fY4 hY4 cL4 dL4 fL4 hL4 cH4 dH4 fH4 hH4
                  go_wp2_with fail
                  refine (c_specFracLess xn yd rn rd _).mono ?_
                  rintro e w6 ⟨he, hb⟩
                  rw [HB2.out] at he
                  subst he
                  have P6 := Lib.hid (blk_b0 P5.out hb)
                  have R6 := Lib.hid (blk_b0 R5.out hb)
                  have X6 := Lib.hid (blk_b0 X5.out hb)
                  have Y6 := Lib.hid (blk_b0 Y5.out hb)
                  have L6 := Lib.hid (blk_b0 L5.out hb)
                  have H6 := Lib.hid (blk_b0 H5.out hb)
                  have hB6 := bel0 hB5 hb
                  have zP6 := P6.out.lt
                  have zR6 := R6.out.lt
                  have zX6 := X6.out.lt
                  have zY6 := Y6.out.lt
                  have zL6 := L6.out.lt
                  have zH6 := H6.out.lt
                  obtain ⟨cP6, dP6, fP6, hP6⟩ := P6.out.two
                  obtain ⟨cR6, dR6, fR6, hR6⟩ := R6.out.two
                  obtain ⟨cX6, dX6, fX6, hX6⟩ := X6.out.two
                  obtain ⟨cY6, dY6, fY6, hY6⟩ := Y6.out.two
                  clear hb
                  clear cP5 dP5 fP5 hP5 cR5 dR5 fR5 hR5 cX5 dX5 fX5 hX5 cY5 dY5 fY5 hY5 cL5 dL5 fL5 hL5 cH5 dH5 fH5 hH5
                  obtain ⟨⟨xa1, xa2, xa3, xa4⟩, ⟨xb1, xb2, xb3, xb4⟩, ⟨r1, r2, r3, r4⟩⟩ := HXB.out
                  have q1 := sm (a := rn) (b := yd) (A := 1000000000) (B := 1000) (by omega) (by omega) (by omega) (by omega)
                  have q2 := sm (a := xn) (b := rd) (A := 1000) (B := 1000000000) (by omega) (by omega) (by omega) (by omega)
                  have q3 := sm (a := rn * yd - xn * rd) (b := xd) (A := 2000000000000) (B := 1000) (by omega) (by omega) (by omega) (by omega)
                  have q4 := sm (a := xn) (b := yd) (A := 1000) (B := 1000) (by omega) (by omega) (by omega) (by omega)
                  have q5 := sm (a := xn) (b := xd) (A := 1000) (B := 1000) (by omega) (by omega) (by omega) (by omega)
                  have q6 := sm (a := rd) (b := xn * yd - xn * xd) (A := 1000000000) (B := 2000000) (by omega) (by omega) (by omega) (by omega)
                  go_wp2_with fail
                  refine (c_specFracOf _ _ _).mono ?_
                  rintro e w7 ⟨he, hb⟩
                  rw [HN.out, HD.out, HO.out] at he
                  subst he
                  have R7 := Lib.hid (blk_b0 R6.out hb)
                  have hB7 := bel0 hB6 hb
                  have zR7 := R7.out.lt
                  obtain ⟨cR7, dR7, fR7, hR7⟩ := R7.out.two
                  clear hb
                  clear cP6 dP6 fP6 hP6 cR6 dR6 fR6 hR6 cX6 dX6 fX6 hX6 cY6 dY6 fY6 hY6
                  go_wp2
                  refine bodyPost_ret (v := .tuple #[.agg #[.int .i64 N, .int .i64 D], .bool b]) (by simp [results, Try.results29, go_sem, *]) rfl (HFIN.out _ ?_)
                  go_grown
                · have g1 : (xn == yn) = false := by simpa using hxy
                  clear hne hbt
                  go_enter Try.func29, Try.ntmps29
                  go_wp2_with fail
                  refine (c_specWaterRatio _ _ _).mono ?_
                  intro e w1 hp
                  obtain ⟨rfl, hb⟩ := op_at HA.out HXN.out HXD.out HXO.out hp
                  clear hp
                  have K1 := Lib.hid (blk_n4_2 hb)
                  have P1 := Lib.hid (blk_n4_3 hb)
                  have R1 := Lib.hid (blk_n4_4 hb)
                  have hB1 := bel4 (Below.refl _ w) hb
                  have zK1 := K1.out.lt
                  have zP1 := P1.out.lt
                  have zR1 := R1.out.lt
                  obtain ⟨cK1, dK1, fK1, hK1⟩ := K1.out.two
                  clear hb
                  go_wp2_with fail
                  refine (c_specWaterRatio _ _ _).mono ?_
                  intro e w2 hp
                  obtain ⟨rfl, hb⟩ := op_at HB.out HYN.out HYD.out HYO.out hp
                  clear hp
                  have P2 := Lib.hid (blk_b1 P1.out hb)
                  have R2 := Lib.hid (blk_b1 R1.out hb)
                  have X2 := Lib.hid (blk_n1 hb)
                  have hB2 := bel1 hB1 hb
                  have zP2 := P2.out.lt
                  have zR2 := R2.out.lt
                  have zX2 := X2.out.lt
                  obtain ⟨cP2, dP2, fP2, hP2⟩ := P2.out.two
                  obtain ⟨cR2, dR2, fR2, hR2⟩ := R2.out.two
                  clear hb
                  clear cK1 dK1 fK1 hK1
                  go_wp2_with fail
                  refine (c_specFracValid _ _ _).mono ?_
                  rintro e w3 ⟨rfl, hb⟩
                  have P3 := Lib.hid (blk_b1 P2.out hb)
                  have R3 := Lib.hid (blk_b1 R2.out hb)
                  have X3 := Lib.hid (blk_b1 X2.out hb)
                  have Y3 := Lib.hid (blk_n1 hb)
                  have hB3 := bel1 hB2 hb
                  have zP3 := P3.out.lt
                  have zR3 := R3.out.lt
                  have zX3 := X3.out.lt
                  have zY3 := Y3.out.lt
                  obtain ⟨cP3, dP3, fP3, hP3⟩ := P3.out.two
                  obtain ⟨cR3, dR3, fR3, hR3⟩ := R3.out.two
                  obtain ⟨cX3, dX3, fX3, hX3⟩ := X3.out.two
                  obtain ⟨cY3, dY3, fY3, hY3⟩ := Y3.out.two
                  clear hb
                  clear cP2 dP2 fP2 hP2 cR2 dR2 fR2 hR2
                  go_wp2_with fail
                  refine (c_specFracLess yn yd xn xd _).mono ?_
                  rintro e w4 ⟨he, hb⟩
                  rw [HL.out] at he
                  subst he
                  have P4 := Lib.hid (blk_b2 P3.out hb)
                  have R4 := Lib.hid (blk_b2 R3.out hb)
                  have X4 := Lib.hid (blk_b2 X3.out hb)
                  have Y4 := Lib.hid (blk_b2 Y3.out hb)
                  have L4 := Lib.hid (blk_n2 hb)
                  have H4 := Lib.hid (blk_n2' hb)
                  have hB4 := bel2 hB3 hb
                  have zP4 := P4.out.lt
                  have zR4 := R4.out.lt
                  have zX4 := X4.out.lt
                  have zY4 := Y4.out.lt
                  have zL4 := L4.out.lt
                  have zH4 := H4.out.lt
                  obtain ⟨cP4, dP4, fP4, hP4⟩ := P4.out.two
                  obtain ⟨cR4, dR4, fR4, hR4⟩ := R4.out.two
                  obtain ⟨cX4, dX4, fX4, hX4⟩ := X4.out.two
                  obtain ⟨cY4, dY4, fY4, hY4⟩ := Y4.out.two
                  obtain ⟨cL4, dL4, fL4, hL4⟩ := L4.out.two
                  obtain ⟨cH4, dH4, fH4, hH4⟩ := H4.out.two
                  clear hb
                  clear cP3 dP3 fP3 hP3 cR3 dR3 fR3 hR3 cX3 dX3 fX3 hX3 cY3 dY3 fY3 hY3
                  go_wp2_with fail
                  refine (c_specFracLess rn rd xn xd _).mono ?_
                  rintro e w5 ⟨he, hb⟩
                  rw [HB1.out] at he
                  subst he
                  have P5 := Lib.hid (blk_b0 P4.out hb)
                  have R5 := Lib.hid (blk_b0 R4.out hb)
                  have X5 := Lib.hid (blk_b0 X4.out hb)
                  have Y5 := Lib.hid (blk_b0 Y4.out hb)
                  have L5 := Lib.hid (blk_b0 L4.out hb)
                  have H5 := Lib.hid (blk_b0 H4.out hb)
                  have hB5 := bel0 hB4 hb
                  have zP5 := P5.out.lt
                  have zR5 := R5.out.lt
                  have zX5 := X5.out.lt
                  have zY5 := Y5.out.lt
                  have zL5 := L5.out.lt
                  have zH5 := H5.out.lt
                  obtain ⟨cP5, dP5, fP5, hP5⟩ := P5.out.two
                  obtain ⟨cR5, dR5, fR5, hR5⟩ := R5.out.two
                  obtain ⟨cX5, dX5, fX5, hX5⟩ := X5.out.two
                  obtain ⟨cY5, dY5, fY5, hY5⟩ := Y5.out.two
                  obtain ⟨cL5, dL5, fL5, hL5⟩ := L5.out.two
                  obtain ⟨cH5, dH5, fH5, hH5⟩ := H5.out.two
                  clear hb
                  clear cP4 dP4 fP4 hP4 cR4 dR4 fR4 hR4 cX4 dX4 fX4 hX4 cY4 dY4 fY4 hY4 cL4 dL4 fL4 hL4 cH4 dH4 fH4 hH4
                  go_wp2_with fail
                  refine (c_specFracLess yn yd rn rd _).mono ?_
                  rintro e w6 ⟨he, hb⟩
                  rw [HB2.out] at he
                  subst he
                  have P6 := Lib.hid (blk_b0 P5.out hb)
                  have R6 := Lib.hid (blk_b0 R5.out hb)
                  have X6 := Lib.hid (blk_b0 X5.out hb)
                  have Y6 := Lib.hid (blk_b0 Y5.out hb)
                  have L6 := Lib.hid (blk_b0 L5.out hb)
                  have H6 := Lib.hid (blk_b0 H5.out hb)
                  have hB6 := bel0 hB5 hb
                  have zP6 := P6.out.lt
                  have zR6 := R6.out.lt
                  have zX6 := X6.out.lt
                  have zY6 := Y6.out.lt
                  have zL6 := L6.out.lt
                  have zH6 := H6.out.lt
                  obtain ⟨cP6, dP6, fP6, hP6⟩ := P6.out.two
                  obtain ⟨cR6, dR6, fR6, hR6⟩ := R6.out.two
                  obtain ⟨cX6, dX6, fX6, hX6⟩ := X6.out.two
                  obtain ⟨cY6, dY6, fY6, hY6⟩ := Y6.out.two
                  clear hb
                  clear cP5 dP5 fP5 hP5 cR5 dR5 fR5 hR5 cX5 dX5 fX5 hX5 cY5 dY5 fY5 hY5 cL5 dL5 fL5 hL5 cH5 dH5 fH5 hH5
                  obtain ⟨⟨xa1, xa2, xa3, xa4⟩, ⟨xb1, xb2, xb3, xb4⟩, ⟨r1, r2, r3, r4⟩⟩ := HXB.out
                  have q1 := sm (a := rn) (b := yd) (A := 1000000000) (B := 1000) (by omega) (by omega) (by omega) (by omega)
                  have q2 := sm (a := yn) (b := rd) (A := 1000) (B := 1000000000) (by omega) (by omega) (by omega) (by omega)
                  have q3 := sm (a := rn * yd - yn * rd) (b := xd) (A := 2000000000000) (B := 1000) (by omega) (by omega) (by omega) (by omega)
                  have q4 := sm (a := xn) (b := yd) (A := 1000) (B := 1000) (by omega) (by omega) (by omega) (by omega)
                  have q5 := sm (a := yn) (b := xd) (A := 1000) (B := 1000) (by omega) (by omega) (by omega) (by omega)
                  have q6 := sm (a := rd) (b := xn * yd - yn * xd) (A := 1000000000) (B := 2000000) (by omega) (by omega) (by omega) (by omega)
                  go_wp2_with fail
                  refine (c_specFracOf _ _ _).mono ?_
                  rintro e w7 ⟨he, hb⟩
                  rw [HN.out, HD.out, HO.out] at he
                  subst he
                  have R7 := Lib.hid (blk_b0 R6.out hb)
                  have hB7 := bel0 hB6 hb
                  have zR7 := R7.out.lt
                  obtain ⟨cR7, dR7, fR7, hR7⟩ := R7.out.two
                  clear hb
                  clear cP6 dP6 fP6 hP6 cR6 dR6 fR6 hR6 cX6 dX6 fX6 hX6 cY6 dY6 fY6 hY6
                  go_wp2
                  refine bodyPost_ret (v := .tuple #[.agg #[.int .i64 N, .int .i64 D], .bool b]) (by simp [results, Try.results29, go_sem, *]) rfl (HFIN.out _ ?_)
                  go_grown
          · have HL := Lib.hid (show lessF yn yd xn xd = true by rw [S2.out]; simp; omega)
            have HS := Lib.hid (S4.out hlt)
            clear hlt
            rcases Bool.eq_false_or_eq_true (lessF rn rd yn yd) with hb1 | hb1
            · have HB1 := Lib.hid hb1
              have HK := Lib.hid (show vS aA aH bA bH rn rd = false by
                rcases Bool.eq_false_or_eq_true (okF (shX aA bA bH rn rd) (shY aA aH bA bH rd)) with ho | ho
                · simp [vS, HS.out ho, hb1]
                · simp [vS, ho])
              clear hb1
              by_cases hxy : xn = yn
              · subst hxy
                have g1 : (xd == yd) = false := by simpa using hne
                clear hne hbt
                go_enter Try.func29, Try.ntmps29
                go_wp2_with fail
                refine (c_specWaterRatio _ _ _).mono ?_
                intro e w1 hp
                obtain ⟨rfl, hb⟩ := op_at HA.out HXN.out HXD.out HXO.out hp
                clear hp
                have K1 := Lib.hid (blk_n4_2 hb)
                have P1 := Lib.hid (blk_n4_3 hb)
                have R1 := Lib.hid (blk_n4_4 hb)
                have hB1 := bel4 (Below.refl _ w) hb
                have zK1 := K1.out.lt
                have zP1 := P1.out.lt
                have zR1 := R1.out.lt
                obtain ⟨cK1, dK1, fK1, hK1⟩ := K1.out.two
                clear hb
                go_wp2_with fail
                refine (c_specWaterRatio _ _ _).mono ?_
                intro e w2 hp
                obtain ⟨rfl, hb⟩ := op_at HB.out HYN.out HYD.out HYO.out hp
                clear hp
                have P2 := Lib.hid (blk_b1 P1.out hb)
                have R2 := Lib.hid (blk_b1 R1.out hb)
                have X2 := Lib.hid (blk_n1 hb)
                have hB2 := bel1 hB1 hb
                have zP2 := P2.out.lt
                have zR2 := R2.out.lt
                have zX2 := X2.out.lt
                obtain ⟨cP2, dP2, fP2, hP2⟩ := P2.out.two
                obtain ⟨cR2, dR2, fR2, hR2⟩ := R2.out.two
                clear hb
                clear cK1 dK1 fK1 hK1
                go_wp2_with fail
                refine (c_specFracValid _ _ _).mono ?_
                rintro e w3 ⟨rfl, hb⟩
                have P3 := Lib.hid (blk_b1 P2.out hb)
                have R3 := Lib.hid (blk_b1 R2.out hb)
                have X3 := Lib.hid (blk_b1 X2.out hb)
                have Y3 := Lib.hid (blk_n1 hb)
                have hB3 := bel1 hB2 hb
                have zP3 := P3.out.lt
                have zR3 := R3.out.lt
                have zX3 := X3.out.lt
                have zY3 := Y3.out.lt
                obtain ⟨cP3, dP3, fP3, hP3⟩ := P3.out.two
                obtain ⟨cR3, dR3, fR3, hR3⟩ := R3.out.two
                obtain ⟨cX3, dX3, fX3, hX3⟩ := X3.out.two
                obtain ⟨cY3, dY3, fY3, hY3⟩ := Y3.out.two
                clear hb
                clear cP2 dP2 fP2 hP2 cR2 dR2 fR2 hR2
                go_wp2_with fail
                refine (c_specFracLess xn yd xn xd _).mono ?_
                rintro e w4 ⟨he, hb⟩
                rw [HL.out] at he
                subst he
                have P4 := Lib.hid (blk_b2 P3.out hb)
                have R4 := Lib.hid (blk_b2 R3.out hb)
                have X4 := Lib.hid (blk_b2 X3.out hb)
                have Y4 := Lib.hid (blk_b2 Y3.out hb)
                have L4 := Lib.hid (blk_n2 hb)
                have H4 := Lib.hid (blk_n2' hb)
                have hB4 := bel2 hB3 hb
                have zP4 := P4.out.lt
                have zR4 := R4.out.lt
                have zX4 := X4.out.lt
                have zY4 := Y4.out.lt
                have zL4 := L4.out.lt
                have zH4 := H4.out.lt
                obtain ⟨cP4, dP4, fP4, hP4⟩ := P4.out.two
                obtain ⟨cR4, dR4, fR4, hR4⟩ := R4.out.two
                obtain ⟨cX4, dX4, fX4, hX4⟩ := X4.out.two
                obtain ⟨cY4, dY4, fY4, hY4⟩ := Y4.out.two
                obtain ⟨cL4, dL4, fL4, hL4⟩ := L4.out.two
                obtain ⟨cH4, dH4, fH4, hH4⟩ := H4.out.two
                clear hb
                clear cP3 dP3 fP3 hP3 cR3 dR3 fR3 hR3 cX3 dX3 fX3 hX3 cY3 dY3 fY3 hY3
                go_wp2_with fail
                refine (c_specFracLess rn rd xn yd _).mono ?_
                rintro e w5 ⟨he, hb⟩
                rw [HB1.out] at he
                subst he
                have P5 := Lib.hid (blk_b0 (blk_off2 (blk_off2 P4.out (by omega) _ _) (by omega) _ _) hb)
                have R5 := Lib.hid (blk_b0 (blk_off2 (blk_off2 R4.out (by omega) _ _) (by omega) _ _) hb)
                have X5 := Lib.hid (blk_b0 (blk_off2 (blk_off2 X4.out (by omega) _ _) (by omega) _ _) hb)
                have Y5 := Lib.hid (blk_b0 (blk_off2 (blk_off2 Y4.out (by omega) _ _) (by omega) _ _) hb)
                have L5 := Lib.hid (blk_b0 (blk_off2 (blk_set2 L4.out _ _) (by omega) _ _) hb)
                have H5 := Lib.hid (blk_b0 (blk_set2 (blk_off2 H4.out (by omega) _ _) _ _) hb)
                have hB5 := bel0 (bel_set2 (bel_set2 hB4 (by omega) _ _) (by omega) _ _) hb
                have zP5 := P5.out.lt
                have zR5 := R5.out.lt
                have zX5 := X5.out.lt
                have zY5 := Y5.out.lt
                have zL5 := L5.out.lt
                have zH5 := H5.out.lt
                obtain ⟨cP5, dP5, fP5, hP5⟩ := P5.out.two
                obtain ⟨cR5, dR5, fR5, hR5⟩ := R5.out.two
                obtain ⟨cX5, dX5, fX5, hX5⟩ := X5.out.two
                obtain ⟨cY5, dY5, fY5, hY5⟩ := Y5.out.two
                obtain ⟨cL5, dL5, fL5, hL5⟩ := L5.out.two
                obtain ⟨cH5, dH5, fH5, hH5⟩ := H5.out.two
                clear hb
                clear cP4 dP4 fP4 hP4 cR4 dR4 fR4 hR4 cX4 dX4 fX4 hX4 cY4 dY4 fY4 hY4 cL4 dL4 fL4 hL4 cH4 dH4 fH4 hH4
                go_wp2
                refine bodyPost_ret (v := .tuple #[.agg #[.int .i64 0, .int .i64 0], .bool false]) (by simp [results, Try.results29, go_sem, *]) rfl (sh_no HK.out ?_)
                go_grown
              · have g1 : (xn == yn) = false := by simpa using hxy
                clear hne hbt
                go_enter Try.func29, Try.ntmps29
                go_wp2_with fail
                refine (c_specWaterRatio _ _ _).mono ?_
                intro e w1 hp
                obtain ⟨rfl, hb⟩ := op_at HA.out HXN.out HXD.out HXO.out hp
                clear hp
                have K1 := Lib.hid (blk_n4_2 hb)
                have P1 := Lib.hid (blk_n4_3 hb)
                have R1 := Lib.hid (blk_n4_4 hb)
                have hB1 := bel4 (Below.refl _ w) hb
                have zK1 := K1.out.lt
                have zP1 := P1.out.lt
                have zR1 := R1.out.lt
                obtain ⟨cK1, dK1, fK1, hK1⟩ := K1.out.two
                clear hb
                go_wp2_with fail
                refine (c_specWaterRatio _ _ _).mono ?_
                intro e w2 hp
                obtain ⟨rfl, hb⟩ := op_at HB.out HYN.out HYD.out HYO.out hp
                clear hp
                have P2 := Lib.hid (blk_b1 P1.out hb)
                have R2 := Lib.hid (blk_b1 R1.out hb)
                have X2 := Lib.hid (blk_n1 hb)
                have hB2 := bel1 hB1 hb
                have zP2 := P2.out.lt
                have zR2 := R2.out.lt
                have zX2 := X2.out.lt
                obtain ⟨cP2, dP2, fP2, hP2⟩ := P2.out.two
                obtain ⟨cR2, dR2, fR2, hR2⟩ := R2.out.two
                clear hb
                clear cK1 dK1 fK1 hK1
                go_wp2_with fail
                refine (c_specFracValid _ _ _).mono ?_
                rintro e w3 ⟨rfl, hb⟩
                have P3 := Lib.hid (blk_b1 P2.out hb)
                have R3 := Lib.hid (blk_b1 R2.out hb)
                have X3 := Lib.hid (blk_b1 X2.out hb)
                have Y3 := Lib.hid (blk_n1 hb)
                have hB3 := bel1 hB2 hb
                have zP3 := P3.out.lt
                have zR3 := R3.out.lt
                have zX3 := X3.out.lt
                have zY3 := Y3.out.lt
                obtain ⟨cP3, dP3, fP3, hP3⟩ := P3.out.two
                obtain ⟨cR3, dR3, fR3, hR3⟩ := R3.out.two
                obtain ⟨cX3, dX3, fX3, hX3⟩ := X3.out.two
                obtain ⟨cY3, dY3, fY3, hY3⟩ := Y3.out.two
                clear hb
                clear cP2 dP2 fP2 hP2 cR2 dR2 fR2 hR2
                go_wp2_with fail
                refine (c_specFracLess yn yd xn xd _).mono ?_
                rintro e w4 ⟨he, hb⟩
                rw [HL.out] at he
                subst he
                have P4 := Lib.hid (blk_b2 P3.out hb)
                have R4 := Lib.hid (blk_b2 R3.out hb)
                have X4 := Lib.hid (blk_b2 X3.out hb)
                have Y4 := Lib.hid (blk_b2 Y3.out hb)
                have L4 := Lib.hid (blk_n2 hb)
                have H4 := Lib.hid (blk_n2' hb)
                have hB4 := bel2 hB3 hb
                have zP4 := P4.out.lt
                have zR4 := R4.out.lt
                have zX4 := X4.out.lt
                have zY4 := Y4.out.lt
                have zL4 := L4.out.lt
                have zH4 := H4.out.lt
                obtain ⟨cP4, dP4, fP4, hP4⟩ := P4.out.two
                obtain ⟨cR4, dR4, fR4, hR4⟩ := R4.out.two
                obtain ⟨cX4, dX4, fX4, hX4⟩ := X4.out.two
                obtain ⟨cY4, dY4, fY4, hY4⟩ := Y4.out.two
                obtain ⟨cL4, dL4, fL4, hL4⟩ := L4.out.two
                obtain ⟨cH4, dH4, fH4, hH4⟩ := H4.out.two
                clear hb
                clear cP3 dP3 fP3 hP3 cR3 dR3 fR3 hR3 cX3 dX3 fX3 hX3 cY3 dY3 fY3 hY3
                go_wp2_with fail
                refine (c_specFracLess rn rd yn yd _).mono ?_
                rintro e w5 ⟨he, hb⟩
                rw [HB1.out] at he
                subst he
                have P5 := Lib.hid (blk_b0 (blk_off2 (blk_off2 P4.out (by omega) _ _) (by omega) _ _) hb)
                have R5 := Lib.hid (blk_b0 (blk_off2 (blk_off2 R4.out (by omega) _ _) (by omega) _ _) hb)
                have X5 := Lib.hid (blk_b0 (blk_off2 (blk_off2 X4.out (by omega) _ _) (by omega) _ _) hb)
                have Y5 := Lib.hid (blk_b0 (blk_off2 (blk_off2 Y4.out (by omega) _ _) (by omega) _ _) hb)
                have L5 := Lib.hid (blk_b0 (blk_off2 (blk_set2 L4.out _ _) (by omega) _ _) hb)
                have H5 := Lib.hid (blk_b0 (blk_set2 (blk_off2 H4.out (by omega) _ _) _ _) hb)
                have hB5 := bel0 (bel_set2 (bel_set2 hB4 (by omega) _ _) (by omega) _ _) hb
                have zP5 := P5.out.lt
                have zR5 := R5.out.lt
                have zX5 := X5.out.lt
                have zY5 := Y5.out.lt
                have zL5 := L5.out.lt
                have zH5 := H5.out.lt
                obtain ⟨cP5, dP5, fP5, hP5⟩ := P5.out.two
                obtain ⟨cR5, dR5, fR5, hR5⟩ := R5.out.two
                obtain ⟨cX5, dX5, fX5, hX5⟩ := X5.out.two
                obtain ⟨cY5, dY5, fY5, hY5⟩ := Y5.out.two
                obtain ⟨cL5, dL5, fL5, hL5⟩ := L5.out.two
                obtain ⟨cH5, dH5, fH5, hH5⟩ := H5.out.two
                clear hb
                clear cP4 dP4 fP4 hP4 cR4 dR4 fR4 hR4 cX4 dX4 fX4 hX4 cY4 dY4 fY4 hY4 cL4 dL4 fL4 hL4 cH4 dH4 fH4 hH4
                go_wp2
                refine bodyPost_ret (v := .tuple #[.agg #[.int .i64 0, .int .i64 0], .bool false]) (by simp [results, Try.results29, go_sem, *]) rfl (sh_no HK.out ?_)
                go_grown
            · have HB1 := Lib.hid hb1
              rcases Bool.eq_false_or_eq_true (lessF xn xd rn rd) with hb2 | hb2
              · have HB2 := Lib.hid hb2
                have HK := Lib.hid (show vS aA aH bA bH rn rd = false by
                  rcases Bool.eq_false_or_eq_true (okF (shX aA bA bH rn rd) (shY aA aH bA bH rd)) with ho | ho
                  · simp [vS, HS.out ho, hb2]
                  · simp [vS, ho])
                clear hb1 hb2
                by_cases hxy : xn = yn
                · subst hxy
                  have g1 : (xd == yd) = false := by simpa using hne
                  clear hne hbt
                  go_enter Try.func29, Try.ntmps29
                  go_wp2_with fail
                  refine (c_specWaterRatio _ _ _).mono ?_
                  intro e w1 hp
                  obtain ⟨rfl, hb⟩ := op_at HA.out HXN.out HXD.out HXO.out hp
                  clear hp
                  have K1 := Lib.hid (blk_n4_2 hb)
                  have P1 := Lib.hid (blk_n4_3 hb)
                  have R1 := Lib.hid (blk_n4_4 hb)
                  have hB1 := bel4 (Below.refl _ w) hb
                  have zK1 := K1.out.lt
                  have zP1 := P1.out.lt
                  have zR1 := R1.out.lt
                  obtain ⟨cK1, dK1, fK1, hK1⟩ := K1.out.two
                  clear hb
                  go_wp2_with fail
                  refine (c_specWaterRatio _ _ _).mono ?_
                  intro e w2 hp
                  obtain ⟨rfl, hb⟩ := op_at HB.out HYN.out HYD.out HYO.out hp
                  clear hp
                  have P2 := Lib.hid (blk_b1 P1.out hb)
                  have R2 := Lib.hid (blk_b1 R1.out hb)
                  have X2 := Lib.hid (blk_n1 hb)
                  have hB2 := bel1 hB1 hb
                  have zP2 := P2.out.lt
                  have zR2 := R2.out.lt
                  have zX2 := X2.out.lt
                  obtain ⟨cP2, dP2, fP2, hP2⟩ := P2.out.two
                  obtain ⟨cR2, dR2, fR2, hR2⟩ := R2.out.two
                  clear hb
                  clear cK1 dK1 fK1 hK1
                  go_wp2_with fail
                  refine (c_specFracValid _ _ _).mono ?_
                  rintro e w3 ⟨rfl, hb⟩
                  have P3 := Lib.hid (blk_b1 P2.out hb)
                  have R3 := Lib.hid (blk_b1 R2.out hb)
                  have X3 := Lib.hid (blk_b1 X2.out hb)
                  have Y3 := Lib.hid (blk_n1 hb)
                  have hB3 := bel1 hB2 hb
                  have zP3 := P3.out.lt
                  have zR3 := R3.out.lt
                  have zX3 := X3.out.lt
                  have zY3 := Y3.out.lt
                  obtain ⟨cP3, dP3, fP3, hP3⟩ := P3.out.two
                  obtain ⟨cR3, dR3, fR3, hR3⟩ := R3.out.two
                  obtain ⟨cX3, dX3, fX3, hX3⟩ := X3.out.two
                  obtain ⟨cY3, dY3, fY3, hY3⟩ := Y3.out.two
                  clear hb
                  clear cP2 dP2 fP2 hP2 cR2 dR2 fR2 hR2
                  go_wp2_with fail
                  refine (c_specFracLess xn yd xn xd _).mono ?_
                  rintro e w4 ⟨he, hb⟩
                  rw [HL.out] at he
                  subst he
                  have P4 := Lib.hid (blk_b2 P3.out hb)
                  have R4 := Lib.hid (blk_b2 R3.out hb)
                  have X4 := Lib.hid (blk_b2 X3.out hb)
                  have Y4 := Lib.hid (blk_b2 Y3.out hb)
                  have L4 := Lib.hid (blk_n2 hb)
                  have H4 := Lib.hid (blk_n2' hb)
                  have hB4 := bel2 hB3 hb
                  have zP4 := P4.out.lt
                  have zR4 := R4.out.lt
                  have zX4 := X4.out.lt
                  have zY4 := Y4.out.lt
                  have zL4 := L4.out.lt
                  have zH4 := H4.out.lt
                  obtain ⟨cP4, dP4, fP4, hP4⟩ := P4.out.two
                  obtain ⟨cR4, dR4, fR4, hR4⟩ := R4.out.two
                  obtain ⟨cX4, dX4, fX4, hX4⟩ := X4.out.two
                  obtain ⟨cY4, dY4, fY4, hY4⟩ := Y4.out.two
                  obtain ⟨cL4, dL4, fL4, hL4⟩ := L4.out.two
                  obtain ⟨cH4, dH4, fH4, hH4⟩ := H4.out.two
                  clear hb
                  clear cP3 dP3 fP3 hP3 cR3 dR3 fR3 hR3 cX3 dX3 fX3 hX3 cY3 dY3 fY3 hY3
                  go_wp2_with fail
                  refine (c_specFracLess rn rd xn yd _).mono ?_
                  rintro e w5 ⟨he, hb⟩
                  rw [HB1.out] at he
                  subst he
                  have P5 := Lib.hid (blk_b0 (blk_off2 (blk_off2 P4.out (by omega) _ _) (by omega) _ _) hb)
                  have R5 := Lib.hid (blk_b0 (blk_off2 (blk_off2 R4.out (by omega) _ _) (by omega) _ _) hb)
                  have X5 := Lib.hid (blk_b0 (blk_off2 (blk_off2 X4.out (by omega) _ _) (by omega) _ _) hb)
                  have Y5 := Lib.hid (blk_b0 (blk_off2 (blk_off2 Y4.out (by omega) _ _) (by omega) _ _) hb)
                  have L5 := Lib.hid (blk_b0 (blk_off2 (blk_set2 L4.out _ _) (by omega) _ _) hb)
                  have H5 := Lib.hid (blk_b0 (blk_set2 (blk_off2 H4.out (by omega) _ _) _ _) hb)
                  have hB5 := bel0 (bel_set2 (bel_set2 hB4 (by omega) _ _) (by omega) _ _) hb
                  have zP5 := P5.out.lt
                  have zR5 := R5.out.lt
                  have zX5 := X5.out.lt
                  have zY5 := Y5.out.lt
                  have zL5 := L5.out.lt
                  have zH5 := H5.out.lt
                  obtain ⟨cP5, dP5, fP5, hP5⟩ := P5.out.two
                  obtain ⟨cR5, dR5, fR5, hR5⟩ := R5.out.two
                  obtain ⟨cX5, dX5, fX5, hX5⟩ := X5.out.two
                  obtain ⟨cY5, dY5, fY5, hY5⟩ := Y5.out.two
                  obtain ⟨cL5, dL5, fL5, hL5⟩ := L5.out.two
                  obtain ⟨cH5, dH5, fH5, hH5⟩ := H5.out.two
                  clear hb
                  clear cP4 dP4 fP4 hP4 cR4 dR4 fR4 hR4 cX4 dX4 fX4 hX4 cY4 dY4 fY4 hY4 cL4 dL4 fL4 hL4 cH4 dH4 fH4 hH4
                  go_wp2_with fail
                  refine (c_specFracLess xn xd rn rd _).mono ?_
                  rintro e w6 ⟨he, hb⟩
                  rw [HB2.out] at he
                  subst he
                  have P6 := Lib.hid (blk_b0 P5.out hb)
                  have R6 := Lib.hid (blk_b0 R5.out hb)
                  have X6 := Lib.hid (blk_b0 X5.out hb)
                  have Y6 := Lib.hid (blk_b0 Y5.out hb)
                  have L6 := Lib.hid (blk_b0 L5.out hb)
                  have H6 := Lib.hid (blk_b0 H5.out hb)
                  have hB6 := bel0 hB5 hb
                  have zP6 := P6.out.lt
                  have zR6 := R6.out.lt
                  have zX6 := X6.out.lt
                  have zY6 := Y6.out.lt
                  have zL6 := L6.out.lt
                  have zH6 := H6.out.lt
                  obtain ⟨cP6, dP6, fP6, hP6⟩ := P6.out.two
                  obtain ⟨cR6, dR6, fR6, hR6⟩ := R6.out.two
                  obtain ⟨cX6, dX6, fX6, hX6⟩ := X6.out.two
                  obtain ⟨cY6, dY6, fY6, hY6⟩ := Y6.out.two
                  clear hb
                  clear cP5 dP5 fP5 hP5 cR5 dR5 fR5 hR5 cX5 dX5 fX5 hX5 cY5 dY5 fY5 hY5 cL5 dL5 fL5 hL5 cH5 dH5 fH5 hH5
                  go_wp2
                  refine bodyPost_ret (v := .tuple #[.agg #[.int .i64 0, .int .i64 0], .bool false]) (by simp [results, Try.results29, go_sem, *]) rfl (sh_no HK.out ?_)
                  go_grown
                · have g1 : (xn == yn) = false := by simpa using hxy
                  clear hne hbt
                  go_enter Try.func29, Try.ntmps29
                  go_wp2_with fail
                  refine (c_specWaterRatio _ _ _).mono ?_
                  intro e w1 hp
                  obtain ⟨rfl, hb⟩ := op_at HA.out HXN.out HXD.out HXO.out hp
                  clear hp
                  have K1 := Lib.hid (blk_n4_2 hb)
                  have P1 := Lib.hid (blk_n4_3 hb)
                  have R1 := Lib.hid (blk_n4_4 hb)
                  have hB1 := bel4 (Below.refl _ w) hb
                  have zK1 := K1.out.lt
                  have zP1 := P1.out.lt
                  have zR1 := R1.out.lt
                  obtain ⟨cK1, dK1, fK1, hK1⟩ := K1.out.two
                  clear hb
                  go_wp2_with fail
                  refine (c_specWaterRatio _ _ _).mono ?_
                  intro e w2 hp
                  obtain ⟨rfl, hb⟩ := op_at HB.out HYN.out HYD.out HYO.out hp
                  clear hp
                  have P2 := Lib.hid (blk_b1 P1.out hb)
                  have R2 := Lib.hid (blk_b1 R1.out hb)
                  have X2 := Lib.hid (blk_n1 hb)
                  have hB2 := bel1 hB1 hb
                  have zP2 := P2.out.lt
                  have zR2 := R2.out.lt
                  have zX2 := X2.out.lt
                  obtain ⟨cP2, dP2, fP2, hP2⟩ := P2.out.two
                  obtain ⟨cR2, dR2, fR2, hR2⟩ := R2.out.two
                  clear hb
                  clear cK1 dK1 fK1 hK1
                  go_wp2_with fail
                  refine (c_specFracValid _ _ _).mono ?_
                  rintro e w3 ⟨rfl, hb⟩
                  have P3 := Lib.hid (blk_b1 P2.out hb)
                  have R3 := Lib.hid (blk_b1 R2.out hb)
                  have X3 := Lib.hid (blk_b1 X2.out hb)
                  have Y3 := Lib.hid (blk_n1 hb)
                  have hB3 := bel1 hB2 hb
                  have zP3 := P3.out.lt
                  have zR3 := R3.out.lt
                  have zX3 := X3.out.lt
                  have zY3 := Y3.out.lt
                  obtain ⟨cP3, dP3, fP3, hP3⟩ := P3.out.two
                  obtain ⟨cR3, dR3, fR3, hR3⟩ := R3.out.two
                  obtain ⟨cX3, dX3, fX3, hX3⟩ := X3.out.two
                  obtain ⟨cY3, dY3, fY3, hY3⟩ := Y3.out.two
                  clear hb
                  clear cP2 dP2 fP2 hP2 cR2 dR2 fR2 hR2
                  go_wp2_with fail
                  refine (c_specFracLess yn yd xn xd _).mono ?_
                  rintro e w4 ⟨he, hb⟩
                  rw [HL.out] at he
                  subst he
                  have P4 := Lib.hid (blk_b2 P3.out hb)
                  have R4 := Lib.hid (blk_b2 R3.out hb)
                  have X4 := Lib.hid (blk_b2 X3.out hb)
                  have Y4 := Lib.hid (blk_b2 Y3.out hb)
                  have L4 := Lib.hid (blk_n2 hb)
                  have H4 := Lib.hid (blk_n2' hb)
                  have hB4 := bel2 hB3 hb
                  have zP4 := P4.out.lt
                  have zR4 := R4.out.lt
                  have zX4 := X4.out.lt
                  have zY4 := Y4.out.lt
                  have zL4 := L4.out.lt
                  have zH4 := H4.out.lt
                  obtain ⟨cP4, dP4, fP4, hP4⟩ := P4.out.two
                  obtain ⟨cR4, dR4, fR4, hR4⟩ := R4.out.two
                  obtain ⟨cX4, dX4, fX4, hX4⟩ := X4.out.two
                  obtain ⟨cY4, dY4, fY4, hY4⟩ := Y4.out.two
                  obtain ⟨cL4, dL4, fL4, hL4⟩ := L4.out.two
                  obtain ⟨cH4, dH4, fH4, hH4⟩ := H4.out.two
                  clear hb
                  clear cP3 dP3 fP3 hP3 cR3 dR3 fR3 hR3 cX3 dX3 fX3 hX3 cY3 dY3 fY3 hY3
                  go_wp2_with fail
                  refine (c_specFracLess rn rd yn yd _).mono ?_
                  rintro e w5 ⟨he, hb⟩
                  rw [HB1.out] at he
                  subst he
                  have P5 := Lib.hid (blk_b0 (blk_off2 (blk_off2 P4.out (by omega) _ _) (by omega) _ _) hb)
                  have R5 := Lib.hid (blk_b0 (blk_off2 (blk_off2 R4.out (by omega) _ _) (by omega) _ _) hb)
                  have X5 := Lib.hid (blk_b0 (blk_off2 (blk_off2 X4.out (by omega) _ _) (by omega) _ _) hb)
                  have Y5 := Lib.hid (blk_b0 (blk_off2 (blk_off2 Y4.out (by omega) _ _) (by omega) _ _) hb)
                  have L5 := Lib.hid (blk_b0 (blk_off2 (blk_set2 L4.out _ _) (by omega) _ _) hb)
                  have H5 := Lib.hid (blk_b0 (blk_set2 (blk_off2 H4.out (by omega) _ _) _ _) hb)
                  have hB5 := bel0 (bel_set2 (bel_set2 hB4 (by omega) _ _) (by omega) _ _) hb
                  have zP5 := P5.out.lt
                  have zR5 := R5.out.lt
                  have zX5 := X5.out.lt
                  have zY5 := Y5.out.lt
                  have zL5 := L5.out.lt
                  have zH5 := H5.out.lt
                  obtain ⟨cP5, dP5, fP5, hP5⟩ := P5.out.two
                  obtain ⟨cR5, dR5, fR5, hR5⟩ := R5.out.two
                  obtain ⟨cX5, dX5, fX5, hX5⟩ := X5.out.two
                  obtain ⟨cY5, dY5, fY5, hY5⟩ := Y5.out.two
                  obtain ⟨cL5, dL5, fL5, hL5⟩ := L5.out.two
                  obtain ⟨cH5, dH5, fH5, hH5⟩ := H5.out.two
                  clear hb
                  clear cP4 dP4 fP4 hP4 cR4 dR4 fR4 hR4 cX4 dX4 fX4 hX4 cY4 dY4 fY4 hY4 cL4 dL4 fL4 hL4 cH4 dH4 fH4 hH4
                  go_wp2_with fail
                  refine (c_specFracLess xn xd rn rd _).mono ?_
                  rintro e w6 ⟨he, hb⟩
                  rw [HB2.out] at he
                  subst he
                  have P6 := Lib.hid (blk_b0 P5.out hb)
                  have R6 := Lib.hid (blk_b0 R5.out hb)
                  have X6 := Lib.hid (blk_b0 X5.out hb)
                  have Y6 := Lib.hid (blk_b0 Y5.out hb)
                  have L6 := Lib.hid (blk_b0 L5.out hb)
                  have H6 := Lib.hid (blk_b0 H5.out hb)
                  have hB6 := bel0 hB5 hb
                  have zP6 := P6.out.lt
                  have zR6 := R6.out.lt
                  have zX6 := X6.out.lt
                  have zY6 := Y6.out.lt
                  have zL6 := L6.out.lt
                  have zH6 := H6.out.lt
                  obtain ⟨cP6, dP6, fP6, hP6⟩ := P6.out.two
                  obtain ⟨cR6, dR6, fR6, hR6⟩ := R6.out.two
                  obtain ⟨cX6, dX6, fX6, hX6⟩ := X6.out.two
                  obtain ⟨cY6, dY6, fY6, hY6⟩ := Y6.out.two
                  clear hb
                  clear cP5 dP5 fP5 hP5 cR5 dR5 fR5 hR5 cX5 dX5 fX5 hX5 cY5 dY5 fY5 hY5 cL5 dL5 fL5 hL5 cH5 dH5 fH5 hH5
                  go_wp2
                  refine bodyPost_ret (v := .tuple #[.agg #[.int .i64 0, .int .i64 0], .bool false]) (by simp [results, Try.results29, go_sem, *]) rfl (sh_no HK.out ?_)
                  go_grown
              · have HB2 := Lib.hid hb2
                obtain ⟨t1, t2, t3⟩ := S3.out HNE.out
                obtain ⟨N, hN⟩ : ∃ x, nF (shX aA bA bH rn rd) (shY aA aH bA bH rd) = x := ⟨_, rfl⟩
                obtain ⟨D, hD⟩ : ∃ x, dF (shX aA bA bH rn rd) (shY aA aH bA bH rd) = x := ⟨_, rfl⟩
                obtain ⟨b, hbb⟩ : ∃ x, okF (shX aA bA bH rn rd) (shY aA aH bA bH rd) = x := ⟨_, rfl⟩
                have HFIN := Lib.hid (show ∀ W : World, Below w.heap.size w W → ShPost aA aH bA bH rn rd w (.returned (.tuple #[.agg #[.int .i64 N, .int .i64 D], .bool b])) W by
                  intro W hB
                  rcases Bool.eq_false_or_eq_true b with rfl | rfl
                  · exact sh_yes (by simp [vS, H3.out, hbb, HS.out hbb, hb1, hb2]) hN hD hB
                  · have e1 : N = 0 := by rw [← hN]; simp [nF, hbb]
                    have e2 : D = 0 := by rw [← hD]; simp [dF, hbb]
                    rw [e1, e2]
                    exact sh_no (by simp [vS, hbb]) hB)
                have HO := Lib.hid (t1.trans hbb)
                have HN := Lib.hid (t2.trans hN)
                have HD := Lib.hid (t3.trans hD)
                clear hb1 hb2 t1 t2 t3 hN hD hbb
                by_cases hxy : xn = yn
                · subst hxy
                  have g1 : (xd == yd) = false := by simpa using hne
                  clear hne hbt
                  go_enter Try.func29, Try.ntmps29
                  go_wp2_with fail
                  refine (c_specWaterRatio _ _ _).mono ?_
                  intro e w1 hp
                  obtain ⟨rfl, hb⟩ := op_at HA.out HXN.out HXD.out HXO.out hp
                  clear hp
                  have K1 := Lib.hid (blk_n4_2 hb)
                  have P1 := Lib.hid (blk_n4_3 hb)
                  have R1 := Lib.hid (blk_n4_4 hb)
                  have hB1 := bel4 (Below.refl _ w) hb
                  have zK1 := K1.out.lt
                  have zP1 := P1.out.lt
                  have zR1 := R1.out.lt
                  obtain ⟨cK1, dK1, fK1, hK1⟩ := K1.out.two
                  clear hb
                  go_wp2_with fail
                  refine (c_specWaterRatio _ _ _).mono ?_
                  intro e w2 hp
                  obtain ⟨rfl, hb⟩ := op_at HB.out HYN.out HYD.out HYO.out hp
                  clear hp
                  have P2 := Lib.hid (blk_b1 P1.out hb)
                  have R2 := Lib.hid (blk_b1 R1.out hb)
                  have X2 := Lib.hid (blk_n1 hb)
                  have hB2 := bel1 hB1 hb
                  have zP2 := P2.out.lt
                  have zR2 := R2.out.lt
                  have zX2 := X2.out.lt
                  obtain ⟨cP2, dP2, fP2, hP2⟩ := P2.out.two
                  obtain ⟨cR2, dR2, fR2, hR2⟩ := R2.out.two
                  clear hb
                  clear cK1 dK1 fK1 hK1
                  go_wp2_with fail
                  refine (c_specFracValid _ _ _).mono ?_
                  rintro e w3 ⟨rfl, hb⟩
                  have P3 := Lib.hid (blk_b1 P2.out hb)
                  have R3 := Lib.hid (blk_b1 R2.out hb)
                  have X3 := Lib.hid (blk_b1 X2.out hb)
                  have Y3 := Lib.hid (blk_n1 hb)
                  have hB3 := bel1 hB2 hb
                  have zP3 := P3.out.lt
                  have zR3 := R3.out.lt
                  have zX3 := X3.out.lt
                  have zY3 := Y3.out.lt
                  obtain ⟨cP3, dP3, fP3, hP3⟩ := P3.out.two
                  obtain ⟨cR3, dR3, fR3, hR3⟩ := R3.out.two
                  obtain ⟨cX3, dX3, fX3, hX3⟩ := X3.out.two
                  obtain ⟨cY3, dY3, fY3, hY3⟩ := Y3.out.two
                  clear hb
                  clear cP2 dP2 fP2 hP2 cR2 dR2 fR2 hR2
                  go_wp2_with fail
                  refine (c_specFracLess xn yd xn xd _).mono ?_
                  rintro e w4 ⟨he, hb⟩
                  rw [HL.out] at he
                  subst he
                  have P4 := Lib.hid (blk_b2 P3.out hb)
                  have R4 := Lib.hid (blk_b2 R3.out hb)
                  have X4 := Lib.hid (blk_b2 X3.out hb)
                  have Y4 := Lib.hid (blk_b2 Y3.out hb)
                  have L4 := Lib.hid (blk_n2 hb)
                  have H4 := Lib.hid (blk_n2' hb)
                  have hB4 := bel2 hB3 hb
                  have zP4 := P4.out.lt
                  have zR4 := R4.out.lt
                  have zX4 := X4.out.lt
                  have zY4 := Y4.out.lt
                  have zL4 := L4.out.lt
                  have zH4 := H4.out.lt
                  obtain ⟨cP4, dP4, fP4, hP4⟩ := P4.out.two
                  obtain ⟨cR4, dR4, fR4, hR4⟩ := R4.out.two
                  obtain ⟨cX4, dX4, fX4, hX4⟩ := X4.out.two
                  obtain ⟨cY4, dY4, fY4, hY4⟩ := Y4.out.two
                  obtain ⟨cL4, dL4, fL4, hL4⟩ := L4.out.two
                  obtain ⟨cH4, dH4, fH4, hH4⟩ := H4.out.two
                  clear hb
                  clear cP3 dP3 fP3 hP3 cR3 dR3 fR3 hR3 cX3 dX3 fX3 hX3 cY3 dY3 fY3 hY3
                  go_wp2_with fail
                  refine (c_specFracLess rn rd xn yd _).mono ?_
                  rintro e w5 ⟨he, hb⟩
                  rw [HB1.out] at he
                  subst he
                  have P5 := Lib.hid (blk_b0 (blk_off2 (blk_off2 P4.out (by omega) _ _) (by omega) _ _) hb)
                  have R5 := Lib.hid (blk_b0 (blk_off2 (blk_off2 R4.out (by omega) _ _) (by omega) _ _) hb)
                  have X5 := Lib.hid (blk_b0 (blk_off2 (blk_off2 X4.out (by omega) _ _) (by omega) _ _) hb)
                  have Y5 := Lib.hid (blk_b0 (blk_off2 (blk_off2 Y4.out (by omega) _ _) (by omega) _ _) hb)
                  have L5 := Lib.hid (blk_b0 (blk_off2 (blk_set2 L4.out _ _) (by omega) _ _) hb)
                  have H5 := Lib.hid (blk_b0 (blk_set2 (blk_off2 H4.out (by omega) _ _) _ _) hb)
                  have hB5 := bel0 (bel_set2 (bel_set2 hB4 (by omega) _ _) (by omega) _ _) hb
                  have zP5 := P5.out.lt
                  have zR5 := R5.out.lt
                  have zX5 := X5.out.lt
                  have zY5 := Y5.out.lt
                  have zL5 := L5.out.lt
                  have zH5 := H5.out.lt
                  obtain ⟨cP5, dP5, fP5, hP5⟩ := P5.out.two
                  obtain ⟨cR5, dR5, fR5, hR5⟩ := R5.out.two
                  obtain ⟨cX5, dX5, fX5, hX5⟩ := X5.out.two
                  obtain ⟨cY5, dY5, fY5, hY5⟩ := Y5.out.two
                  obtain ⟨cL5, dL5, fL5, hL5⟩ := L5.out.two
                  obtain ⟨cH5, dH5, fH5, hH5⟩ := H5.out.two
                  clear hb
                  clear cP4 dP4 fP4 hP4 cR4 dR4 fR4 hR4 cX4 dX4 fX4 hX4 cY4 dY4 fY4 hY4 cL4 dL4 fL4 hL4 cH4 dH4 fH4 hH4
                  go_wp2_with fail
                  refine (c_specFracLess xn xd rn rd _).mono ?_
                  rintro e w6 ⟨he, hb⟩
                  rw [HB2.out] at he
                  subst he
                  have P6 := Lib.hid (blk_b0 P5.out hb)
                  have R6 := Lib.hid (blk_b0 R5.out hb)
                  have X6 := Lib.hid (blk_b0 X5.out hb)
                  have Y6 := Lib.hid (blk_b0 Y5.out hb)
                  have L6 := Lib.hid (blk_b0 L5.out hb)
                  have H6 := Lib.hid (blk_b0 H5.out hb)
                  have hB6 := bel0 hB5 hb
                  have zP6 := P6.out.lt
                  have zR6 := R6.out.lt
                  have zX6 := X6.out.lt
                  have zY6 := Y6.out.lt
                  have zL6 := L6.out.lt
                  have zH6 := H6.out.lt
                  obtain ⟨cP6, dP6, fP6, hP6⟩ := P6.out.two
                  obtain ⟨cR6, dR6, fR6, hR6⟩ := R6.out.two
                  obtain ⟨cX6, dX6, fX6, hX6⟩ := X6.out.two
                  obtain ⟨cY6, dY6, fY6, hY6⟩ := Y6.out.two
                  clear hb
                  clear cP5 dP5 fP5 hP5 cR5 dR5 fR5 hR5 cX5 dX5 fX5 hX5 cY5 dY5 fY5 hY5 cL5 dL5 fL5 hL5 cH5 dH5 fH5 hH5
                  obtain ⟨⟨xa1, xa2, xa3, xa4⟩, ⟨xb1, xb2, xb3, xb4⟩, ⟨r1, r2, r3, r4⟩⟩ := HXB.out
                  have q1 := sm (a := rn) (b := yd) (A := 1000000000) (B := 1000) (by omega) (by omega) (by omega) (by omega)
                  have q2 := sm (a := xn) (b := rd) (A := 1000) (B := 1000000000) (by omega) (by omega) (by omega) (by omega)
                  have q3 := sm (a := rn * yd - xn * rd) (b := xd) (A := 2000000000000) (B := 1000) (by omega) (by omega) (by omega) (by omega)
                  have q4 := sm (a := xn) (b := yd) (A := 1000) (B := 1000) (by omega) (by omega) (by omega) (by omega)
                  have q5 := sm (a := xn) (b := xd) (A := 1000) (B := 1000) (by omega) (by omega) (by omega) (by omega)
                  have q6 := sm (a := rd) (b := xn * yd - xn * xd) (A := 1000000000) (B := 2000000) (by omega) (by omega) (by omega) (by omega)
                  go_wp2_with fail
                  refine (c_specFracOf _ _ _).mono ?_
                  rintro e w7 ⟨he, hb⟩
                  rw [HN.out, HD.out, HO.out] at he
                  subst he
                  have R7 := Lib.hid (blk_b0 R6.out hb)
                  have hB7 := bel0 hB6 hb
                  have zR7 := R7.out.lt
                  obtain ⟨cR7, dR7, fR7, hR7⟩ := R7.out.two
                  clear hb
                  clear cP6 dP6 fP6 hP6 cR6 dR6 fR6 hR6 cX6 dX6 fX6 hX6 cY6 dY6 fY6 hY6
                  go_wp2
                  refine bodyPost_ret (v := .tuple #[.agg #[.int .i64 N, .int .i64 D], .bool b]) (by simp [results, Try.results29, go_sem, *]) rfl (HFIN.out _ ?_)
                  go_grown
                · have g1 : (xn == yn) = false := by simpa using hxy
                  clear hne hbt
                  go_enter Try.func29, Try.ntmps29
                  go_wp2_with fail
                  refine (c_specWaterRatio _ _ _).mono ?_
                  intro e w1 hp
                  obtain ⟨rfl, hb⟩ := op_at HA.out HXN.out HXD.out HXO.out hp
                  clear hp
                  have K1 := Lib.hid (blk_n4_2 hb)
                  have P1 := Lib.hid (blk_n4_3 hb)
                  have R1 := Lib.hid (blk_n4_4 hb)
                  have hB1 := bel4 (Below.refl _ w) hb
                  have zK1 := K1.out.lt
                  have zP1 := P1.out.lt
                  have zR1 := R1.out.lt
                  obtain ⟨cK1, dK1, fK1, hK1⟩ := K1.out.two
                  clear hb
                  go_wp2_with fail
                  refine (c_specWaterRatio _ _ _).mono ?_
                  intro e w2 hp
                  obtain ⟨rfl, hb⟩ := op_at HB.out HYN.out HYD.out HYO.out hp
                  clear hp
                  have P2 := Lib.hid (blk_b1 P1.out hb)
                  have R2 := Lib.hid (blk_b1 R1.out hb)
                  have X2 := Lib.hid (blk_n1 hb)
                  have hB2 := bel1 hB1 hb
                  have zP2 := P2.out.lt
                  have zR2 := R2.out.lt
                  have zX2 := X2.out.lt
                  obtain ⟨cP2, dP2, fP2, hP2⟩ := P2.out.two
                  obtain ⟨cR2, dR2, fR2, hR2⟩ := R2.out.two
                  clear hb
                  clear cK1 dK1 fK1 hK1
                  go_wp2_with fail
                  refine (c_specFracValid _ _ _).mono ?_
                  rintro e w3 ⟨rfl, hb⟩
                  have P3 := Lib.hid (blk_b1 P2.out hb)
                  have R3 := Lib.hid (blk_b1 R2.out hb)
                  have X3 := Lib.hid (blk_b1 X2.out hb)
                  have Y3 := Lib.hid (blk_n1 hb)
                  have hB3 := bel1 hB2 hb
                  have zP3 := P3.out.lt
                  have zR3 := R3.out.lt
                  have zX3 := X3.out.lt
                  have zY3 := Y3.out.lt
                  obtain ⟨cP3, dP3, fP3, hP3⟩ := P3.out.two
                  obtain ⟨cR3, dR3, fR3, hR3⟩ := R3.out.two
                  obtain ⟨cX3, dX3, fX3, hX3⟩ := X3.out.two
                  obtain ⟨cY3, dY3, fY3, hY3⟩ := Y3.out.two
                  clear hb
                  clear cP2 dP2 fP2 hP2 cR2 dR2 fR2 hR2
                  go_wp2_with fail
                  refine (c_specFracLess yn yd xn xd _).mono ?_
                  rintro e w4 ⟨he, hb⟩
                  rw [HL.out] at he
                  subst he
                  have P4 := Lib.hid (blk_b2 P3.out hb)
                  have R4 := Lib.hid (blk_b2 R3.out hb)
                  have X4 := Lib.hid (blk_b2 X3.out hb)
                  have Y4 := Lib.hid (blk_b2 Y3.out hb)
                  have L4 := Lib.hid (blk_n2 hb)
                  have H4 := Lib.hid (blk_n2' hb)
                  have hB4 := bel2 hB3 hb
                  have zP4 := P4.out.lt
                  have zR4 := R4.out.lt
                  have zX4 := X4.out.lt
                  have zY4 := Y4.out.lt
                  have zL4 := L4.out.lt
                  have zH4 := H4.out.lt
                  obtain ⟨cP4, dP4, fP4, hP4⟩ := P4.out.two
                  obtain ⟨cR4, dR4, fR4, hR4⟩ := R4.out.two
                  obtain ⟨cX4, dX4, fX4, hX4⟩ := X4.out.two
                  obtain ⟨cY4, dY4, fY4, hY4⟩ := Y4.out.two
                  obtain ⟨cL4, dL4, fL4, hL4⟩ := L4.out.two
                  obtain ⟨cH4, dH4, fH4, hH4⟩ := H4.out.two
                  clear hb
                  clear cP3 dP3 fP3 hP3 cR3 dR3 fR3 hR3 cX3 dX3 fX3 hX3 cY3 dY3 fY3 hY3
                  go_wp2_with fail
                  refine (c_specFracLess rn rd yn yd _).mono ?_
                  rintro e w5 ⟨he, hb⟩
                  rw [HB1.out] at he
                  subst he
                  have P5 := Lib.hid (blk_b0 (blk_off2 (blk_off2 P4.out (by omega) _ _) (by omega) _ _) hb)
                  have R5 := Lib.hid (blk_b0 (blk_off2 (blk_off2 R4.out (by omega) _ _) (by omega) _ _) hb)
                  have X5 := Lib.hid (blk_b0 (blk_off2 (blk_off2 X4.out (by omega) _ _) (by omega) _ _) hb)
                  have Y5 := Lib.hid (blk_b0 (blk_off2 (blk_off2 Y4.out (by omega) _ _) (by omega) _ _) hb)
                  have L5 := Lib.hid (blk_b0 (blk_off2 (blk_set2 L4.out _ _) (by omega) _ _) hb)
                  have H5 := Lib.hid (blk_b0 (blk_set2 (blk_off2 H4.out (by omega) _ _) _ _) hb)
                  have hB5 := bel0 (bel_set2 (bel_set2 hB4 (by omega) _ _) (by omega) _ _) hb
                  have zP5 := P5.out.lt
                  have zR5 := R5.out.lt
                  have zX5 := X5.out.lt
                  have zY5 := Y5.out.lt
                  have zL5 := L5.out.lt
                  have zH5 := H5.out.lt
                  obtain ⟨cP5, dP5, fP5, hP5⟩ := P5.out.two
                  obtain ⟨cR5, dR5, fR5, hR5⟩ := R5.out.two
                  obtain ⟨cX5, dX5, fX5, hX5⟩ := X5.out.two
                  obtain ⟨cY5, dY5, fY5, hY5⟩ := Y5.out.two
                  obtain ⟨cL5, dL5, fL5, hL5⟩ := L5.out.two
                  obtain ⟨cH5, dH5, fH5, hH5⟩ := H5.out.two
                  clear hb
                  clear cP4 dP4 fP4 hP4 cR4 dR4 fR4 hR4 cX4 dX4 fX4 hX4 cY4 dY4 fY4 hY4 cL4 dL4 fL4 hL4 cH4 dH4 fH4 hH4
                  go_wp2_with fail
                  refine (c_specFracLess xn xd rn rd _).mono ?_
                  rintro e w6 ⟨he, hb⟩
                  rw [HB2.out] at he
                  subst he
                  have P6 := Lib.hid (blk_b0 P5.out hb)
                  have R6 := Lib.hid (blk_b0 R5.out hb)
                  have X6 := Lib.hid (blk_b0 X5.out hb)
                  have Y6 := Lib.hid (blk_b0 Y5.out hb)
                  have L6 := Lib.hid (blk_b0 L5.out hb)
                  have H6 := Lib.hid (blk_b0 H5.out hb)
                  have hB6 := bel0 hB5 hb
                  have zP6 := P6.out.lt
                  have zR6 := R6.out.lt
                  have zX6 := X6.out.lt
                  have zY6 := Y6.out.lt
                  have zL6 := L6.out.lt
                  have zH6 := H6.out.lt
                  obtain ⟨cP6, dP6, fP6, hP6⟩ := P6.out.two
                  obtain ⟨cR6, dR6, fR6, hR6⟩ := R6.out.two
                  obtain ⟨cX6, dX6, fX6, hX6⟩ := X6.out.two
                  obtain ⟨cY6, dY6, fY6, hY6⟩ := Y6.out.two
                  clear hb
                  clear cP5 dP5 fP5 hP5 cR5 dR5 fR5 hR5 cX5 dX5 fX5 hX5 cY5 dY5 fY5 hY5 cL5 dL5 fL5 hL5 cH5 dH5 fH5 hH5
                  obtain ⟨⟨xa1, xa2, xa3, xa4⟩, ⟨xb1, xb2, xb3, xb4⟩, ⟨r1, r2, r3, r4⟩⟩ := HXB.out
                  have q1 := sm (a := rn) (b := yd) (A := 1000000000) (B := 1000) (by omega) (by omega) (by omega) (by omega)
                  have q2 := sm (a := yn) (b := rd) (A := 1000) (B := 1000000000) (by omega) (by omega) (by omega) (by omega)
                  have q3 := sm (a := rn * yd - yn * rd) (b := xd) (A := 2000000000000) (B := 1000) (by omega) (by omega) (by omega) (by omega)
                  have q4 := sm (a := xn) (b := yd) (A := 1000) (B := 1000) (by omega) (by omega) (by omega) (by omega)
                  have q5 := sm (a := yn) (b := xd) (A := 1000) (B := 1000) (by omega) (by omega) (by omega) (by omega)
                  have q6 := sm (a := rd) (b := xn * yd - yn * xd) (A := 1000000000) (B := 2000000) (by omega) (by omega) (by omega) (by omega)
                  go_wp2_with fail
                  refine (c_specFracOf _ _ _).mono ?_
                  rintro e w7 ⟨he, hb⟩
                  rw [HN.out, HD.out, HO.out] at he
                  subst he
                  have R7 := Lib.hid (blk_b0 R6.out hb)
                  have hB7 := bel0 hB6 hb
                  have zR7 := R7.out.lt
                  obtain ⟨cR7, dR7, fR7, hR7⟩ := R7.out.two
                  clear hb
                  clear cP6 dP6 fP6 hP6 cR6 dR6 fR6 hR6 cX6 dX6 fX6 hX6 cY6 dY6 fY6 hY6
                  go_wp2
                  refine bodyPost_ret (v := .tuple #[.agg #[.int .i64 N, .int .i64 D], .bool b]) (by simp [results, Try.results29, go_sem, *]) rfl (HFIN.out _ ?_)
                  go_grown
      · have HK := Lib.hid (show vS aA aH bA bH rn rd = false by simp [vS, wv3, hr])
        clear hxn hxd hyn hyd
        go_enter Try.func29, Try.ntmps29
        go_wp2_with fail
        refine (c_specWaterRatio _ _ _).mono ?_
        intro e w1 hp
        obtain ⟨rfl, hb⟩ := op_at HA.out HXN.out HXD.out HXO.out hp
        clear hp
        have K1 := Lib.hid (blk_n4_2 hb)
        have P1 := Lib.hid (blk_n4_3 hb)
        have R1 := Lib.hid (blk_n4_4 hb)
        have hB1 := bel4 (Below.refl _ w) hb
        have zK1 := K1.out.lt
        have zP1 := P1.out.lt
        have zR1 := R1.out.lt
        obtain ⟨cK1, dK1, fK1, hK1⟩ := K1.out.two
        clear hb
        go_wp2_with fail
        refine (c_specWaterRatio _ _ _).mono ?_
        intro e w2 hp
        obtain ⟨rfl, hb⟩ := op_at HB.out HYN.out HYD.out HYO.out hp
        clear hp
        have P2 := Lib.hid (blk_b1 P1.out hb)
        have R2 := Lib.hid (blk_b1 R1.out hb)
        have X2 := Lib.hid (blk_n1 hb)
        have hB2 := bel1 hB1 hb
        have zP2 := P2.out.lt
        have zR2 := R2.out.lt
        have zX2 := X2.out.lt
        obtain ⟨cP2, dP2, fP2, hP2⟩ := P2.out.two
        obtain ⟨cR2, dR2, fR2, hR2⟩ := R2.out.two
        clear hb
        clear cK1 dK1 fK1 hK1
        go_wp2_with fail
        refine (c_specFracValid _ _ _).mono ?_
        rintro e w3 ⟨rfl, hb⟩
        have P3 := Lib.hid (blk_b1 P2.out hb)
        have R3 := Lib.hid (blk_b1 R2.out hb)
        have X3 := Lib.hid (blk_b1 X2.out hb)
        have Y3 := Lib.hid (blk_n1 hb)
        have hB3 := bel1 hB2 hb
        have zP3 := P3.out.lt
        have zR3 := R3.out.lt
        have zX3 := X3.out.lt
        have zY3 := Y3.out.lt
        obtain ⟨cP3, dP3, fP3, hP3⟩ := P3.out.two
        obtain ⟨cR3, dR3, fR3, hR3⟩ := R3.out.two
        obtain ⟨cX3, dX3, fX3, hX3⟩ := X3.out.two
        obtain ⟨cY3, dY3, fY3, hY3⟩ := Y3.out.two
        clear hb
        clear cP2 dP2 fP2 hP2 cR2 dR2 fR2 hR2
        go_wp2
        refine bodyPost_ret (v := .tuple #[.agg #[.int .i64 0, .int .i64 0], .bool false]) (by simp [results, Try.results29, go_sem, *]) rfl (sh_no HK.out ?_)
        go_grown
    · have HBB := Lib.hid (show okO (vW bA bH) bH bA = false by simp [okO, hb0])
      have HK := Lib.hid (show vS aA aH bA bH rn rd = false by simp [vS, wv3, hb0])
      obtain ⟨xn, hxn⟩ : ∃ x, nF aH aA = x := ⟨_, rfl⟩
      obtain ⟨xd, hxd⟩ : ∃ x, dF aH aA = x := ⟨_, rfl⟩
      have HA := Lib.hid ha
      have HXN := Lib.hid hxn
      have HXD := Lib.hid hxd
      have HXO := Lib.hid (ratio_ok ha)
      clear hxn hxd
      go_enter Try.func29, Try.ntmps29
      go_wp2_with fail
      refine (c_specWaterRatio _ _ _).mono ?_
      intro e w1 hp
      obtain ⟨rfl, hb⟩ := op_at HA.out HXN.out HXD.out HXO.out hp
      clear hp
      have K1 := Lib.hid (blk_n4_2 hb)
      have P1 := Lib.hid (blk_n4_3 hb)
      have R1 := Lib.hid (blk_n4_4 hb)
      have hB1 := bel4 (Below.refl _ w) hb
      have zK1 := K1.out.lt
      have zP1 := P1.out.lt
      have zR1 := R1.out.lt
      obtain ⟨cK1, dK1, fK1, hK1⟩ := K1.out.two
      clear hb
      go_wp2_with fail
      refine (c_specWaterRatio _ _ _).mono ?_
      intro e w2 hp
      obtain ⟨rfl, hb⟩ := op_bad HBB.out hp
      clear hp
      have P2 := Lib.hid (blk_b1 P1.out hb)
      have R2 := Lib.hid (blk_b1 R1.out hb)
      have X2 := Lib.hid (blk_n1 hb)
      have hB2 := bel1 hB1 hb
      have zP2 := P2.out.lt
      have zR2 := R2.out.lt
      have zX2 := X2.out.lt
      obtain ⟨cR2, dR2, fR2, hR2⟩ := R2.out.two
      clear hb
      clear cK1 dK1 fK1 hK1
      go_wp2
      refine bodyPost_ret (v := .tuple #[.agg #[.int .i64 0, .int .i64 0], .bool false]) (by simp [results, Try.results29, go_sem, *]) rfl (sh_no HK.out ?_)
      go_grown
  · have HAB := Lib.hid (show okO (vW aA aH) aH aA = false by simp [okO, ha])
    have HK := Lib.hid (show vS aA aH bA bH rn rd = false by simp [vS, wv3, ha])
    go_enter Try.func29, Try.ntmps29
    go_wp2_with fail
    refine (c_specWaterRatio _ _ _).mono ?_
    intro e w1 hp
    obtain ⟨rfl, hb⟩ := op_bad HAB.out hp
    clear hp
    have K1 := Lib.hid (blk_n4_2 hb)
    have P1 := Lib.hid (blk_n4_3 hb)
    have R1 := Lib.hid (blk_n4_4 hb)
    have hB1 := bel4 (Below.refl _ w) hb
    have zK1 := K1.out.lt
    have zP1 := P1.out.lt
    have zR1 := R1.out.lt
    obtain ⟨cK1, dK1, fK1, hK1⟩ := K1.out.two
    clear hb
    go_wp2_with fail
    refine (c_specWaterRatio _ _ _).mono ?_
    intro e w2 hp
    obtain ⟨rfl, hb⟩ := hp
    have P2 := Lib.hid (blk_b1 P1.out hb)
    have R2 := Lib.hid (blk_b1 R1.out hb)
    have X2 := Lib.hid (blk_n1 hb)
    have hB2 := bel1 hB1 hb
    have zP2 := P2.out.lt
    have zR2 := R2.out.lt
    have zX2 := X2.out.lt
    obtain ⟨cR2, dR2, fR2, hR2⟩ := R2.out.two
    clear hb
    clear cK1 dK1 fK1 hK1
    go_wp2
    refine bodyPost_ret (v := .tuple #[.agg #[.int .i64 0, .int .i64 0], .bool false]) (by simp [results, Try.results29, go_sem, *]) rfl (sh_no HK.out ?_)
    go_grown
end Go.Proofs.Ytbbipieadjggkaa
