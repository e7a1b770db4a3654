/-
  The walk of the law FnEvenNone: it returns true and writes nothing that was there.
-/
import Derived.Test.YtmcpojnioppgfaaGasLawW
import Derived.Test.YtmcpojnioppgfaaGasDraw
import Derived.Test.YtmcpojnioppgfaaGasEven
import Derived.Test.YtmcpojnioppgfaaSameKnots
namespace Go.Proofs.Ytmcpojnioppgfaa
open Go.RowKit

set_option maxHeartbeats 4000000 in
set_option maxRecDepth 4000 in
theorem walk_FnEvenNone (A : Option Addr) (n c : Nat) (w : World) (h : RdB w A n) (hn : n ≤ maxLen) (hc : n ≤ c) :
    Calls Try.prog 9 #[.slice A n c] w fun e w' => e = .returned (.bool true) ∧ Below w.heap.size w w' := by
  unfold maxLen at hn
  have HB := Lib.hid h
  clear h
  by_cases hbig : 1048576 < n
  · go_enter Try.func9, Try.ntmps9
    go_wp2
    go_ret
    exact ⟨rfl, Below.refl _ _⟩
  · have hd1 : decide ((1048576 : Int) < (n : Int)) = false := by simp; omega
    go_enter Try.func9, Try.ntmps9
    go_wp2_with fail
    refine (c_DrawGasEven _ _ _ _ HB.out (by omega) hc).mono ?_
    rintro e w1 ⟨A1, n1, c1, l, d, rfl, hd0, hd2, ⟨hn0, hn1, hc1, hr1⟩, hB1⟩
    have HR1 := Lib.hid hr1
    have HL := Lib.hid hr1.len
    have hB11 : Below w1.heap.size w1 w1 := Below.refl _ _
    clear hr1
    go_wp2_with fail
    refine (c_implGasEven _ _ _ l d _ (by omega) HR1.out).mono ?_
    rintro e w2 ⟨A2, n2, c2, rfl, hn2, hO2, hb⟩
    have HR2 := Lib.hid hO2.rd
    have HN2 := Lib.hid hO2.rd.len
    have hB2 := hB1.trans (hb.mono hB1.size)
    have hB12 := hB11.trans hb
    have hB22 : Below w2.heap.size w2 w2 := Below.refl _ _
    clear hO2 hb
    go_wp2_with fail
    refine (c_specGasEven _ _ _ l d _ (by omega) (HR1.out.below hB12)).mono ?_
    rintro e w3 ⟨A3, n3, c3, rfl, hn3, hO3, hb⟩
    have HR3 := Lib.hid hO3.rd
    have hB3 := hB2.trans (hb.mono hB2.size)
    have hB13 := hB12.trans (hb.mono hB12.size)
    have hB23 := hB22.trans hb
    clear hO3 hb
    have HQ := Lib.hid (show eqL (gV l n1 (evG n1 d)) (gV l n1 (evG n1 d)) = true by simp [eqL])
    rcases Bool.eq_false_or_eq_true (okG l n1 (evG n1 d)) with hok | hok
    · have HK := Lib.hid hok
      go_wp2_with fail
      refine (c_sameKnots _ _ _ _ _ _ (gV l n1 (evG n1 d)) (gV l n1 (evG n1 d)) _ (by omega) (by omega) (HR2.out.below hB23) HR3.out).mono ?_
      rintro e w4 ⟨he, hb⟩
      rw [HQ.out] at he
      subst he
      have hB4 := hB3.trans (hb.mono hB3.size)
      have hB14 := hB13.trans (hb.mono hB13.size)
      have hB24 := hB23.trans (hb.mono hB23.size)
      clear hb HR3
      obtain ⟨e0, v0⟩ := ev_zero HL.out hok
      have HV0 := Lib.hid v0
      have HEL := Lib.hid (show eqL l l = true by simp [eqL])
      clear hok v0
      go_wp2_with fail
      refine (c_implGasEven _ _ _ l 0 _ (by omega) (HR1.out.below hB14)).mono ?_
      rintro e w5 ⟨A5, n5, c5, he, hn5, hO5, hb⟩
      rw [e0] at he
      rw [HV0.out] at hO5
      subst he
      have HR5 := Lib.hid hO5.rd
      have hB5 := hB4.trans (hb.mono hB4.size)
      have hB15 := hB14.trans (hb.mono hB14.size)
      have hB55 : Below w5.heap.size w5 w5 := Below.refl _ _
      clear hO5 hb e0
      by_cases hz : d = 0
      · subst hz
        have HNG := Lib.hid (ev_neg HL.out hn0)
        go_wp2_with fail
        refine (c_implGasEven _ _ _ l (-1) _ (by omega) (HR1.out.below hB15)).mono ?_
        rintro e w6 ⟨A6, n6, c6, he, hn6, hO6, hb⟩
        rw [HNG.out] at he
        subst he
        have hB6 := hB5.trans (hb.mono hB5.size)
        have hB16 := hB15.trans (hb.mono hB15.size)
        have hB56 := hB55.trans hb
        clear hO6 hb
        go_wp2_with fail
        refine (c_sameKnots _ _ _ _ _ _ l l _ (by omega) (by omega) (HR5.out.below hB56) (HR1.out.below hB16)).mono ?_
        rintro e w7 ⟨he, hb⟩
        rw [HEL.out] at he
        subst he
        have hB7 := hB6.trans (hb.mono hB6.size)
        clear hb
        go_wp2
        go_ret
        exact ⟨rfl, hB7⟩
      · have hz' : (d == 0) = false := by simp; omega
        have hdp : 1 ≤ d := by
          obtain ⟨_, _, _, _, h4, _⟩ := even_yes (evG_all HL.out d) HK.out
          omega
        obtain ⟨o6, l6⟩ := ev_less HL.out HK.out hdp
        have HLE := Lib.hid l6
        clear l6
        go_wp2_with fail
        refine (c_implGasEven _ _ _ l (d - 1) _ (by omega) (HR1.out.below hB15)).mono ?_
        rintro e w6 ⟨A6, n6, c6, he, hn6, hO6, hb⟩
        rw [o6] at he
        subst he
        have hle : decide (n2 ≤ n6) = true := by
          have := HLE.out
          have a := HN2.out
          have b := hO6.rd.len
          simp; omega
        have hB6 := hB5.trans (hb.mono hB5.size)
        have hB16 := hB15.trans (hb.mono hB15.size)
        have hB56 := hB55.trans hb
        clear hO6 hb o6
        go_wp2_with fail
        refine (c_sameKnots _ _ _ _ _ _ l l _ (by omega) (by omega) (HR5.out.below hB56) (HR1.out.below hB16)).mono ?_
        rintro e w7 ⟨he, hb⟩
        rw [HEL.out] at he
        subst he
        have hB7 := hB6.trans (hb.mono hB6.size)
        clear hb
        go_wp2
        go_ret
        exact ⟨rfl, hB7⟩
    · go_wp2_with fail
      refine (c_sameKnots _ _ _ _ _ _ (gV l n1 (evG n1 d)) (gV l n1 (evG n1 d)) _ (by omega) (by omega) (HR2.out.below hB23) HR3.out).mono ?_
      rintro e w4 ⟨he, hb⟩
      rw [HQ.out] at he
      subst he
      have hB4 := hB3.trans (hb.mono hB3.size)
      have hB24 := hB23.trans (hb.mono hB23.size)
      have HR4 := Lib.hid (HR3.out.below hb)
      clear hb
      go_wp2_with fail
      refine (c_sameKnots _ _ _ _ _ _ (gV l n1 (evG n1 d)) (gV l n1 (evG n1 d)) _ (by omega) (by omega) (HR2.out.below hB24) HR4.out).mono ?_
      rintro e w5 ⟨he, hb⟩
      rw [HQ.out] at he
      subst he
      have hB5 := hB4.trans (hb.mono hB4.size)
      clear hb
      go_wp2
      go_ret
      exact ⟨rfl, hB5⟩
end Go.Proofs.Ytmcpojnioppgfaa
