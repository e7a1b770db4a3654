/-
  The walk of the law FnGasNone: it returns true and writes nothing that was there.
-/
import Derived.Test.YtmcpojnioppgfaaGasLawW
import Derived.Test.YtmcpojnioppgfaaGasDrawC
import Derived.Test.YtmcpojnioppgfaaGasImpl
import Derived.Test.YtmcpojnioppgfaaGasSpec
import Derived.Test.YtmcpojnioppgfaaSameKnots
namespace Go.Proofs.Ytmcpojnioppgfaa
open Go.RowKit

set_option maxHeartbeats 4000000 in
set_option maxRecDepth 4000 in
theorem walk_FnGasNone (A : Option Addr) (n c : Nat) (w : World) (h : RdB w A n) (hn : n ≤ maxLen) (hc : n ≤ c) :
    Calls Try.prog 5 #[.slice A n c] w fun e w' => e = .returned (.bool true) ∧ Below w.heap.size w w' := by
  unfold maxLen at hn
  have HB := Lib.hid h
  clear h
  obtain ⟨i0, hi, hz0, hz1, hz2⟩ := info_parts info_int
  have HI := Lib.hid hi
  have HZ0 := Lib.hid hz0
  have HZ1 := Lib.hid hz1
  have HZ2 := Lib.hid hz2
  clear hi hz0 hz1 hz2
  by_cases hbig : 1048576 < n
  · go_enter Try.func5, Try.ntmps5
    go_wp2
    go_ret
    exact ⟨rfl, Below.refl _ _⟩
  · have hd1 : decide ((1048576 : Int) < (n : Int)) = false := by simp; omega
    go_enter Try.func5, Try.ntmps5
    go_wp2_with fail
    refine (c_DrawGasCurve _ _ _ _ HB.out (by omega) hc).mono ?_
    rintro e w1 ⟨A1, n1, c1, l, B1, m1, cm1, ml, rfl, hm7, hmc, hrm, ⟨hn0, hn1, hc1, hr1⟩, hB1⟩
    have HR1 := Lib.hid hr1
    have HM1 := Lib.hid hrm
    have HL := Lib.hid hr1.len
    have HML := Lib.hid hrm.len
    have hB11 : Below w1.heap.size w1 w1 := Below.refl _ _
    clear hr1 hrm
    go_wp2_with fail
    refine (c_implGasCurve _ _ _ l _ _ _ ml _ (by omega) (by omega) HR1.out HM1.out).mono ?_
    rintro e w2 ⟨A2, n2, c2, rfl, hn2, hO2, hb⟩
    have HR2 := Lib.hid hO2.rd
    have HN2 := Lib.hid hO2.rd.len
    have hB2 := hB1.trans (hb.mono hB1.size)
    have hB12 := hB11.trans hb
    have hB22 : Below w2.heap.size w2 w2 := Below.refl _ _
    clear hO2 hb
    go_wp2_with fail
    refine (c_specGasCurve _ _ _ l _ _ _ ml _ (by omega) (by omega) (HR1.out.below hB12) (HM1.out.below hB12)).mono ?_
    rintro e w3 ⟨A3, n3, c3, rfl, hn3, hO3, hb⟩
    have HR3 := Lib.hid hO3.rd
    have hB3 := hB2.trans (hb.mono hB2.size)
    have hB13 := hB12.trans (hb.mono hB12.size)
    have hB23 := hB22.trans hb
    clear hO3 hb
    have HQ := Lib.hid (show eqL (gV l m1 (ix ml)) (gV l m1 (ix ml)) = true by simp [eqL])
    rcases Bool.eq_false_or_eq_true (okG l m1 (ix ml)) with hok | hok
    · have HK := Lib.hid hok
      go_wp2_with fail
      refine (c_sameKnots _ _ _ _ _ _ (gV l m1 (ix ml)) (gV l m1 (ix ml)) _ (by omega) (by omega) (HR2.out.below hB23) HR3.out).mono ?_
      rintro e w4 ⟨he, hb⟩
      rw [HQ.out] at he
      subst he
      have hB4 := hB3.trans (hb.mono hB3.size)
      have hB14 := hB13.trans (hb.mono hB13.size)
      have hB24 := hB23.trans (hb.mono hB23.size)
      clear hb HR3
      have hy := okG_yes hok
      have hml : m1 = n1 := hy.2.1.trans HL.out
      obtain ⟨e0, v0⟩ := even_zero (l := l) (g := ix (List.replicate m1 0)) hy.1 (fun i hi => evG_at (n := m1) (x := 0) (by have := HL.out; omega))
      rw [← hy.2.1] at e0 v0
      have hle : decide (n2 ≤ n1) = true := by
        have a := HN2.out
        have b := gasP_len l (ix ml) l.length
        rw [gV_yes hok] at a
        have := HL.out
        simp; omega
      have HV0 := Lib.hid v0
      have HE0 := Lib.hid e0
      have HEL := Lib.hid (show eqL l l = true by simp [eqL])
      clear hok v0 e0 hy hml
      go_wp2_with (at_make; refine wpList_make_full _ rfl _ _ 24 rfl w4.heap.size 3 i0 (.int .i64 0) 1 Try.underlying24 HI.out HZ0.out HZ1.out _ _ _ _ m1 rfl rfl rfl rfl ?b1 ?b2 ?b3 ?_)
      case b1 => rw [HZ2.out]; omega
      case b2 => unfold maxLen; omega
      case b3 => exact Nat.le_refl _
      intro w5 hown hgrow
      have HLG := Lib.hid (show RdI w5 (some ⟨w4.heap.size, 0, none⟩) m1 (List.replicate m1 0) from by
        have hR := RowE.made hown
        exact ⟨by simp, fun _ => ⟨_, 0, rfl, Blk.lt hR, fun i hi => by rw [Nat.zero_add]; exact (hR.cell (by simpa using hi)).1⟩⟩)
      have hb5 : Below w4.heap.size w4 w5 := (Below.refl _ _).grown hgrow (Nat.le_refl _) (fun k hk => by cases hk)
      have hB5 := hB4.trans (hb5.mono hB4.size)
      have hB15 := hB14.trans (hb5.mono hB14.size)
      clear hown hgrow hb5
      go_wp2_with fail
      refine (c_implGasCurve _ _ _ l _ _ _ (List.replicate m1 0) _ (by omega) (by omega) (HR1.out.below hB15) HLG.out).mono ?_
      rintro e w6 ⟨A6, n6, c6, he, hn6, hO6, hb⟩
      rw [HE0.out] at he
      rw [HV0.out] at hO6
      subst he
      have HR6 := Lib.hid hO6.rd
      have hB6 := hB5.trans (hb.mono hB5.size)
      have hB16 := hB15.trans (hb.mono hB15.size)
      clear hO6 hb
      go_wp2_with fail
      refine (c_sameKnots _ _ _ _ _ _ l l _ (by omega) (by omega) HR6.out (HR1.out.below hB16)).mono ?_
      rintro e w7 ⟨he, hb⟩
      rw [HEL.out] at he
      subst he
      have hB7 := hB6.trans (hb.mono hB6.size)
      clear hb
      go_wp2
      go_ret
      exact ⟨rfl, hB7⟩
    · go_wp2_with fail
      refine (c_sameKnots _ _ _ _ _ _ (gV l m1 (ix ml)) (gV l m1 (ix ml)) _ (by omega) (by omega) (HR2.out.below hB23) HR3.out).mono ?_
      rintro e w4 ⟨he, hb⟩
      rw [HQ.out] at he
      subst he
      have hB4 := hB3.trans (hb.mono hB3.size)
      have hB24 := hB23.trans (hb.mono hB23.size)
      have HR4 := Lib.hid (HR3.out.below hb)
      clear hb
      go_wp2_with fail
      refine (c_sameKnots _ _ _ _ _ _ (gV l m1 (ix ml)) (gV l m1 (ix ml)) _ (by omega) (by omega) (HR2.out.below hB24) HR4.out).mono ?_
      rintro e w5 ⟨he, hb⟩
      rw [HQ.out] at he
      subst he
      have hB5 := hB4.trans (hb.mono hB4.size)
      clear hb
      go_wp2
      go_ret
      exact ⟨rfl, hB5⟩
end Go.Proofs.Ytmcpojnioppgfaa
