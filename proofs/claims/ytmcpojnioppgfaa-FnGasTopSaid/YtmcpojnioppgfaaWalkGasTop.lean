/-
  The walk of the law FnGasTop: it returns true and writes nothing that was there.
-/
import Derived.Test.YtmcpojnioppgfaaGasLawW
import Derived.Test.YtmcpojnioppgfaaGasDrawC
import Derived.Test.YtmcpojnioppgfaaGasImpl
import Derived.Test.YtmcpojnioppgfaaGasSpec
import Derived.Test.YtmcpojnioppgfaaSameKnots
namespace Go.Proofs.Ytmcpojnioppgfaa
open Go.RowKit

def TopRel (m : Nat) (w4 : World) (i : Value) (wr : World) : Prop := ∃ k : Nat, k ≤ m ∧ i = .int .i64 k ∧ ∃ t, wr = w4.drewN t
set_option maxHeartbeats 4000000 in
set_option maxRecDepth 4000 in
theorem walk_FnGasTop (A : Option Addr) (n c : Nat) (w : World) (h : RdB w A n) (hn : n ≤ maxLen) (hc : n ≤ c) :
    Calls Try.prog 6 #[.slice A n c] w fun e w' => e = .returned (.bool true) ∧ Below w.heap.size w w' := by
  unfold maxLen at hn
  have HB := Lib.hid h
  clear h
  by_cases hbig : 1048576 < n
  · go_enter Try.func6, Try.ntmps6
    go_wp2
    go_ret
    exact ⟨rfl, Below.refl _ _⟩
  · have hd1 : decide ((1048576 : Int) < (n : Int)) = false := by simp; omega
    go_enter Try.func6, Try.ntmps6
    go_wp2_with fail
    refine (c_DrawGasCurve _ _ _ _ HB.out (by omega) hc).mono ?_
    rintro e w1 ⟨A1, n1, c1, l, B1, m1, cm1, ml, rfl, hm7, hmc, hrm, ⟨hn0, hn1, hc1, hr1⟩, hB1⟩
    have HR1 := Lib.hid hr1
    have HM1 := Lib.hid hrm
    have HL := Lib.hid hr1.len
    have HML := Lib.hid hrm.len
    have hB11 : Below w1.heap.size w1 w1 := Below.refl _ _
    clear hr1 hrm
    go_wp2_with fail
    refine (c_implGasCurve _ _ _ l _ _ _ ml _ (by omega) (by omega) HR1.out HM1.out).mono ?_
    rintro e w2 ⟨A2, n2, c2, rfl, hn2, hO2, hb⟩
    have HR2 := Lib.hid hO2.rd
    have HN2 := Lib.hid hO2.rd.len
    have hB2 := hB1.trans (hb.mono hB1.size)
    have hB12 := hB11.trans hb
    have hB22 : Below w2.heap.size w2 w2 := Below.refl _ _
    clear hO2 hb
    go_wp2_with fail
    refine (c_specGasCurve _ _ _ l _ _ _ ml _ (by omega) (by omega) (HR1.out.below hB12) (HM1.out.below hB12)).mono ?_
    rintro e w3 ⟨A3, n3, c3, rfl, hn3, hO3, hb⟩
    have HR3 := Lib.hid hO3.rd
    have hB3 := hB2.trans (hb.mono hB2.size)
    have hB13 := hB12.trans (hb.mono hB12.size)
    have hB23 := hB22.trans hb
    clear hO3 hb
    have HQ := Lib.hid (show eqL (gV l m1 (ix ml)) (gV l m1 (ix ml)) = true by simp [eqL])
    rcases Bool.eq_false_or_eq_true (okG l m1 (ix ml)) with hok | hok
    · have HK := Lib.hid hok
      go_wp2_with fail
      refine (c_sameKnots _ _ _ _ _ _ (gV l m1 (ix ml)) (gV l m1 (ix ml)) _ (by omega) (by omega) (HR2.out.below hB23) HR3.out).mono ?_
      rintro e w4 ⟨he, hb⟩
      rw [HQ.out] at he
      subst he
      have hB4 := hB3.trans (hb.mono hB3.size)
      have hB14 := hB13.trans (hb.mono hB13.size)
      have hB24 := hB23.trans (hb.mono hB23.size)
      clear hb HR3
      have HT := Lib.hid (fun i hi => gas_top (i := i) hok hi)
      have h2n : 2 ≤ n2 := by
        have := (vC_yes (okG_yes hok).2.2.2).2.2.1
        rw [← gV_yes hok, HN2.out] at this
        exact this
      have HR14 := Lib.hid (HR1.out.below hB14)
      have HR24 := Lib.hid (HR2.out.below hB24)
      obtain ⟨j, hj⟩ : ∃ j, n1 = j + 1 := ⟨n1 - 1, by omega⟩
      have hji : (n1 : Int) - 1 = (j : Int) := by omega
      have hj0 : (0 : Int) ≤ (j : Int) := by omega
      have hj1 : (j : Int) < (n1 : Int) := by omega
      have hz1 : (0 : Int) < (n1 : Int) := by omega
      have HJ := Lib.hid (show l.length - 1 = j by have := HL.out; omega)
      have hjn : j < n1 := by omega
      obtain ⟨b, off, rfl, hb, hcl⟩ := HR14.out.at_ (by omega)
      obtain ⟨b', off', rfl, hb', hcl'⟩ := HR24.out.at_ (by omega)
      have HC0 := Lib.hid (hcl 0 (by omega)).1
      have HCJ := Lib.hid (hcl j hjn).1
      have HCL' := Lib.hid hcl'
      have h2n' : decide ((2 : Int) ≤ (n2 : Int)) = true := by simp; omega
      clear hcl hcl' hok hj
      go_wp2_with fail
      go_loopw [9] (fun i wr => TopRel n2 w4 i wr) (fun i _ => n2 - (intOf i).toNat)
      case atStart => exact ⟨0, Nat.zero_le _, rfl, 0, rfl⟩
      case round =>
        obtain ⟨k, hk, rfl, t, hwr⟩ := hrel
        have HWR := Lib.hid hwr
        by_cases hlt : k < n2
        · obtain ⟨t0, t1, t2⟩ := HT.out k (by rw [HN2.out]; exact hlt)
          have q0 : wr.cell? ⟨b', off' + k * 2, none⟩ = some (.int .i64 (px (gV l m1 (ix ml)) k)) := by rw [hwr]; exact (HCL'.out k hlt).1
          have q1 : wr.cell? ⟨b', off' + k * 2 + 1, none⟩ = some (.int .i64 (py (gV l m1 (ix ml)) k)) := by rw [hwr]; exact (HCL'.out k hlt).2
          have q2 : wr.cell? ⟨b, off, none⟩ = some (.int .i64 (px l 0)) := by rw [hwr]; have := HC0.out; rwa [Nat.zero_mul, Nat.add_zero] at this
          have q3 : wr.cell? ⟨b, off + j * 2, none⟩ = some (.int .i64 (px l j)) := by rw [hwr]; exact HCJ.out
          rw [HJ.out] at t2
          have hk0 : (0 : Int) ≤ (k : Int) := by omega
          have hk1 : (k : Int) < (n2 : Int) := by omega
          have d0 : decide (py (gV l m1 (ix ml)) k < 0) = false := by simp; omega
          have d1 : decide (px (gV l m1 (ix ml)) k < px l 0) = false := by simp; omega
          have d2 : decide (px l j < px (gV l m1 (ix ml)) k) = false := by simp; omega
          clear hwr t0 t1 t2
          go_wp2_with fail
          go_quiet (fail)
          go_wp2
          go_roundw
          case rel => exact ⟨k + 1, by omega, by go_num, t + nq, by rw [HWR.out, World.drewN_drewN]⟩
          case measure => simp [intOf]; omega
        · obtain rfl : k = n2 := by omega
          have hB5 : Below w.heap.size w wr := by rw [hwr]; exact below_drewC hB4
          clear hwr
          go_wp2
          go_ret
          exact ⟨rfl, hB5⟩
    · go_wp2_with fail
      refine (c_sameKnots _ _ _ _ _ _ (gV l m1 (ix ml)) (gV l m1 (ix ml)) _ (by omega) (by omega) (HR2.out.below hB23) HR3.out).mono ?_
      rintro e w4 ⟨he, hb⟩
      rw [HQ.out] at he
      subst he
      have hB4 := hB3.trans (hb.mono hB3.size)
      have hB24 := hB23.trans (hb.mono hB23.size)
      have HR4 := Lib.hid (HR3.out.below hb)
      clear hb
      go_wp2_with fail
      refine (c_sameKnots _ _ _ _ _ _ (gV l m1 (ix ml)) (gV l m1 (ix ml)) _ (by omega) (by omega) (HR2.out.below hB24) HR4.out).mono ?_
      rintro e w5 ⟨he, hb⟩
      rw [HQ.out] at he
      subst he
      have hB5 := hB4.trans (hb.mono hB4.size)
      clear hb
      go_wp2
      go_ret
      exact ⟨rfl, hB5⟩
end Go.Proofs.Ytmcpojnioppgfaa
