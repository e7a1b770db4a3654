/-
  The walk of the law FnEvenShift: it returns true and writes nothing that was there.
-/
import Derived.Test.YtmcpojnioppgfaaGasLawW
import Derived.Test.YtmcpojnioppgfaaGasDraw
import Derived.Test.YtmcpojnioppgfaaGasEven
import Derived.Test.YtmcpojnioppgfaaSameKnots
namespace Go.Proofs.Ytmcpojnioppgfaa
open Go.RowKit

def SRelE (m : Nat) (w4 : World) (i : Value) (wr : World) : Prop := ∃ k : Nat, k ≤ m ∧ i = .int .i64 k ∧ ∃ t, wr = w4.drewN t
set_option maxHeartbeats 4000000 in
set_option maxRecDepth 4000 in
theorem walk_FnEvenShift (A : Option Addr) (n c : Nat) (w : World) (h : RdB w A n) (hn : n ≤ maxLen) (hc : n ≤ c) :
    Calls Try.prog 10 #[.slice A n c] w fun e w' => e = .returned (.bool true) ∧ Below w.heap.size w w' := by
  unfold maxLen at hn
  have HB := Lib.hid h
  clear h
  by_cases hbig : 1048576 < n
  · go_enter Try.func10, Try.ntmps10
    go_wp2
    go_ret
    exact ⟨rfl, Below.refl _ _⟩
  · have hd1 : decide ((1048576 : Int) < (n : Int)) = false := by simp; omega
    go_enter Try.func10, Try.ntmps10
    go_wp2_with fail
    refine (c_DrawGasEven _ _ _ _ HB.out (by omega) hc).mono ?_
    rintro e w1 ⟨A1, n1, c1, l, d, rfl, hd0, hd2, ⟨hn0, hn1, hc1, hr1⟩, hB1⟩
    have HR1 := Lib.hid hr1
    have HL := Lib.hid hr1.len
    have hB11 : Below w1.heap.size w1 w1 := Below.refl _ _
    clear hr1
    go_wp2_with fail
    refine (c_implGasEven _ _ _ l d _ (by omega) HR1.out).mono ?_
    rintro e w2 ⟨A2, n2, c2, rfl, hn2, hO2, hb⟩
    have HR2 := Lib.hid hO2.rd
    have HN2 := Lib.hid hO2.rd.len
    have hB2 := hB1.trans (hb.mono hB1.size)
    have hB12 := hB11.trans hb
    have hB22 : Below w2.heap.size w2 w2 := Below.refl _ _
    clear hO2 hb
    go_wp2_with fail
    refine (c_specGasEven _ _ _ l d _ (by omega) (HR1.out.below hB12)).mono ?_
    rintro e w3 ⟨A3, n3, c3, rfl, hn3, hO3, hb⟩
    have HR3 := Lib.hid hO3.rd
    have hB3 := hB2.trans (hb.mono hB2.size)
    have hB13 := hB12.trans (hb.mono hB12.size)
    have hB23 := hB22.trans hb
    clear hO3 hb
    have HQ := Lib.hid (show eqL (gV l n1 (evG n1 d)) (gV l n1 (evG n1 d)) = true by simp [eqL])
    rcases Bool.eq_false_or_eq_true (okG l n1 (evG n1 d)) with hok | hok
    · have HK := Lib.hid hok
      go_wp2_with fail
      refine (c_sameKnots _ _ _ _ _ _ (gV l n1 (evG n1 d)) (gV l n1 (evG n1 d)) _ (by omega) (by omega) (HR2.out.below hB23) HR3.out).mono ?_
      rintro e w4 ⟨he, hb⟩
      rw [HQ.out] at he
      subst he
      have hB4 := hB3.trans (hb.mono hB3.size)
      have hB14 := hB13.trans (hb.mono hB13.size)
      have hB24 := hB23.trans (hb.mono hB23.size)
      clear hb HR3
      obtain ⟨s, s1, s2, s3, s4, s5, s6, s7, s8⟩ := even_yes (evG_all HL.out d) hok
      clear s7 s8
      have HV := Lib.hid s2
      have HC := Lib.hid (vC_yes s6).1
      have hsn : s + n2 = n1 := by
        have := HN2.out
        rw [s2] at this
        have := HL.out
        simp at *
        omega
      have h2n : 2 ≤ n2 := by have := HL.out; omega
      have hns : (n1 : Int) - (n2 : Int) = (s : Int) := by omega
      have HSN := Lib.hid hsn
      have HR14 := Lib.hid (HR1.out.below hB14)
      have HR24 := Lib.hid (HR2.out.below hB24)
      obtain ⟨b, off, rfl, hb, hcl⟩ := HR14.out.at_ (by omega)
      obtain ⟨b', off', rfl, hb', hcl'⟩ := HR24.out.at_ (by omega)
      have HCL := Lib.hid hcl
      have HCL' := Lib.hid hcl'
      have hs0 : decide ((s : Int) < 0) = false := by simp
      have h2n' : decide ((2 : Int) ≤ (n2 : Int)) = true := by simp; omega
      clear hcl hcl' s2 s6 hok hsn
      go_wp2_with fail
      go_loopw [10] (fun i wr => SRelE n2 w4 i wr) (fun i _ => n2 - (intOf i).toNat)
      case atStart => exact ⟨0, Nat.zero_le _, rfl, 0, rfl⟩
      case round =>
        obtain ⟨k, hk, rfl, t, hwr⟩ := hrel
        have HWR := Lib.hid hwr
        by_cases hlt : k < n2
        · have hka : s + k < l.length := by have := HL.out; have := HSN.out; omega
          have q0 := (HCL'.out k hlt).1
          have q1 := (HCL'.out k hlt).2
          have p0 := (HCL.out (s + k) (by have := HSN.out; omega)).1
          have p1 := (HCL.out (s + k) (by have := HSN.out; omega)).2
          rw [HV.out, sh_px hka] at q0
          rw [HV.out, sh_py hka] at q1
          obtain ⟨_, _, y0, y1⟩ := HC.out (s + k) hka
          have hk0 : (0 : Int) ≤ (k : Int) := by omega
          have hk1 : (k : Int) < (n2 : Int) := by omega
          have hk2 : (0 : Int) ≤ (s : Int) + (k : Int) := by omega
          have hk3 : (s : Int) + (k : Int) < (n1 : Int) := by have := HSN.out; omega
          generalize px l (s + k) = x at *
          generalize py l (s + k) = y at *
          have r0 : wr.cell? ⟨b', off' + k * 2, none⟩ = some (.int .i64 x) := by rw [hwr]; exact q0
          have r1 : wr.cell? ⟨b', off' + k * 2 + 1, none⟩ = some (.int .i64 (y - d)) := by rw [hwr]; exact q1
          have r2 : wr.cell? ⟨b, off + (s + k) * 2, none⟩ = some (.int .i64 x) := by rw [hwr]; exact p0
          have r3 : wr.cell? ⟨b, off + (s + k) * 2 + 1, none⟩ = some (.int .i64 y) := by rw [hwr]; exact p1
          clear q0 q1 p0 p1 hwr
          obtain ⟨r, hr⟩ : ∃ r, r = s + k := ⟨_, rfl⟩
          have hri : (s : Int) + (k : Int) = (r : Int) := by omega
          have hr0 : (0 : Int) ≤ (r : Int) := by omega
          have hr1 : (r : Int) < (n1 : Int) := by omega
          rw [← hr] at r2 r3
          clear hr hk2 hk3 hka
          go_wp2_with fail
          go_quiet (fail)
          go_wp2
          go_roundw
          case rel => exact ⟨k + 1, by omega, by go_num, t + nq, by rw [HWR.out, World.drewN_drewN]⟩
          case measure => simp [intOf]; omega
        · obtain rfl : k = n2 := by omega
          have hB5 : Below w.heap.size w wr := by rw [hwr]; exact below_drewC hB4
          clear hwr
          go_wp2
          go_ret
          exact ⟨rfl, hB5⟩
    · go_wp2_with fail
      refine (c_sameKnots _ _ _ _ _ _ (gV l n1 (evG n1 d)) (gV l n1 (evG n1 d)) _ (by omega) (by omega) (HR2.out.below hB23) HR3.out).mono ?_
      rintro e w4 ⟨he, hb⟩
      rw [HQ.out] at he
      subst he
      have hB4 := hB3.trans (hb.mono hB3.size)
      have hB24 := hB23.trans (hb.mono hB23.size)
      have HR4 := Lib.hid (HR3.out.below hb)
      clear hb
      go_wp2_with fail
      refine (c_sameKnots _ _ _ _ _ _ (gV l n1 (evG n1 d)) (gV l n1 (evG n1 d)) _ (by omega) (by omega) (HR2.out.below hB24) HR4.out).mono ?_
      rintro e w5 ⟨he, hb⟩
      rw [HQ.out] at he
      subst he
      have hB5 := hB4.trans (hb.mono hB4.size)
      clear hb
      go_wp2
      go_ret
      exact ⟨rfl, hB5⟩
end Go.Proofs.Ytmcpojnioppgfaa
