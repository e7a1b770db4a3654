/-
  The walk of the law FnGas: it returns true and writes nothing that was there.
-/
import Derived.Test.YtmcpojnioppgfaaGasLawW
import Derived.Test.YtmcpojnioppgfaaGasDrawC
import Derived.Test.YtmcpojnioppgfaaGasImpl
import Derived.Test.YtmcpojnioppgfaaGasSpec
import Derived.Test.YtmcpojnioppgfaaSameKnots
namespace Go.Proofs.Ytmcpojnioppgfaa
open Go.RowKit

def GasWalk (l : List (Int × Int)) (g : Nat → Int) (w4 : World) (at_ i : Value) (wr : World) : Prop := ∃ k : Nat, k ≤ l.length ∧ i = .int .i64 k ∧ at_ = .int .i64 (gasP l g k).length ∧ ∃ t, wr = w4.drewN t
theorem gas_len_le {l : List (Int × Int)} {m : Nat} {g : Nat → Int} (h : okG l m g = true) {k : Nat} (hk : k ≤ l.length) : (gasP l g k).length ≤ (gV l m g).length := by
  rw [gV_yes h]
  obtain ⟨r, hr, _⟩ := gasP_rest (l := l) (g := g) hk
  rw [hr]
  simp
set_option maxHeartbeats 4000000 in
set_option maxRecDepth 4000 in
theorem walk_FnGas (A : Option Addr) (n c : Nat) (w : World) (h : RdB w A n) (hn : n ≤ maxLen) (hc : n ≤ c) :
    Calls Try.prog 3 #[.slice A n c] w fun e w' => e = .returned (.bool true) ∧ Below w.heap.size w w' := by
  unfold maxLen at hn
  have HB := Lib.hid h
  clear h
  by_cases hbig : 1048576 < n
  · go_enter Try.func3, Try.ntmps3
    go_wp2
    go_ret
    exact ⟨rfl, Below.refl _ _⟩
  · have hd1 : decide ((1048576 : Int) < (n : Int)) = false := by simp; omega
    go_enter Try.func3, Try.ntmps3
    go_wp2_with fail
    refine (c_DrawGasCurve _ _ _ _ HB.out (by omega) hc).mono ?_
    rintro e w1 ⟨A1, n1, c1, l, B1, m1, cm1, ml, rfl, hm7, hmc, hrm, ⟨hn0, hn1, hc1, hr1⟩, hB1⟩
    have HR1 := Lib.hid hr1
    have HM1 := Lib.hid hrm
    have HL := Lib.hid hr1.len
    have HML := Lib.hid hrm.len
    have hB11 : Below w1.heap.size w1 w1 := Below.refl _ _
    clear hr1 hrm
    go_wp2_with fail
    refine (c_implGasCurve _ _ _ l _ _ _ ml _ (by omega) (by omega) HR1.out HM1.out).mono ?_
    rintro e w2 ⟨A2, n2, c2, rfl, hn2, hO2, hb⟩
    have HR2 := Lib.hid hO2.rd
    have HN2 := Lib.hid hO2.rd.len
    have hB2 := hB1.trans (hb.mono hB1.size)
    have hB12 := hB11.trans hb
    have hB22 : Below w2.heap.size w2 w2 := Below.refl _ _
    clear hO2 hb
    go_wp2_with fail
    refine (c_specGasCurve _ _ _ l _ _ _ ml _ (by omega) (by omega) (HR1.out.below hB12) (HM1.out.below hB12)).mono ?_
    rintro e w3 ⟨A3, n3, c3, rfl, hn3, hO3, hb⟩
    have HR3 := Lib.hid hO3.rd
    have hB3 := hB2.trans (hb.mono hB2.size)
    have hB13 := hB12.trans (hb.mono hB12.size)
    have hB23 := hB22.trans hb
    clear hO3 hb
    have HQ := Lib.hid (show eqL (gV l m1 (ix ml)) (gV l m1 (ix ml)) = true by simp [eqL])
    rcases Bool.eq_false_or_eq_true (okG l m1 (ix ml)) with hok | hok
    · have HK := Lib.hid hok
      go_wp2_with fail
      refine (c_sameKnots _ _ _ _ _ _ (gV l m1 (ix ml)) (gV l m1 (ix ml)) _ (by omega) (by omega) (HR2.out.below hB23) HR3.out).mono ?_
      rintro e w4 ⟨he, hb⟩
      rw [HQ.out] at he
      subst he
      have hB4 := hB3.trans (hb.mono hB3.size)
      have hB14 := hB13.trans (hb.mono hB13.size)
      have hB24 := hB23.trans (hb.mono hB23.size)
      clear hb HR3
      have HNX := Lib.hid (fun k hk ha => gas_next (k := k) hok hk ha)
      have HLE := Lib.hid (fun k hk => gas_len_le (k := k) hok hk)
      have hy := okG_yes hok
      have HVO := Lib.hid (show vC (gV l m1 (ix ml)) = true by rw [gV_yes hok]; exact hy.2.2.2)
      have HGV := Lib.hid (show (gasP l (ix ml) n1).length = n2 by rw [← HN2.out, gV_yes hok, HL.out])
      have HLG := Lib.hid (fun k hk => lag_yes (k := k) hy.2.2.1 hk)
      have HCB := Lib.hid (vC_yes hy.1).1
      have hm1n : m1 = n1 := hy.2.1.trans HL.out
      have hmn1 : n1 ≤ m1 := by omega
      have HR14 := Lib.hid (HR1.out.below hB14)
      have HR24 := Lib.hid (HR2.out.below hB24)
      have HM14 := Lib.hid (HM1.out.below hB14)
      obtain ⟨b, off, rfl, hb, hcl⟩ := HR14.out.at_ (by omega)
      obtain ⟨bm, om, rfl, hbm, hcm⟩ := HM14.out.at_ (by omega)
      have h2n : 1 ≤ n2 := by
        have := (vC_yes HVO.out).2.2.1
        have := HN2.out
        omega
      obtain ⟨b', off', rfl, hb', hcl'⟩ := HR24.out.at_ (by omega)
      have HCL := Lib.hid hcl
      have HCM := Lib.hid hcm
      have HCL' := Lib.hid hcl'
      clear hcl hcm hcl' hok hy hm1n
      go_wp2_with fail
      go_loopw [9, 10] (fun a i wr => GasWalk l (ix ml) w4 a i wr) (fun _ i _ => n1 - (intOf i).toNat)
      case atStart => exact ⟨0, Nat.zero_le _, rfl, rfl, 0, rfl⟩
      case round =>
        obtain ⟨k, hk, rfl, rfl, t, hwr⟩ := hrel
        rw [HL.out] at hk
        have HWR := Lib.hid hwr
        have hle := HLE.out k (by rw [HL.out]; exact hk)
        rw [HN2.out] at hle
        obtain ⟨q, hq⟩ : ∃ q, (gasP l (ix ml) k).length = q := ⟨_, rfl⟩
        rw [hq] at hle ⊢
        have HQL := Lib.hid hq
        have HR9 := Lib.hid (show RdP wr (some ⟨b', off', none⟩) n2 (gV l m1 (ix ml)) by
          rw [hwr]
          exact ⟨HR24.out.len, HR24.out.at_⟩)
        have hB9 : Below w.heap.size w wr := by rw [hwr]; exact below_drewC hB4
        clear hq
        by_cases hlt : k < n1
        · have hkl : k < l.length := by have := HL.out; omega
          by_cases hqn : q < n2
          · obtain ⟨f1, f2⟩ := HNX.out k hkl (by rw [HQL.out, HN2.out]; exact hqn)
            rw [HQL.out] at f1 f2
            have F1 := Lib.hid f1
            have F2 := Lib.hid f2
            clear f1 f2
            have q0 : wr.cell? ⟨b', off' + q * 2, none⟩ = some (.int .i64 (px (gV l m1 (ix ml)) q)) := by rw [hwr]; exact (HCL'.out q hqn).1
            have q1 : wr.cell? ⟨b', off' + q * 2 + 1, none⟩ = some (.int .i64 (py (gV l m1 (ix ml)) q)) := by rw [hwr]; exact (HCL'.out q hqn).2
            have p0 : wr.cell? ⟨b, off + k * 2, none⟩ = some (.int .i64 (px l k)) := by rw [hwr]; exact (HCL.out k hlt).1
            have p1 : wr.cell? ⟨b, off + k * 2 + 1, none⟩ = some (.int .i64 (py l k)) := by rw [hwr]; exact (HCL.out k hlt).2
            have r0 : wr.cell? ⟨bm, om + k, none⟩ = some (.int .i64 (ix ml k)) := by rw [hwr]; exact HCM.out k (by omega)
            obtain ⟨z0, z1⟩ := HLG.out k hkl
            obtain ⟨_, _, y0, y1⟩ := HCB.out k hkl
            have hk0 : (0 : Int) ≤ (k : Int) := by omega
            have hk1 : (k : Int) < (n1 : Int) := by omega
            have hk2 : (k : Int) < (m1 : Int) := by omega
            have hq0 : (0 : Int) ≤ (q : Int) := by omega
            have hq1 : (q : Int) < (n2 : Int) := by omega
            by_cases he : px l k = px (gV l m1 (ix ml)) q
            · obtain ⟨g1, g2⟩ := F1.out he
              have G2 := Lib.hid g2
              have he' : (px l k == px (gV l m1 (ix ml)) q) = true := by simpa using he
              rw [g1] at q1
              rw [← he] at q0
              have hgt : decide (py l k < py l k - ix ml k) = false := by simp; omega
              clear hwr g1 g2 he
              go_wp2_with fail
              go_quiet (fail)
              go_wp2_with fail
              go_quiet (fail)
              go_wp2
              go_roundw
              case rel => exact ⟨k + 1, by omega, by go_num, by rw [G2.out]; go_num, _, by rw [HWR.out, World.drewN_drewN]⟩
              case measure => simp [intOf]; omega
            · have G2 := Lib.hid (F2.out he)
              have he' : (px l k == px (gV l m1 (ix ml)) q) = false := by simpa using he
              clear hwr he
              go_wp2_with fail
              go_quiet (fail)
              go_wp2
              go_roundw
              case rel => exact ⟨k + 1, by omega, by go_num, by rw [G2.out], _, by rw [HWR.out, World.drewN_drewN]⟩
              case measure => simp [intOf]; omega
          · obtain rfl : q = n2 := by omega
            clear hwr
            go_wp2_with fail
            refine (c_implCurveValid _ _ _ (gV l m1 (ix ml)) _ (by omega) HR9.out).mono ?_
            rintro e w9 ⟨he, hb9⟩
            rw [HVO.out] at he
            subst he
            have hB10 := hB9.trans (hb9.mono hB9.size)
            clear hb9
            go_wp2
            go_ret
            exact ⟨rfl, hB10⟩
        · obtain rfl : k = n1 := by omega
          obtain rfl : q = n2 := by have := HGV.out; have := HQL.out; omega
          clear hwr
          go_wp2_with fail
          refine (c_implCurveValid _ _ _ (gV l m1 (ix ml)) _ (by omega) HR9.out).mono ?_
          rintro e w9 ⟨he, hb9⟩
          rw [HVO.out] at he
          subst he
          have hB10 := hB9.trans (hb9.mono hB9.size)
          clear hb9
          go_wp2
          go_ret
          exact ⟨rfl, hB10⟩
    · go_wp2_with fail
      refine (c_sameKnots _ _ _ _ _ _ (gV l m1 (ix ml)) (gV l m1 (ix ml)) _ (by omega) (by omega) (HR2.out.below hB23) HR3.out).mono ?_
      rintro e w4 ⟨he, hb⟩
      rw [HQ.out] at he
      subst he
      have hB4 := hB3.trans (hb.mono hB3.size)
      have hB24 := hB23.trans (hb.mono hB23.size)
      have HR4 := Lib.hid (HR3.out.below hb)
      clear hb
      go_wp2_with fail
      refine (c_sameKnots _ _ _ _ _ _ (gV l m1 (ix ml)) (gV l m1 (ix ml)) _ (by omega) (by omega) (HR2.out.below hB24) HR4.out).mono ?_
      rintro e w5 ⟨he, hb⟩
      rw [HQ.out] at he
      subst he
      have hB5 := hB4.trans (hb.mono hB4.size)
      clear hb
      go_wp2
      go_ret
      exact ⟨rfl, hB5⟩
end Go.Proofs.Ytmcpojnioppgfaa
