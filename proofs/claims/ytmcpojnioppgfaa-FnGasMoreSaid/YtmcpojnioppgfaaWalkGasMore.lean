/-
  The walk of the law FnGasMore: it returns true and writes nothing that was there.
-/
import Derived.Test.YtmcpojnioppgfaaGasLawW
import Derived.Test.YtmcpojnioppgfaaGasDrawC
import Derived.Test.YtmcpojnioppgfaaGasImpl
import Derived.Test.YtmcpojnioppgfaaGasSpec
import Derived.Test.YtmcpojnioppgfaaSameKnots
namespace Go.Proofs.Ytmcpojnioppgfaa
open Go.RowKit

def more (l : List Int) : List Int := l.map (· + 1)
theorem more_ix {l : List Int} {i : Nat} (h : i < l.length) : ix (more l) i = ix l i + 1 := by
  rw [ix_eq (by simpa [more] using h), ix_eq h]
  simp [more]
theorem more_take {l : List Int} {k : Nat} (h : k < l.length) : (more l).take (k + 1) = (more l).take k ++ [ix l k + 1] := by
  rw [List.take_succ_eq_append_getElem (by simpa [more] using h), ix_eq h]
  simp [more]
theorem more_len (l : List Int) : (more l).length = l.length := by simp [more]
def MoreRel (ml : List Int) (w4 : World) (o i : Value) (wr : World) : Prop := ∃ k : Nat, k ≤ ml.length ∧ i = .int .i64 k ∧ OwnI wr w4.heap.size 3 o k ((more ml).take k) ∧ Below w4.heap.size w4 wr
def TopRel (m : Nat) (w4 : World) (i : Value) (wr : World) : Prop := ∃ k : Nat, k ≤ m ∧ i = .int .i64 k ∧ ∃ t, wr = w4.drewN t
/-- a year more: all knots that were left are left, a year younger -/
theorem gas_more {l : List (Int × Int)} {m : Nat} {ml : List Int} (h : okG l m (ix ml) = true) (hm : ml.length = m) (h' : okG l m (ix (more ml)) = true) (h0 : py (gV l m (ix ml)) 0 ≠ 0) : gV l m (ix (more ml)) = less1 (gV l m (ix ml)) := by
  obtain ⟨a1, a2, a3, a4⟩ := okG_yes h
  rw [gV_yes h] at h0
  rw [gV_yes h, gV_yes h']
  refine gasP_more (g := ix ml) (g' := ix (more ml)) (fun i hi => more_ix (by omega)) (fun i hi => ?_) (Nat.le_refl _)
  have b0 := ((vC_yes a4).1 0 (by have := (vC_yes a4).2.2.1; omega)).2.2.1
  rcases Nat.eq_zero_or_pos i with e | e
  · rw [e]; omega
  · have := (vC_mono a4 e hi).2
    omega
set_option maxHeartbeats 4000000 in
set_option maxRecDepth 4000 in
theorem walk_FnGasMore (A : Option Addr) (n c : Nat) (w : World) (h : RdB w A n) (hn : n ≤ maxLen) (hc : n ≤ c) :
    Calls Try.prog 4 #[.slice A n c] w fun e w' => e = .returned (.bool true) ∧ Below w.heap.size w w' := by
  unfold maxLen at hn
  have HB := Lib.hid h
  clear h
  obtain ⟨j0, hj, hy0, hy1, hy2⟩ := info_parts info_int
  have HJ := Lib.hid hj
  have HY0 := Lib.hid hy0
  have HY1 := Lib.hid hy1
  have HY2 := Lib.hid hy2
  clear hj hy0 hy1 hy2
  by_cases hbig : 1048576 < n
  · go_enter Try.func4, Try.ntmps4
    go_wp2
    go_ret
    exact ⟨rfl, Below.refl _ _⟩
  · have hd1 : decide ((1048576 : Int) < (n : Int)) = false := by simp; omega
    go_enter Try.func4, Try.ntmps4
    go_wp2_with fail
    refine (c_DrawGasCurve _ _ _ _ HB.out (by omega) hc).mono ?_
    rintro e w1 ⟨A1, n1, c1, l, B1, m1, cm1, ml, rfl, hm7, hmc, hrm, ⟨hn0, hn1, hc1, hr1⟩, hB1⟩
    have HR1 := Lib.hid hr1
    have HM1 := Lib.hid hrm
    have HL := Lib.hid hr1.len
    have HML := Lib.hid hrm.len
    have hB11 : Below w1.heap.size w1 w1 := Below.refl _ _
    clear hr1 hrm
    go_wp2_with fail
    refine (c_implGasCurve _ _ _ l _ _ _ ml _ (by omega) (by omega) HR1.out HM1.out).mono ?_
    rintro e w2 ⟨A2, n2, c2, rfl, hn2, hO2, hb⟩
    have HR2 := Lib.hid hO2.rd
    have HN2 := Lib.hid hO2.rd.len
    have hB2 := hB1.trans (hb.mono hB1.size)
    have hB12 := hB11.trans hb
    have hB22 : Below w2.heap.size w2 w2 := Below.refl _ _
    clear hO2 hb
    go_wp2_with fail
    refine (c_specGasCurve _ _ _ l _ _ _ ml _ (by omega) (by omega) (HR1.out.below hB12) (HM1.out.below hB12)).mono ?_
    rintro e w3 ⟨A3, n3, c3, rfl, hn3, hO3, hb⟩
    have HR3 := Lib.hid hO3.rd
    have hB3 := hB2.trans (hb.mono hB2.size)
    have hB13 := hB12.trans (hb.mono hB12.size)
    have hB23 := hB22.trans hb
    clear hO3 hb
    have HQ := Lib.hid (show eqL (gV l m1 (ix ml)) (gV l m1 (ix ml)) = true by simp [eqL])
    rcases Bool.eq_false_or_eq_true (okG l m1 (ix ml)) with hok | hok
    · have HK := Lib.hid hok
      go_wp2_with fail
      refine (c_sameKnots _ _ _ _ _ _ (gV l m1 (ix ml)) (gV l m1 (ix ml)) _ (by omega) (by omega) (HR2.out.below hB23) HR3.out).mono ?_
      rintro e w4 ⟨he, hb⟩
      rw [HQ.out] at he
      subst he
      have hB4 := hB3.trans (hb.mono hB3.size)
      have hB14 := hB13.trans (hb.mono hB13.size)
      have hB24 := hB23.trans (hb.mono hB23.size)
      clear hb HR3
      have hy := okG_yes hok
      have HLG := Lib.hid (fun k hk => lag_yes (k := k) hy.2.2.1 hk)
      have hm1n : m1 = n1 := hy.2.1.trans HL.out
      have hmn1 : m1 ≤ n1 := by omega
      have HMR := Lib.hid (fun h' h0 => gas_more hok HML.out h' h0)
      have HVO := Lib.hid (show vC (gV l m1 (ix ml)) = true by rw [gV_yes hok]; exact hy.2.2.2)
      have h2n : 2 ≤ n2 := by
        have := (vC_yes HVO.out).2.2.1
        have := HN2.out
        omega
      have HCB := Lib.hid (vC_yes HVO.out).1
      have HM14 := Lib.hid (HM1.out.below hB14)
      have hB44 : Below w4.heap.size w4 w4 := Below.refl _ _
      clear hok hy hm1n
      go_wp2_with fail
      go_loopw [9, 10] (fun o i wr => MoreRel ml w4 o i wr) (fun _ i _ => m1 - (intOf i).toNat)
      case atStart => exact ⟨0, Nat.zero_le _, rfl, OwnI.empty w4 3 (Nat.le_refl _), (Below.refl _ _).alloc (Nat.le_refl _) _⟩
      case round =>
        obtain ⟨k, hk, rfl, hO, hB⟩ := hrel
        rw [HML.out] at hk
        have HO := Lib.hid hO
        have hsz := hB.size
        clear hO
        by_cases hlt : k < m1
        · obtain ⟨bm, om, rfl, hbm, hcm⟩ := HM14.out.at_ (by omega)
          have hck := hcm k hlt
          rw [← hB.cell (p := ⟨bm, om + k, none⟩) hbm] at hck
          obtain ⟨z0, z1⟩ := HLG.out k (by have := HL.out; omega)
          have HT := Lib.hid (more_take (l := ml) (k := k) (by rw [HML.out]; exact hlt))
          have hk0 : (0 : Int) ≤ (k : Int) := by omega
          have hk1 : (k : Int) < (m1 : Int) := by omega
          clear hcm
          go_wp2_with (at_builtin; refine wpList_appendI (by rfl) _ _ 24 rfl w4.heap.size 3 j0 (.int .i64 0) Try.underlying24 HJ.out HY0.out HY1.out HY2.out rfl _ k ((more ml).take k) rfl (HO.out.alloc _) ⟨wr.heap.size, 0, none⟩ (ix ml k + 1) rfl (cell_1 _ _ _) (by omega) (by simp; omega) ?_; intro v' w5 hO5 hB5)
          go_roundw
          case rel => exact ⟨k + 1, by rw [HML.out]; omega, by go_num, by rw [HT.out]; exact hO5, (hB.alloc hsz _).trans hB5⟩
          case measure => simp [intOf]; omega
        · obtain rfl : k = m1 := by omega
          obtain ⟨A5, c5, rfl, _⟩ := HO.out.form
          have HX := Lib.hid (show RdI wr A5 k (more ml) by
            have := HO.out.rdA
            rwa [List.take_of_length_le (by rw [more_len, HML.out]; exact Nat.le_refl _)] at this)
          have hB5 := hB4.trans (hB.mono hB4.size)
          have hB15 := hB14.trans (hB.mono hB14.size)
          have hB25 := hB24.trans (hB.mono hB24.size)
          clear HO
          go_wp2_with fail
          refine (c_implGasCurve _ _ _ l _ _ _ (more ml) _ (by omega) (by omega) (HR1.out.below hB15) HX.out).mono ?_
          rintro e w6 ⟨A6, n6, c6, rfl, hn6, hO6, hb⟩
          have HR6 := Lib.hid hO6.rd
          have hB6 := hB5.trans (hb.mono hB5.size)
          have hB26 := hB25.trans (hb.mono hB25.size)
          have HR26 := Lib.hid (HR2.out.below hB26)
          clear hO6 hb
          obtain ⟨b', off', rfl, hb', hcl'⟩ := HR26.out.at_ (by omega)
          have HCL' := Lib.hid hcl'
          have hc00 := (hcl' 0 (by omega)).2
          rw [Nat.zero_mul, Nat.add_zero] at hc00
          have hz2 : (0 : Int) < (n2 : Int) := by omega
          have hy00 := (HCB.out 0 (by rw [HN2.out]; omega)).2.2.1
          clear hcl'
          by_cases hz : py (gV l k (ix ml)) 0 = 0
          · have hz' : (py (gV l k (ix ml)) 0 == 0) = true := by simpa using hz
            have hge : decide ((0 : Int) ≤ py (gV l k (ix ml)) 0) = true := by simpa using hy00
            clear hz
            go_wp2
            go_ret
            exact ⟨rfl, hB6⟩
          · have hz' : (py (gV l k (ix ml)) 0 == 0) = false := by simpa using hz
            have hge : decide ((0 : Int) ≤ py (gV l k (ix ml)) 0) = true := by simpa using hy00
            rcases Bool.eq_false_or_eq_true (okG l k (ix (more ml))) with hp | hp
            · have HE := Lib.hid (HMR.out hp hz)
              have HN6 := Lib.hid HR6.out.len
              obtain rfl : n6 = n2 := by
                have a := HN6.out
                have b := HN2.out
                rw [HE.out, less1_len] at a
                omega
              obtain ⟨b6, off6, rfl, hb6, hcl6⟩ := HR6.out.at_ (by omega)
              have HCL6 := Lib.hid hcl6
              have hnn : ((n6 : Int) != (n6 : Int)) = false := by simp
              clear hz hcl6
              rw [hp]
              go_wp2_with fail
              go_loopw [13] (fun i wr => TopRel n6 w6 i wr) (fun i _ => n6 - (intOf i).toNat)
              case atStart => exact ⟨0, Nat.zero_le _, rfl, 0, rfl⟩
              case round =>
                obtain ⟨q, hq, rfl, t, hwr⟩ := hrel
                have HWR := Lib.hid hwr
                by_cases hlq : q < n6
                · have hql : q < (gV l k (ix ml)).length := by rw [HN2.out]; exact hlq
                  have q0 := (HCL6.out q hlq).1
                  have q1 := (HCL6.out q hlq).2
                  rw [HE.out, less1_px hql] at q0
                  rw [HE.out, less1_py hql] at q1
                  have r0 : wr.cell? ⟨b6, off6 + q * 2, none⟩ = some (.int .i64 (px (gV l k (ix ml)) q)) := by rw [hwr]; exact q0
                  have r1 : wr.cell? ⟨b6, off6 + q * 2 + 1, none⟩ = some (.int .i64 (py (gV l k (ix ml)) q - 1)) := by rw [hwr]; exact q1
                  have r2 : wr.cell? ⟨b', off' + q * 2, none⟩ = some (.int .i64 (px (gV l k (ix ml)) q)) := by rw [hwr]; exact (HCL'.out q hlq).1
                  have r3 : wr.cell? ⟨b', off' + q * 2 + 1, none⟩ = some (.int .i64 (py (gV l k (ix ml)) q)) := by rw [hwr]; exact (HCL'.out q hlq).2
                  obtain ⟨_, _, y0, y1⟩ := HCB.out q hql
                  have hq0 : (0 : Int) ≤ (q : Int) := by omega
                  have hq1 : (q : Int) < (n6 : Int) := by omega
                  clear hwr q0 q1 hc00 hz' hge hy00
                  generalize px (gV l k (ix ml)) q = x at *
                  generalize py (gV l k (ix ml)) q = y at *
                  have hxx : (x != x) = false := by simp
                  have hyy : (y - 1 != y - 1) = false := by simp
                  go_wp2_with fail
                  go_quiet (fail)
                  go_wp2
                  go_roundw
                  case rel => exact ⟨q + 1, by omega, by go_num, t + nq, by rw [HWR.out, World.drewN_drewN]⟩
                  case measure => simp [intOf]; omega
                · obtain rfl : q = n6 := by omega
                  have hB7 : Below w.heap.size w wr := by rw [hwr]; exact below_drewC hB6
                  clear hwr
                  go_wp2
                  go_ret
                  exact ⟨rfl, hB7⟩
            · clear hz
              go_wp2
              go_ret
              exact ⟨rfl, hB6⟩
    · go_wp2_with fail
      refine (c_sameKnots _ _ _ _ _ _ (gV l m1 (ix ml)) (gV l m1 (ix ml)) _ (by omega) (by omega) (HR2.out.below hB23) HR3.out).mono ?_
      rintro e w4 ⟨he, hb⟩
      rw [HQ.out] at he
      subst he
      have hB4 := hB3.trans (hb.mono hB3.size)
      have hB24 := hB23.trans (hb.mono hB23.size)
      have HR4 := Lib.hid (HR3.out.below hb)
      clear hb
      go_wp2_with fail
      refine (c_sameKnots _ _ _ _ _ _ (gV l m1 (ix ml)) (gV l m1 (ix ml)) _ (by omega) (by omega) (HR2.out.below hB24) HR4.out).mono ?_
      rintro e w5 ⟨he, hb⟩
      rw [HQ.out] at he
      subst he
      have hB5 := hB4.trans (hb.mono hB4.size)
      clear hb
      go_wp2
      go_ret
      exact ⟨rfl, hB5⟩
end Go.Proofs.Ytmcpojnioppgfaa
