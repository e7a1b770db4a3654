/-
  The walk of the law FnExactStackSum: it returns true and writes nothing that was there.
-/
import Derived.Test.YtbaplcdedijaeaaMarkInts
import Derived.Test.YtbaplcdedijaeaaStackSum
namespace Go.Proofs.Ytbaplcdedijaeaa
open Go.RowKit

set_option maxHeartbeats 2000000 in
theorem walk_FnExactStackSum (A : Option Addr) (n c : Nat) (rs : List RV) (w : World) (h : RdR w A n rs) (hn : n ≤ maxLen) (hf : ∀ i, i < rs.length → (rv rs i).n ≤ maxLen) :
    Calls Try.prog 8 #[.slice A n c] w fun e w' => e = .returned (.bool true) ∧ Below w.heap.size w w' := by
  unfold maxLen at hn hf
  have HR := Lib.hid h
  have HF := Lib.hid (show Fits rs from fun i hi => by have := hf i hi; omega)
  have hrl := h.len
  clear h hf
  go_enter Try.func8, Try.ntmps8
  go_wp2_with fail
  refine (c_szIntSS _ _ _ rs _ (by omega) HR.out HF.out).mono ?_
  rintro e w' ⟨x, rfl, rfl, hx⟩
  rcases hx with hx | ⟨x0, hn1, hs⟩
  · go_wp2
    go_ret
    exact ⟨rfl, Below.refl _ _⟩
  · have hx0 : decide (x < 0) = false := by simp; omega
    have HS := Lib.hid (show Short rs from fun i hi => by have := hs i (by omega); omega)
    clear hs hrl
    go_wp2_with fail
    refine (c_toIntSS _ _ _ rs _ (by omega) HR.out HS.out).mono ?_
    rintro e w1 ⟨rs1, rfl, hr1, hv1, hs1, _, hb1⟩
    have R1 := Lib.hid hr1
    have V1 := Lib.hid hv1
    have S1 := Lib.hid hs1
    have hB1 := hb1
    clear hr1 hv1 hs1 hb1
    go_wp2_with fail
    refine (c_specStackSum _ _ _ rs1 _ (by omega) R1.out S1.out).mono ?_
    rintro e w2 ⟨A2, n2, c2, rfl, hn2, hO2, hb⟩
    rw [V1.out] at hO2
    rw [V1.out]
    have HW := Lib.hid hO2.rd
    have hB2 := hB1.trans (hb.mono hB1.size)
    have hB22 : Below w2.heap.size w2 w2 := Below.refl _ _
    clear hb R1 hO2
    go_wp2_with fail
    refine (c_toIntSS _ _ _ rs _ (by omega) (HR.out.below hB2) HS.out).mono ?_
    rintro e w3 ⟨rs3, rfl, hr3, hv3, hs3, hh3, hb⟩
    have R3 := Lib.hid hr3
    have V3 := Lib.hid hv3
    have S3 := Lib.hid hs3
    have H3 := Lib.hid hh3.rows
    have hB3 := hB2.trans (hb.mono hB2.size)
    have hB23 := hB22.trans (hb.mono hB22.size)
    have hB33 : Below w3.heap.size w3 w3 := Below.refl _ _
    clear hr3 hv3 hs3 hb hh3
    go_wp2_with fail
    refine (c_implStackSum _ _ _ rs3 _ (by omega) R3.out S3.out).mono ?_
    rintro e w4 ⟨A4, n4, c4, rfl, hn4, hO4, hb⟩
    rw [V3.out] at hO4
    rw [V3.out]
    have HO4 := Lib.hid hO4
    have R4 := Lib.hid (R3.out.below hb)
    have hB4 := hB3.trans (hb.mono hB3.size)
    have hB24 := hB23.trans (hb.mono hB23.size)
    have hB34 := hB33.trans hb
    clear hb R3 hO4
    have hne : (vStack (vals rs) != vStack (vals rs)) = false := by simp
    have hee : eqI (sumV (vals rs)) (sumV (vals rs)) = true := by simp [eqI]
    go_wp2_with fail
    refine (c_eqIntS _ _ _ _ _ _ (sumV (vals rs)) (sumV (vals rs)) _ (by omega) (by omega) HO4.out.rd (HW.out.below hB24)).mono ?_
    intro e w5 hq
    obtain ⟨rfl, hb⟩ := hq.below
    have hB5 := hB4.trans (hb.mono hB4.size)
    have hB25 := hB24.trans (hb.mono hB24.size)
    have hB35 := hB34.trans (hb.mono hB34.size)
    have HO5 := Lib.hid (HO4.out.below hb)
    have R5 := Lib.hid (R4.out.below hb)
    clear hb hq R4 HO4
    go_wp2_with fail
    refine (c_toIntSS _ _ _ rs _ (by omega) (HR.out.below hB5) HS.out).mono ?_
    rintro e w6 ⟨rs6, rfl, hr6, hv6, hs6, _, hb⟩
    have R6 := Lib.hid hr6
    have V6 := Lib.hid hv6
    have S6 := Lib.hid hs6
    have RX := Lib.hid (R5.out.below hb)
    have HO6 := Lib.hid (HO5.out.below hb)
    have hB6 := hB5.trans (hb.mono hB5.size)
    have hB26 := hB25.trans (hb.mono hB25.size)
    have hB36 := hB35.trans (hb.mono hB35.size)
    clear hr6 hv6 hs6 hb R5 HO5
    go_wp2_with fail
    refine (c_eqIntSS _ _ _ _ _ _ rs3 rs6 _ (by omega) (by omega) RX.out R6.out S3.out S6.out).mono ?_
    intro e w7 hq
    obtain ⟨he, hb⟩ := hq.below
    rw [show eqR (vals rs3) (vals rs6) = true by rw [V3.out, V6.out]; simp [eqR]] at he
    subst he
    have R7 := Lib.hid (RX.out.below hb)
    have HO7 := Lib.hid (HO6.out.below hb)
    have hB7 := hB6.trans (hb.mono hB6.size)
    have hB27 := hB26.trans (hb.mono hB26.size)
    have hB37 := hB36.trans (hb.mono hB36.size)
    clear hb hq RX HO6 R6
    have H7 := Lib.hid (H3.out.below hB37)
    go_wp2_with fail
    refine (c_markIntSS _ w3.heap.size n _ rs3 _ (by omega) R7.out H7.out).mono ?_
    rintro e w8 ⟨k8, rfl, hk8, hoff⟩
    have hz2 := hB2.size
    have hz23 := hB23.size
    have hB8 := hB7.trans (hoff.below.mono (by omega))
    have hB28 := hB27.trans (hoff.below.mono (by omega))
    have HO8 := Lib.hid (HO7.out.of_same (w' := w8) fun j hj _ => hoff.above j hj)
    clear hoff R7 HO7 H7
    have hd8 : decide (k8 < 0) = false := by simp; omega
    go_wp2_with fail
    refine (c_eqIntS _ _ _ _ _ _ (sumV (vals rs)) (sumV (vals rs)) _ (by omega) (by omega) HO8.out.rd (HW.out.below hB28)).mono ?_
    intro e w9 hq
    obtain ⟨rfl, hb⟩ := hq.below
    have hB9 := hB8.trans (hb.mono hB8.size)
    have hB29 := hB28.trans (hb.mono hB28.size)
    have HO9 := Lib.hid (HO8.out.below hb)
    clear hb hq HO8
    obtain ⟨g4, hg4, hrow4⟩ := HO9.out.home
    have HR4 := Lib.hid hrow4
    clear hrow4
    go_wp2_with fail
    refine (c_markIntS _ g4 n4 _ 1 _ (by omega) (by omega) (by omega) HR4.out).mono ?_
    rintro e w10 ⟨rfl, hm10, hg10, hs10, _⟩
    have hz3 := hB23.size
    have hB10 := hB9.trans ((Below.refl _ _).grown hg10 hB9.size (fun k hk => by injection hk with hk; have := hB3.size; omega))
    have hB210 := hB29.trans ((Below.refl _ _).grown hg10 hB29.size (fun k hk => by injection hk with hk; omega))
    have HM := Lib.hid (mark_rdI HR4.out hm10)
    clear hg10 hs10 hm10 HO9
    have hk10 : decide ((1 : Int) + (n4 : Int) < 0) = false := by simp; omega
    have hne10 : ((1 : Int) + (n4 : Int) != 1 + (n4 : Int)) = false := by simp
    go_wp2_with fail
    refine (c_heldIntS _ n4 _ 1 _ (by omega) (by omega) (by omega) HM.out).mono ?_
    rintro e w' ⟨rfl, rfl⟩
    go_wp2_with fail
    refine (c_toIntSS _ _ _ rs _ (by omega) (HR.out.below hB10) HS.out).mono ?_
    rintro e w11 ⟨rs11, rfl, hr11, hv11, hs11, _, hb⟩
    have R11 := Lib.hid hr11
    have V11 := Lib.hid hv11
    have S11 := Lib.hid hs11
    have hB11 := hB10.trans (hb.mono hB10.size)
    have hB211 := hB210.trans (hb.mono hB210.size)
    have HM11 := Lib.hid (HM.out.below hb)
    clear hr11 hv11 hs11 hb HM
    go_wp2_with fail
    refine (c_implStackSum _ _ _ rs11 _ (by omega) R11.out S11.out).mono ?_
    rintro e w12 ⟨A12, n12, c12, rfl, hn12, hO12, hb⟩
    rw [V11.out] at hO12
    rw [V11.out]
    have HO12 := Lib.hid hO12
    have hB12 := hB11.trans (hb.mono hB11.size)
    have hB212 := hB211.trans (hb.mono hB211.size)
    have HM12 := Lib.hid (HM11.out.below hb)
    clear hb hO12 HM11 R11
    go_wp2_with fail
    refine (c_eqIntS _ _ _ _ _ _ (sumV (vals rs)) (sumV (vals rs)) _ (by omega) (by omega) HO12.out.rd (HW.out.below hB212)).mono ?_
    intro e w13 hq
    obtain ⟨rfl, hb⟩ := hq.below
    have hB13 := hB12.trans (hb.mono hB12.size)
    have HM13 := Lib.hid (HM12.out.below hb)
    clear hb hq HM12
    go_wp2_with fail
    refine (c_heldIntS _ n4 _ 1 _ (by omega) (by omega) (by omega) HM13.out).mono ?_
    rintro e w' ⟨rfl, rfl⟩
    go_wp2
    go_ret
    exact ⟨rfl, hB13⟩
end Go.Proofs.Ytbaplcdedijaeaa
