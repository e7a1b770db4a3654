/-
  The walk of the law FnMass: it returns true and writes nothing that was there.
-/
import Derived.Test.YthoeefbddkdbjaaFirnDrawA
import Derived.Test.YthoeefbddkdbjaaFirnMath3
import Derived.Test.YthoeefbddkdbjaaHeadTail
import Derived.Deep.RegionHeld3
import Derived.IntWalk
namespace Go.Proofs.Ythoeefbddkdbjaa
open Go.RowKit

set_option maxHeartbeats 800000 in
theorem walk_FnMass (A : Option Addr) (n c : Nat) (A' : Option Addr) (n' c' : Nat) (w : World) (h : RdB w A n) (hn : n ≤ maxLen) (hc : n ≤ c) (_h' : RdB w A' n') (hn' : n' ≤ maxLen) (_hc' : n' ≤ c') :
    Calls Try.prog 11 #[.slice A n c, .slice A' n' c'] w fun e w' => e = .returned (.bool true) ∧ Below w.heap.size w w' := by
  unfold maxLen at hn hn'
  have HB := Lib.hid h
  clear h _h'
  by_cases hbig : 1048576 < n
  · go_enter Try.func11, Try.ntmps11
    go_wp2
    go_ret
    exact ⟨rfl, Below.refl _ _⟩
  · have hd1 : decide ((1048576 : Int) < (n : Int)) = false := by simp; omega
    by_cases hbig' : 1048576 < n'
    · go_enter Try.func11, Try.ntmps11
      go_wp2
      go_ret
      exact ⟨rfl, Below.refl _ _⟩
    · have hd2 : decide ((1048576 : Int) < (n' : Int)) = false := by simp; omega
      go_enter Try.func11, Try.ntmps11
      go_wp2_with fail
      refine (c_DrawFirnMass _ _ _ _ HB.out (by omega) hc).mono ?_
      rintro e w1 ⟨A1, n1, c1, l, rfl, hn1, hc1, hr1, hb1⟩
      have HR1 := Lib.hid hr1
      clear hr1
      go_wp2_with fail
      refine (c_implFirnMass _ _ _ l _ (by omega) HR1.out).mono ?_
      rintro e w2 ⟨rfl, hb2⟩
      have HR2 := Lib.hid (HR1.out.below hb2)
      have hB2 := hb1.trans (hb2.mono hb1.size)
      clear hb1 hb2 HR1
      go_wp2_with fail
      refine (c_specFirnMass _ _ _ l _ (by omega) HR2.out).mono ?_
      rintro e w3 ⟨rfl, hb3⟩
      have HR3 := Lib.hid (HR2.out.below hb3)
      have hB3 := hB2.trans (hb3.mono hB2.size)
      clear hB2 hb3 HR2
      have hne : (massR l != massR l) = false := by simp
      have heq : (massR l == massR l) = true := by simp
      by_cases hneg : massR l < 0
      · go_wp2
        go_ret
        exact ⟨rfl, hB3⟩
      · obtain ⟨k, hk, hkl⟩ : ∃ k : Nat, (n' : Int) % ((n1 : Int) + 1) = (k : Int) ∧ k ≤ n1 := ⟨n' % (n1 + 1), by push_cast; rfl, by have := Nat.mod_lt n' (show 0 < n1 + 1 by omega); omega⟩
        have HV := Lib.hid (massR_ok (show 0 ≤ massR l by omega))
        have hbd := massR_bd l
        have hbt := thickR_bd l
        have HM := Lib.hid (show massR l = massOf l ∧ thickR l = thickOf l ∧ thickOf l ≤ massOf l ∧ massOf l ≤ 917 * thickOf l from ⟨massR_yes HV.out, thickR_yes HV.out, mass_sum_bd l (vFirn_ok HV.out).1⟩)
        have f1 : (IntKind.i64.wrap (massR (l.take k) + massR (l.drop k)) == massR l) = true := by
          rw [massR_parts HV.out, IntWalk.i64_in _ (by omega)]
          simp
        have f2 : decide (thickR l ≤ massR l) = true := by
          have := HM.out
          simp; omega
        have f3 : decide (massR l ≤ IntKind.i64.wrap (917 * thickR l)) = true := by
          have := HM.out
          rw [IntWalk.i64_in _ (by omega)]
          simp; omega
        by_cases hck : c1 = k
        · subst hck
          have hT := HR3.out.take hkl
          have hC := HR3.out.cut hkl hc1
          rw [if_pos rfl, show n1 - c1 = 0 by omega] at hC
          have HS := Lib.hid (show FT w A1 A1 0 c1 l w3 from ⟨hT, hC, hB3⟩)
          clear hT hC
          go_wp2_with fail
          refine (c_implFirnThick _ _ _ l _ (by omega) HR3.out).mono ?_
          rintro e w4 ⟨rfl, hb4⟩
          have HS := Lib.hid (HS.out.below hb4)
          clear hb4
          go_wp2_with fail
          have hk0 : (0 : Int) ≤ (c1 : Int) := by omega
          have hk1 : (c1 : Int) ≤ (n1 : Int) := by omega
          have hk2 : (c1 : Int) ≤ (c1 : Int) := by omega
          go_region_held3 (fun W => FT w A1 A1 0 c1 l W) (first | exact HS.out | exact HS.out.drew | assumption) (first | (go_at_call 28; (with_reducible refine (c_implFirnMass A1 c1 _ (l.take c1) _ (by omega) (FT.tk (by assumption))).mono ?_); rintro e w4 ⟨rfl, hb4⟩; have hS4 := FT.below (by assumption) hb4; clear hb4) | (go_at_call 28; (with_reducible refine (c_implFirnMass _ 0 _ (l.drop c1) _ (by omega) (FT.ct (by assumption))).mono ?_); rintro e w4 ⟨rfl, hb4⟩; have hS4 := FT.below (by assumption) hb4; clear hb4))
          go_wp2
          go_ret
          exact ⟨rfl, hS4.2.2⟩
        · have hT := HR3.out.take hkl
          have hC := HR3.out.cut hkl hc1
          rw [if_neg hck] at hC
          have HS := Lib.hid (show FT w (Option.map (·.add (k * 2)) A1) A1 (n1 - k) k l w3 from ⟨hT, hC, hB3⟩)
          clear hT hC
          go_wp2_with fail
          refine (c_implFirnThick _ _ _ l _ (by omega) HR3.out).mono ?_
          rintro e w4 ⟨rfl, hb4⟩
          have HS := Lib.hid (HS.out.below hb4)
          clear hb4
          go_wp2_with fail
          have hk0 : (0 : Int) ≤ (k : Int) := by omega
          have hk1 : (k : Int) ≤ (n1 : Int) := by omega
          have hk2 : (k : Int) ≤ (c1 : Int) := by omega
          go_region_held3 (fun W => FT w (Option.map (·.add (k * 2)) A1) A1 (n1 - k) k l W) (first | exact HS.out | exact HS.out.drew | assumption) (first | (go_at_call 28; (with_reducible refine (c_implFirnMass A1 k _ (l.take k) _ (by omega) (FT.tk (by assumption))).mono ?_); rintro e w4 ⟨rfl, hb4⟩; have hS4 := FT.below (by assumption) hb4; clear hb4) | (go_at_call 28; (with_reducible refine (c_implFirnMass _ (n1 - k) _ (l.drop k) _ (by omega) (FT.ct (by assumption))).mono ?_); rintro e w4 ⟨rfl, hb4⟩; have hS4 := FT.below (by assumption) hb4; clear hb4))
          go_wp2
          go_ret
          exact ⟨rfl, hS4.2.2⟩
end Go.Proofs.Ythoeefbddkdbjaa
