/-
  The walk of the law FnSolidNone: it returns true and writes nothing that was there.
-/
import Derived.Test.YthoeefbddkdbjaaFirnDrawA
import Derived.Test.YthoeefbddkdbjaaFirnMath3
import Derived.Test.YthoeefbddkdbjaaFirnSolid
import Derived.Deep.RegionHeld3
import Derived.IntWalk
namespace Go.Proofs.Ythoeefbddkdbjaa
open Go.RowKit

set_option maxHeartbeats 800000 in
theorem walk_FnSolidNone (A : Option Addr) (n c : Nat) (w : World) (h : RdB w A n) (hn : n ≤ maxLen) (hc : n ≤ c) :
    Calls Try.prog 7 #[.slice A n c] w fun e w' => e = .returned (.bool true) ∧ Below w.heap.size w w' := by
  unfold maxLen at hn
  have HB := Lib.hid h
  clear h
  by_cases hbig : 1048576 < n
  · go_enter Try.func7, Try.ntmps7
    go_wp2
    go_ret
    exact ⟨rfl, Below.refl _ _⟩
  · have hd1 : decide ((1048576 : Int) < (n : Int)) = false := by simp; omega
    go_enter Try.func7, Try.ntmps7
    go_wp2_with fail
    refine (c_DrawFirnSolid _ _ _ _ HB.out (by omega) hc).mono ?_
    rintro e w1 ⟨A1, n1, c1, l, d, rfl, hn1, hc1, hd0, hd9, hr1, hb1⟩
    have HR1 := Lib.hid hr1
    clear hr1
    go_wp2_with fail
    refine (c_implFirnSolid _ _ _ l d _ (by omega) HR1.out).mono ?_
    rintro e w2 ⟨rfl, hb2⟩
    have HR2 := Lib.hid (HR1.out.below hb2)
    have hB2 := hb1.trans (hb2.mono hb1.size)
    clear hb1 hb2 HR1
    go_wp2_with fail
    refine (c_specFirnSolid _ _ _ l d _ (by omega) HR2.out).mono ?_
    rintro e w3 ⟨rfl, hb3⟩
    have HR3 := Lib.hid (HR2.out.below hb3)
    have hB3 := hB2.trans (hb3.mono hB2.size)
    clear hB2 hb3 HR2
    have hne : (solidR l d != solidR l d) = false := by simp
    have heq : (solidR l d == solidR l d) = true := by simp
    by_cases hneg : solidR l d < 0
    · go_wp2
      go_ret
      exact ⟨rfl, hB3⟩

    · have HV := Lib.hid (solidR_ok (show 0 ≤ solidR l d by omega))
      have HL := Lib.hid HR3.out.len
      have f1 : (solidR l 0 == 0) = true := by rw [solid_all0 HV.out]; rfl
      have f2 : (solidR l 918 == (n1 : Int)) = true := by rw [solid_none918 HV.out, HL.out]; simp
      have f3 : decide (0 ≤ solidR l d) = true := by simp; omega
      go_wp2_with fail
      refine (c_implFirnSolid _ _ _ l 0 _ (by omega) HR3.out).mono ?_
      rintro e w4 ⟨rfl, hb4⟩
      have HR4 := Lib.hid (HR3.out.below hb4)
      have hB4 := hB3.trans (hb4.mono hB3.size)
      clear hb4 hB3 HR3
      go_wp2_with fail
      refine (c_implFirnSolid _ _ _ l 918 _ (by omega) HR4.out).mono ?_
      rintro e w5 ⟨rfl, hb5⟩
      have hB5 := hB4.trans (hb5.mono hB4.size)
      clear hb5 hB4 HR4
      go_wp2
      go_ret
      exact ⟨rfl, hB5⟩
end Go.Proofs.Ythoeefbddkdbjaa
