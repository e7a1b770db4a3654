/-
  The walk of the law FnDepthRises32: it returns true and writes nothing that was there.
-/
import Derived.Test.YtkomonjmbpljhaaFirnDrawDepth
import Derived.Test.YtkomonjmbpljhaaFirnMath4
import Derived.Test.YtkomonjmbpljhaaFirnAbove
import Derived.Test.YtkomonjmbpljhaaFirnDepth
import Derived.Deep.RegionHeld3
import Derived.IntWalk
namespace Go.Proofs.Ytkomonjmbpljhaa
open Go.RowKit

set_option maxHeartbeats 800000 in
theorem walk_FnDepthRises32 (A : Option Addr) (n c : Nat) (w : World) (h : RdB w A n) (hn : n ≤ maxLen) (hc : n ≤ c) :
    Calls Try.prog 12 #[.slice A n c] w fun e w' => e = .returned (.bool true) ∧ Below w.heap.size w w' := by
  unfold maxLen at hn
  have HB := Lib.hid h
  clear h
  by_cases hbig : 1048576 < n
  · go_enter Try.func12, Try.ntmps12
    go_wp2
    go_ret
    exact ⟨rfl, Below.refl _ _⟩
  · have hd1 : decide ((1048576 : Int) < (n : Int)) = false := by simp; omega
    go_enter Try.func12, Try.ntmps12
    go_wp2_with fail
    refine (c_DrawFirnDepth _ _ _ _ HB.out (by omega) hc).mono ?_
    rintro e w1 ⟨A1, n1, c1, l, d, rfl, hn1, hc1, hd0, hd9, hr1, hb1⟩
    have HR1 := Lib.hid hr1
    clear hr1
    go_wp2_with fail
    refine (c_implFirnDepth _ _ _ l d _ (by omega) HR1.out).mono ?_
    rintro e w2 ⟨rfl, hb2⟩
    have HR2 := Lib.hid (HR1.out.below hb2)
    have hB2 := hb1.trans (hb2.mono hb1.size)
    clear hb1 hb2 HR1
    go_wp2_with fail
    refine (c_specFirnDepth _ _ _ l d _ (by omega) HR2.out).mono ?_
    rintro e w3 ⟨rfl, hb3⟩
    have HR3 := Lib.hid (HR2.out.below hb3)
    have hB3 := hB2.trans (hb3.mono hB2.size)
    clear hB2 hb3 HR2
    have hne : (okD l d != okD l d) = false := by simp
    have hne2 : (depthV l d != depthV l d) = false := by simp
    have heq2 : (depthV l d == depthV l d) = true := by simp
    have hq : n1 ≤ 2000000 := by omega
    rcases Bool.eq_false_or_eq_true (okD l d) with hok | hok
    · obtain ⟨f0, f1, f2⟩ := law_rises hok
      obtain ⟨_, b0, b1, _, b2, b3, _⟩ := depth_bd hok
      go_wp2_with fail
      refine (c_implFirnDepth _ _ _ l (d + 1) _ hq HR3.out).mono ?_
      rintro e w4 ⟨rfl, hb⟩
      have HR4 := Lib.hid (HR3.out.below hb)
      have hB4 := hB3.trans (hb.mono hB3.size)
      clear hb hB3 HR3
      go_wp2_with fail
      refine (c_implFirnMass _ _ _ l _ hq HR4.out).mono ?_
      rintro e w5 ⟨rfl, hb⟩
      have HR5 := Lib.hid (HR4.out.below hb)
      have hB5 := hB4.trans (hb.mono hB4.size)
      clear hb hB4 HR4
      go_wp2_with fail
      refine (c_implFirnDepth _ _ _ l (massR l) _ hq HR5.out).mono ?_
      rintro e w6 ⟨rfl, hb⟩
      have HR6 := Lib.hid (HR5.out.below hb)
      have hB6 := hB5.trans (hb.mono hB5.size)
      clear hb hB5 HR5
      go_wp2_with fail
      refine (c_implFirnThick _ _ _ l _ hq HR6.out).mono ?_
      rintro e w7 ⟨rfl, hb⟩
      have HR7 := Lib.hid (HR6.out.below hb)
      have hB7 := hB6.trans (hb.mono hB6.size)
      clear hb hB6 HR6
      rcases f2 with g1 | ⟨g1, g2 | ⟨g2, g3⟩⟩
      all_goals
        go_wp2
        go_ret
        exact ⟨rfl, hB7⟩
    · go_wp2
      go_ret
      exact ⟨rfl, hB3⟩
end Go.Proofs.Ytkomonjmbpljhaa
