/-
  The walk of the law FnAboveAdd: it returns true and writes nothing that was there.
-/
import Derived.Test.YtkomonjmbpljhaaFirnDrawAbove
import Derived.Test.YtkomonjmbpljhaaFirnMath4
import Derived.Test.YtkomonjmbpljhaaFirnAbove
import Derived.Deep.RegionHeld3
import Derived.IntWalk
namespace Go.Proofs.Ytkomonjmbpljhaa
open Go.RowKit

set_option maxHeartbeats 800000 in
theorem walk_FnAboveAdd (A : Option Addr) (n c : Nat) (w : World) (h : RdB w A n) (hn : n ≤ maxLen) (hc : n ≤ c) :
    Calls Try.prog 7 #[.slice A n c] w fun e w' => e = .returned (.bool true) ∧ Below w.heap.size w w' := by
  unfold maxLen at hn
  have HB := Lib.hid h
  clear h
  by_cases hbig : 1048576 < n
  · go_enter Try.func7, Try.ntmps7
    go_wp2
    go_ret
    exact ⟨rfl, Below.refl _ _⟩
  · have hd1 : decide ((1048576 : Int) < (n : Int)) = false := by simp; omega
    go_enter Try.func7, Try.ntmps7
    go_wp2_with fail
    refine (c_DrawFirnAbove _ _ _ _ HB.out (by omega) hc).mono ?_
    rintro e w1 ⟨A1, n1, c1, l, d, rfl, hn1, hc1, hd0, hd9, hr1, hb1⟩
    have HR1 := Lib.hid hr1
    clear hr1
    go_wp2_with fail
    refine (c_implFirnAbove _ _ _ l d _ (by omega) HR1.out).mono ?_
    rintro e w2 ⟨rfl, hb2⟩
    have HR2 := Lib.hid (HR1.out.below hb2)
    have hB2 := hb1.trans (hb2.mono hb1.size)
    clear hb1 hb2 HR1
    go_wp2_with fail
    refine (c_specFirnAbove _ _ _ l d _ (by omega) HR2.out).mono ?_
    rintro e w3 ⟨rfl, hb3⟩
    have HR3 := Lib.hid (HR2.out.below hb3)
    have hB3 := hB2.trans (hb3.mono hB2.size)
    clear hB2 hb3 HR2
    have hne : (okA l d != okA l d) = false := by simp
    have hne2 : (aboveV l d != aboveV l d) = false := by simp
    have heq2 : (aboveV l d == aboveV l d) = true := by simp
    have hq : n1 ≤ 2000000 := by omega
    rcases Bool.eq_false_or_eq_true (okA l d) with hok | hok
    · obtain ⟨_, b0, b1, _, b2, b3⟩ := above_bd hok
      have HL := Lib.hid HR3.out.len
      by_cases h20 : n1 = 20
      · subst h20
        go_wp2
        go_ret
        exact ⟨rfl, hB3⟩
      · have h20' : ((n1 : Int) == 20) = false := by simp; omega
        obtain ⟨f0, f1⟩ := law_add hok (show l.length ≤ 19 by have := (vFirn_ok (okA_yes hok).1).2; have := HL.out; omega)
        have hq1 : 1 + n1 ≤ 2000000 := by omega
        obtain ⟨i0, hi, hz0, hz1, hz2⟩ := info_parts info_slab'
        have HI := Lib.hid hi
        have HZ0 := Lib.hid hz0
        have HZ1 := Lib.hid hz1
        have HZ2 := Lib.hid hz2
        clear hi hz0 hz1 hz2
        go_wp2_with (at_builtin; refine wpList_appendL (by rfl) _ _ 23 rfl w3.heap.size 30 i0 (.agg #[.int .i64 0, .int .i64 0]) Try.underlying23 HI.out HZ0.out HZ1.out HZ2.out rfl _ _ _ rfl (OwnP.one w3 _ 3 300) A1 n1 c1 l rfl (HR3.out.below ((Below.refl _ _).alloc (Nat.le_refl _) _)) (by omega) (by simp) ?_; intro v4 w4 hO4 hB4)
        obtain ⟨A5, c5, rfl, hc5, _, hrd5, _⟩ := hO4.form
        have HR5 := Lib.hid (show RdP w4 A5 (1 + n1) ((3, 300) :: l) from hrd5)
        have hB5 := hB3.trans ((((Below.refl _ _).alloc (Nat.le_refl _) _).trans hB4).mono hB3.size)
        clear hrd5 hO4 hB4 hB3 HR3
        refine (c_implFirnAbove _ _ _ ((3, 300) :: l) (d + 3) _ hq1 HR5.out).mono ?_
        rintro e w6 ⟨rfl, hb6⟩
        have hB6 := hB5.trans (hb6.mono hB5.size)
        go_wp2
        go_ret
        exact ⟨rfl, hB6⟩
    · go_wp2
      go_ret
      exact ⟨rfl, hB3⟩
end Go.Proofs.Ytkomonjmbpljhaa
