/-
  The walk of the law FnExactFirnDepth: it returns true and writes nothing that was there.
-/
import Derived.Test.YthoeefbddkdbjaaExact
import Derived.Test.YthoeefbddkdbjaaFirnDepth
namespace Go.Proofs.Ythoeefbddkdbjaa
open Go.RowKit

set_option maxHeartbeats 400000 in
theorem walk_FnExactFirnDepth (A : Option Addr) (n c : Nat) (l : List (Int × Int)) (m : Int) (w : World) (h : RdP w A n l) (hn : n ≤ maxLen) (_hx0 : -9223372036854775808 ≤ m) (_hx1 : m ≤ 9223372036854775807) :
    Calls Try.prog 14 #[.slice A n c, .int .i64 m] w fun e w' => e = .returned (.bool true) ∧ Below w.heap.size w w' := by
  unfold maxLen at hn
  have HR := Lib.hid h
  clear h
  by_cases hbig : 1048576 < n
  · go_enter Try.func14, Try.ntmps14
    go_wp2_with fail
    refine (c_szSlabS_no _ _ _ _ hbig (by omega)).mono ?_
    rintro e w' ⟨rfl, rfl⟩
    go_wp2_with fail
    go_ret
    exact ⟨rfl, Below.refl _ _⟩
  · go_enter Try.func14, Try.ntmps14
    go_wp2_with fail
    refine (c_szSlabS_yes _ _ _ _ (by omega)).mono ?_
    rintro e w' ⟨rfl, rfl⟩
    have hd : decide ((1048576 : Int) - ↑n < 0) = false := by simp; omega
    go_wp2_with fail
    refine (c_toSlabS _ _ _ l _ (by omega) HR.out).mono ?_
    rintro e w1 ⟨g1, rfl, hg1, hr1, hb1⟩
    have R1 := Lib.hid hr1
    clear hr1
    go_wp2_with fail
    refine (c_specFirnDepth _ _ _ l m _ (by omega) R1.out.rd).mono ?_
    rintro e w2 ⟨rfl, hb2⟩
    have hne0 : ((depthV l m) != (depthV l m)) = false := by simp
    have hne1 : ((okD l m) != (okD l m)) = false := by simp
    go_wp2_with fail
    refine (c_toSlabS _ _ _ l _ (by omega) ((HR.out.below hb1).below hb2)).mono ?_
    rintro e w3 ⟨g3, rfl, hg3, hr3, hb3⟩
    have R3 := Lib.hid hr3
    clear hr3
    go_wp2_with fail
    refine (c_implFirnDepth _ _ _ l m _ (by omega) R3.out.rd).mono ?_
    rintro e w4 ⟨rfl, hb4⟩
    go_wp2_with fail
    refine (c_toSlabS _ _ _ l _ (by omega) ((((HR.out.below hb1).below hb2).below hb3).below hb4)).mono ?_
    rintro e w5 ⟨g5, rfl, hg5, hr5, hb5⟩
    have R5 := Lib.hid hr5
    clear hr5
    go_wp2_with fail
    refine (c_eqSlabS _ _ _ _ _ _ l l _ (by omega) (by omega) ((R3.out.below hb4).below hb5).rd R5.out.rd).mono ?_
    rintro e w6 ⟨rfl, hb6⟩
    have he : eqL l l = true := by simp [eqL]
    go_wp2_with fail
    go_ret
    have s2 := Nat.le_trans hb1.size hb2.size
    have s3 := Nat.le_trans s2 hb3.size
    have s4 := Nat.le_trans s3 hb4.size
    have s5 := Nat.le_trans s4 hb5.size
    exact ⟨rfl, ((((hb1.trans (hb2.mono hb1.size)).trans (hb3.mono s2)).trans (hb4.mono s3)).trans (hb5.mono s4)).trans (hb6.mono s5)⟩
end Go.Proofs.Ythoeefbddkdbjaa
