/-
  The walk of the law FnExactFirnValid: it returns true and writes nothing that was there.
-/
import Derived.Test.YthoeefbddkdbjaaExact
import Derived.Test.YthoeefbddkdbjaaFirnWalks
namespace Go.Proofs.Ythoeefbddkdbjaa
open Go.RowKit

set_option maxHeartbeats 400000 in
theorem walk_FnExactFirnValid (A : Option Addr) (n c : Nat) (l : List (Int × Int)) (w : World) (h : RdP w A n l) (hn : n ≤ maxLen) :
    Calls Try.prog 3 #[.slice A n c] w fun e w' => e = .returned (.bool true) ∧ Below w.heap.size w w' := by
  unfold maxLen at hn
  have HR := Lib.hid h
  clear h
  by_cases hbig : 1048576 < n
  · go_enter Try.func3, Try.ntmps3
    go_wp2_with fail
    refine (c_szSlabS_no _ _ _ _ hbig (by omega)).mono ?_
    rintro e w' ⟨rfl, rfl⟩
    go_wp2_with fail
    go_ret
    exact ⟨rfl, Below.refl _ _⟩
  · go_enter Try.func3, Try.ntmps3
    go_wp2_with fail
    refine (c_szSlabS_yes _ _ _ _ (by omega)).mono ?_
    rintro e w' ⟨rfl, rfl⟩
    have hd : decide ((1048576 : Int) - ↑n < 0) = false := by simp; omega
    go_wp2_with fail
    refine (c_toSlabS _ _ _ l _ (by omega) HR.out).mono ?_
    rintro e w1 ⟨g1, rfl, hg1, hr1, hb1⟩
    have R1 := Lib.hid hr1
    clear hr1
    go_wp2_with fail
    refine (c_specFirnValid _ _ _ l _ (by omega) R1.out.rd).mono ?_
    rintro e w' ⟨rfl, rfl⟩
    go_wp2_with fail
    refine (c_toSlabS _ _ _ l _ (by omega) (HR.out.below hb1)).mono ?_
    rintro e w2 ⟨g2, rfl, hg2, hr2, hb2⟩
    have R2 := Lib.hid hr2
    clear hr2
    go_wp2_with fail
    refine (c_implFirnValid _ _ _ l _ (by omega) R2.out.rd).mono ?_
    rintro e w3 ⟨rfl, hb3⟩
    go_wp2_with fail
    refine (c_toSlabS _ _ _ l _ (by omega) (((HR.out.below hb1).below hb2).below hb3)).mono ?_
    rintro e w4 ⟨g4, rfl, hg4, hr4, hb4⟩
    have R4 := Lib.hid hr4
    clear hr4
    go_wp2_with fail
    refine (c_eqSlabS _ _ _ _ _ _ l l _ (by omega) (by omega) ((R2.out.below hb3).below hb4).rd R4.out.rd).mono ?_
    rintro e w5 ⟨rfl, hb5⟩
    have he : eqL l l = true := by simp [eqL]
    go_wp2_with fail
    go_ret
    exact ⟨rfl, ((((hb1.trans (hb2.mono hb1.size)).trans (hb3.mono (Nat.le_trans hb1.size hb2.size))).trans (hb4.mono (Nat.le_trans (Nat.le_trans hb1.size hb2.size) hb3.size))).trans (hb5.mono (Nat.le_trans (Nat.le_trans (Nat.le_trans hb1.size hb2.size) hb3.size) hb4.size)))⟩
end Go.Proofs.Ythoeefbddkdbjaa
