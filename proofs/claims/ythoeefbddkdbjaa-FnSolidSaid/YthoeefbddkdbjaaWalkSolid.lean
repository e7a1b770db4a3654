/-
  The walk of the law FnSolid: it returns true and writes nothing that was there.
-/
import Derived.Test.YthoeefbddkdbjaaFirnDrawA
import Derived.Test.YthoeefbddkdbjaaFirnMath3
import Derived.Test.YthoeefbddkdbjaaFirnSolid
import Derived.Deep.RegionHeld3
import Derived.IntWalk
namespace Go.Proofs.Ythoeefbddkdbjaa
open Go.RowKit

set_option maxHeartbeats 800000 in
theorem walk_FnSolid (A : Option Addr) (n c : Nat) (w : World) (h : RdB w A n) (hn : n ≤ maxLen) (hc : n ≤ c) :
    Calls Try.prog 6 #[.slice A n c] w fun e w' => e = .returned (.bool true) ∧ Below w.heap.size w w' := by
  unfold maxLen at hn
  have HB := Lib.hid h
  clear h
  by_cases hbig : 1048576 < n
  · go_enter Try.func6, Try.ntmps6
    go_wp2
    go_ret
    exact ⟨rfl, Below.refl _ _⟩
  · have hd1 : decide ((1048576 : Int) < (n : Int)) = false := by simp; omega
    go_enter Try.func6, Try.ntmps6
    go_wp2_with fail
    refine (c_DrawFirnSolid _ _ _ _ HB.out (by omega) hc).mono ?_
    rintro e w1 ⟨A1, n1, c1, l, d, rfl, hn1, hc1, hd0, hd9, hr1, hb1⟩
    have HR1 := Lib.hid hr1
    clear hr1
    go_wp2_with fail
    refine (c_implFirnSolid _ _ _ l d _ (by omega) HR1.out).mono ?_
    rintro e w2 ⟨rfl, hb2⟩
    have HR2 := Lib.hid (HR1.out.below hb2)
    have hB2 := hb1.trans (hb2.mono hb1.size)
    clear hb1 hb2 HR1
    go_wp2_with fail
    refine (c_specFirnSolid _ _ _ l d _ (by omega) HR2.out).mono ?_
    rintro e w3 ⟨rfl, hb3⟩
    have HR3 := Lib.hid (HR2.out.below hb3)
    have hB3 := hB2.trans (hb3.mono hB2.size)
    clear hB2 hb3 HR2
    have hne : (solidR l d != solidR l d) = false := by simp
    have heq : (solidR l d == solidR l d) = true := by simp
    by_cases hneg : solidR l d < 0
    · go_wp2
      go_ret
      exact ⟨rfl, hB3⟩

    · have HV := Lib.hid (solidR_ok (show 0 ≤ solidR l d by omega))
      have HL := Lib.hid HR3.out.len
      have HA := Lib.hid HR3.out.at_
      obtain ⟨s, hs, hsl, hup, hdown, hmono⟩ := solid_facts HV.out d
      have HUP := Lib.hid hup
      have HDN := Lib.hid hdown
      clear hup hdown
      have hsn : s ≤ n1 := by have := HL.out; omega
      rw [hs] at heq hne hneg ⊢
      go_wp2_with fail
      go_loopw [7] (fun i wr => ∃ k : Nat, s ≤ k ∧ k ≤ n1 ∧ i = .int .i64 k ∧ wr = w3) (fun i _ => n1 - (intOf i).toNat)
      case atStart => exact ⟨s, Nat.le_refl _, hsn, rfl, rfl⟩
      case round =>
        obtain ⟨k, hk0, hk, rfl, rfl⟩ := hrel
        by_cases hlt : k < n1
        · obtain ⟨b, off, rfl, hb, hcl⟩ := HA.out (by omega)
          obtain ⟨hc0, hc1'⟩ := hcl k hlt
          clear hcl hc0
          have hdk := HDN.out k hk0 (by have := HL.out; omega)
          go_wp2
          go_roundw
          case rel => exact ⟨k + 1, by omega, by omega, by go_num, by first | rfl | trivial⟩
          case measure => simp [intOf]; omega
        · obtain rfl : k = n1 := by omega
          have f1 : decide ((s : Int) ≤ (k : Int)) = true := by simp; omega
          by_cases h0 : s = 0
          · subst h0
            go_wp2_with fail
            refine (c_implFirnSolid _ _ _ l (d - 1) _ (by omega) HR3.out).mono ?_
            rintro e w4 ⟨rfl, hb4⟩
            have hB4 := hB3.trans (hb4.mono hB3.size)
            have f2 : decide (solidR l (d - 1) ≤ ((0 : Nat) : Int)) = true := by simp; omega
            have f3 : decide (solidR l (d - 1) ≤ 0) = true := by simp; omega
            go_wp2
            go_ret
            exact ⟨rfl, hB4⟩
          · obtain ⟨j, rfl⟩ : ∃ j, s = j + 1 := ⟨s - 1, by omega⟩
            obtain ⟨b, off, rfl, hb, hcl⟩ := HA.out (by omega)
            obtain ⟨hc0, hc1'⟩ := hcl j (by omega)
            clear hcl hc0
            have hjj : ((j + 1 : Nat) : Int) - 1 = (j : Int) := by omega
            have hjj2 : ((j : Int) + 1) - 1 = (j : Int) := by omega
            have hj0 : (((j : Int) + 1) == 0) = false := by simp; omega
            have hdj := HUP.out j rfl
            have f2 : decide (py l j < d) = true := by simp; omega
            go_wp2_with fail
            refine (c_implFirnSolid _ _ _ l (d - 1) _ (by omega) HR3.out).mono ?_
            rintro e w4 ⟨rfl, hb4⟩
            have hB4 := hB3.trans (hb4.mono hB3.size)
            have f3 : decide (solidR l (d - 1) ≤ (j : Int) + 1) = true := by simp; omega
            go_wp2
            go_ret
            exact ⟨rfl, hB4⟩
end Go.Proofs.Ythoeefbddkdbjaa
