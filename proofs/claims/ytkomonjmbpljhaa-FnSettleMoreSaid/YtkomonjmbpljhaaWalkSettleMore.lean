/-
  The walk of the law FnSettleMore: it returns true and writes nothing that was there.
-/
import Derived.Test.YtkomonjmbpljhaaFirnDrawSettle
import Derived.Test.YtkomonjmbpljhaaFirnSettle
import Derived.Test.YtkomonjmbpljhaaSame
import Derived.Test.YtkomonjmbpljhaaFirnMath3
import Derived.Deep.RegionHeld3
import Derived.IntWalk
import Derived.Deep.QuietTactic
import Derived.BigQuiet
namespace Go.Proofs.Ytkomonjmbpljhaa
open Go.RowKit

set_option maxHeartbeats 800000 in
theorem walk_FnSettleMore (A : Option Addr) (n c : Nat) (w : World) (h : RdB w A n) (hn : n ≤ maxLen) (hc : n ≤ c) :
    Calls Try.prog 5 #[.slice A n c] w fun e w' => e = .returned (.bool true) ∧ Below w.heap.size w w' := by
  unfold maxLen at hn
  have HB := Lib.hid h
  clear h
  by_cases hbig : 1048576 < n
  · go_enter Try.func5, Try.ntmps5
    go_wp2
    go_ret
    exact ⟨rfl, Below.refl _ _⟩
  · have hd1 : decide ((1048576 : Int) < (n : Int)) = false := by simp; omega
    go_enter Try.func5, Try.ntmps5
    go_wp2_with fail
    refine (c_DrawFirnSettle _ _ _ _ HB.out (by omega) hc).mono ?_
    rintro e w1 ⟨A1, n1, c1, l, d, rfl, hn1, hc1, hd0, hd9, hr1, hb1⟩
    have HR1 := Lib.hid hr1
    clear hr1
    go_wp2_with fail
    refine (c_implFirnSettle _ _ _ l d _ (by omega) HR1.out).mono ?_
    rintro e w2 ⟨A2, n2, c2, rfl, hn2, hO2, hb2⟩
    have HR2 := Lib.hid (HR1.out.below hb2)
    have HP2 := Lib.hid hO2.rd
    have hB2 := hb1.trans (hb2.mono hb1.size)
    clear hb1 hb2 HR1 hO2
    go_wp2_with fail
    refine (c_specFirnSettle _ _ _ l d _ (by omega) HR2.out).mono ?_
    rintro e w3 ⟨A3, n3, c3, rfl, hn3, hO3, hb3⟩
    have HR3 := Lib.hid (HR2.out.below hb3)
    have HP3 := Lib.hid (HP2.out.below hb3)
    have HS3 := Lib.hid hO3.rd
    have hB3 := hB2.trans (hb3.mono hB2.size)
    clear hB2 hb3 HR2 HP2 hO3
    have hne : (okS l d != okS l d) = false := by simp
    have hee : eqL (stlV l d) (stlV l d) = true := by simp [eqL]
    go_wp2_with fail
    refine (c_sameSlabs _ _ _ _ _ _ (stlV l d) (stlV l d) _ (by omega) (by omega) HP3.out HS3.out).mono ?_
    rintro e w4 ⟨rfl, hb4⟩
    have HR4 := Lib.hid (HR3.out.below hb4)
    have HP4 := Lib.hid (HP3.out.below hb4)
    have HS4 := Lib.hid (HS3.out.below hb4)
    have hB4 := hB3.trans (hb4.mono hB3.size)
    clear hB3 hb4 HR3 HP3 HS3
    rcases Bool.eq_false_or_eq_true (okS l d) with hok | hok
    · have HV := Lib.hid (show stlV l d = stlL l d by simp [stlV, hok])
      have HP := Lib.hid (show RdP w4 A2 n2 (stlL l d) from HV.out ▸ HP4.out)
      have HL := Lib.hid HR4.out.len
      obtain rfl : n1 = n2 := by have h1 := HP.out.len; have h2 := HL.out; rw [stlL_len] at h1; omega
      obtain ⟨hd1, hd2⟩ := (okS_yes hok).2
      have HOK := Lib.hid hok
      have HVO := Lib.hid (stlL_ok hok)
      have HSL := Lib.hid (stlL_len l d)
      go_wp2_with fail
      refine (c_implFirnSettle _ _ _ (stlL l d) (d + 1) _ (by omega) HP.out).mono ?_
      rintro e w5 ⟨A5, n5, c5, rfl, hn5, hO5, hb5⟩
      have HX := Lib.hid hO5.rd
      have HP5 := Lib.hid (HP.out.below hb5)
      have HA' := Lib.hid HP5.out.at_
      have hB5 := hB4.trans (hb5.mono hB4.size)
      clear hb5 hO5 hB4
      by_cases h917 : d = 917
      · subst h917
        have g0 : okS (stlL l 917) (917 + 1) = false := by simp [okS, inB]
        have g0' : okS (stlL l 917) 918 = false := g0
        obtain rfl : n5 = 0 := by have h1 := HX.out.len; rw [stlV, g0] at h1; exact h1.symm
        go_wp2_with fail
        go_loopw [11] (fun i wr => i = .int .i64 0 ∧ Below w5.heap.size w5 wr) (fun _ _ => 0)
        case atStart => exact ⟨rfl, Below.refl _ _⟩
        case round =>
          obtain ⟨rfl, hBk⟩ := hrel
          go_wp2
          go_ret
          exact ⟨rfl, hB5.trans (hBk.mono hB5.size)⟩
      · have g0 : okS (stlL l d) (d + 1) = true := okS_mk HVO.out (by omega) (by omega)
        have HX := Lib.hid (show RdP w5 A5 n5 (stlL (stlL l d) (d + 1)) by have h1 := HX.out; rwa [stlV, if_pos g0] at h1)
        have HG0 := Lib.hid g0
        obtain rfl : n1 = n5 := by have h1 := HX.out.len; have h2 := HL.out; rw [stlL_len, stlL_len] at h1; omega
        have HA := Lib.hid HX.out.at_
        go_wp2_with fail
        go_loopw [11] (fun i wr => ∃ k : Nat, k ≤ n1 ∧ i = .int .i64 k ∧ Below w5.heap.size w5 wr) (fun i _ => n1 - (intOf i).toNat)
        case atStart => exact ⟨0, Nat.zero_le _, rfl, Below.refl _ _⟩
        case round =>
          obtain ⟨k, hk, rfl, hBk⟩ := hrel
          by_cases hlt : k < n1
          · obtain ⟨b, off, rfl, hb, hc⟩ := HA.out (by omega)
            obtain ⟨hc0, hc1'⟩ := hc k hlt
            rw [← hBk.cell (p := ⟨b, off + k * 2, none⟩) hb] at hc0
            rw [← hBk.cell (p := ⟨b, off + k * 2 + 1, none⟩) hb] at hc1'
            obtain ⟨b', off', rfl, hb', hc'⟩ := HA'.out (by omega)
            obtain ⟨hd0', hd1'⟩ := hc' k hlt
            rw [← hBk.cell (p := ⟨b', off' + k * 2, none⟩) hb'] at hd0'
            rw [← hBk.cell (p := ⟨b', off' + k * 2 + 1, none⟩) hb'] at hd1'
            clear hc hc'
            have hk0 : (0 : Int) ≤ (k : Int) := by omega
            have hk1 : (k : Int) < (n1 : Int) := by omega
            have hlk : k < (stlL l d).length := by have := HL.out; have := HSL.out; omega
            obtain ⟨s0, s1, s2, s3, s4, s5, s6⟩ := stl_place HG0.out hlk
            have f0 : ((n1 : Int) == (n1 : Int)) = true := by simp
            have f0' : ((n1 : Int) != (n1 : Int)) = false := by simp
            have f1 : decide (px (stlL l d) k < px (stlL (stlL l d) (d + 1)) k) = false := by simp; omega
            have f2 : decide (py (stlL (stlL l d) (d + 1)) k < py (stlL l d) k) = false := by simp; omega
            go_wp2_with fail
            go_quiet (fail)
            go_wp2_with fail
            go_roundw
            case rel => exact ⟨k + 1, by omega, by go_num, below_drewN2 hBk⟩
            case measure => simp [intOf]; omega
          · obtain rfl : k = n1 := by omega
            go_wp2
            go_ret
            exact ⟨rfl, hB5.trans (hBk.mono hB5.size)⟩
    · go_wp2_with fail
      refine (c_sameSlabs _ _ _ _ _ _ (stlV l d) (stlV l d) _ (by omega) (by omega) HP4.out HS4.out).mono ?_
      rintro e w5 ⟨rfl, hb5⟩
      have hB5 := hB4.trans (hb5.mono hB4.size)
      go_wp2
      go_ret
      exact ⟨rfl, hB5⟩
end Go.Proofs.Ytkomonjmbpljhaa
