/-
  The walk of the law FnSettleThick: it returns true and writes nothing that was there.
-/
import Derived.Test.YtkomonjmbpljhaaFirnDrawSettle
import Derived.Test.YtkomonjmbpljhaaFirnSettle
import Derived.Test.YtkomonjmbpljhaaSame
import Derived.Test.YtkomonjmbpljhaaFirnMath3
import Derived.Deep.RegionHeld3
import Derived.IntWalk
namespace Go.Proofs.Ytkomonjmbpljhaa
open Go.RowKit

set_option maxHeartbeats 800000 in
theorem walk_FnSettleThick (A : Option Addr) (n c : Nat) (w : World) (h : RdB w A n) (hn : n ≤ maxLen) (hc : n ≤ c) :
    Calls Try.prog 9 #[.slice A n c] w fun e w' => e = .returned (.bool true) ∧ Below w.heap.size w w' := by
  unfold maxLen at hn
  have HB := Lib.hid h
  clear h
  by_cases hbig : 1048576 < n
  · go_enter Try.func9, Try.ntmps9
    go_wp2
    go_ret
    exact ⟨rfl, Below.refl _ _⟩
  · have hd1 : decide ((1048576 : Int) < (n : Int)) = false := by simp; omega
    go_enter Try.func9, Try.ntmps9
    go_wp2_with fail
    refine (c_DrawFirnSettle _ _ _ _ HB.out (by omega) hc).mono ?_
    rintro e w1 ⟨A1, n1, c1, l, d, rfl, hn1, hc1, hd0, hd9, hr1, hb1⟩
    have HR1 := Lib.hid hr1
    clear hr1
    go_wp2_with fail
    refine (c_implFirnSettle _ _ _ l d _ (by omega) HR1.out).mono ?_
    rintro e w2 ⟨A2, n2, c2, rfl, hn2, hO2, hb2⟩
    have HR2 := Lib.hid (HR1.out.below hb2)
    have HP2 := Lib.hid hO2.rd
    have hB2 := hb1.trans (hb2.mono hb1.size)
    clear hb1 hb2 HR1 hO2
    go_wp2_with fail
    refine (c_specFirnSettle _ _ _ l d _ (by omega) HR2.out).mono ?_
    rintro e w3 ⟨A3, n3, c3, rfl, hn3, hO3, hb3⟩
    have HR3 := Lib.hid (HR2.out.below hb3)
    have HP3 := Lib.hid (HP2.out.below hb3)
    have HS3 := Lib.hid hO3.rd
    have hB3 := hB2.trans (hb3.mono hB2.size)
    clear hB2 hb3 HR2 HP2 hO3
    have hne : (okS l d != okS l d) = false := by simp
    have hee : eqL (stlV l d) (stlV l d) = true := by simp [eqL]
    go_wp2_with fail
    refine (c_sameSlabs _ _ _ _ _ _ (stlV l d) (stlV l d) _ (by omega) (by omega) HP3.out HS3.out).mono ?_
    rintro e w4 ⟨rfl, hb4⟩
    have HR4 := Lib.hid (HR3.out.below hb4)
    have HP4 := Lib.hid (HP3.out.below hb4)
    have HS4 := Lib.hid (HS3.out.below hb4)
    have hB4 := hB3.trans (hb4.mono hB3.size)
    clear hB3 hb4 HR3 HP3 HS3
    rcases Bool.eq_false_or_eq_true (okS l d) with hok | hok
    · have HV := Lib.hid (show stlV l d = stlL l d by simp [stlV, hok])
      have HP := Lib.hid (show RdP w4 A2 n2 (stlL l d) from HV.out ▸ HP4.out)
      have HL := Lib.hid HR4.out.len
      obtain rfl : n1 = n2 := by have h1 := HP.out.len; have h2 := HL.out; rw [stlL_len] at h1; omega
      obtain ⟨hd1, hd2⟩ := (okS_yes hok).2
      have HOK := Lib.hid hok
      have HA := Lib.hid HR4.out.at_
      have HT := Lib.hid (stlL_thick hok)
      have g3 : decide (thickR (stlL l d) ≤ thickR l) = true := by
        rw [thickR_yes (stlL_ok hok), thickR_yes (okS_yes hok).1]
        have := HT.out
        simp; omega
      go_wp2_with fail
      go_loopw [9, 10] (fun a i wr => ∃ k : Nat, k ≤ n1 ∧ i = .int .i64 k ∧ a = .bool (allB l d k) ∧ wr = w4) (fun _ i _ => n1 - (intOf i).toNat)
      case atStart => exact ⟨0, Nat.zero_le _, rfl, rfl, rfl⟩
      case round =>
        obtain ⟨k, hk, rfl, rfl, rfl⟩ := hrel
        by_cases hlt : k < n1
        · obtain ⟨b, off, rfl, hb, hc⟩ := HA.out (by omega)
          obtain ⟨_, hc1'⟩ := hc k hlt
          clear hc
          have HS := Lib.hid (allB_succ (d := d) (show k < l.length by have := HL.out; omega))
          rcases Bool.eq_false_or_eq_true (allB l d k) with ha | ha
          · by_cases hdk : d ≤ py l k
            · have HE := Lib.hid (show allB l d (k + 1) = true by rw [HS.out, ha]; simpa using hdk)
              go_wp2
              go_roundw
              case rel => exact ⟨k + 1, by omega, by go_num, by rw [HE.out], by first | rfl | trivial⟩
              case measure => simp [intOf]; omega
            · have hdk' : decide (d ≤ py l k) = false := by simp; omega
              have HE := Lib.hid (show allB l d (k + 1) = false by rw [HS.out, ha, hdk']; rfl)
              go_wp2
              go_roundw
              case rel => exact ⟨k + 1, by omega, by go_num, by rw [HE.out], by first | rfl | trivial⟩
              case measure => simp [intOf]; omega
          · have HE := Lib.hid (show allB l d (k + 1) = false by rw [HS.out, ha]; rfl)
            go_wp2
            go_roundw
            case rel => exact ⟨k + 1, by omega, by go_num, by rw [HE.out], by first | rfl | trivial⟩
            case measure => simp [intOf]; omega
        · obtain rfl : k = n1 := by omega
          have HQ := Lib.hid (fun h : allB l d k = true => stl_all HL.out h)
          go_wp2_with fail
          refine (c_implFirnThick _ _ _ (stlL l d) _ (by omega) HP.out).mono ?_
          rintro e w5 ⟨rfl, hb5⟩
          have HR5 := Lib.hid (HR4.out.below hb5)
          have HP5 := Lib.hid (HP.out.below hb5)
          have hB5 := hB4.trans (hb5.mono hB4.size)
          clear hb5
          go_wp2_with fail
          refine (c_implFirnThick _ _ _ l _ (by omega) HR5.out).mono ?_
          rintro e w6 ⟨rfl, hb6⟩
          have HR6 := Lib.hid (HR5.out.below hb6)
          have HP6 := Lib.hid (HP5.out.below hb6)
          have hB6 := hB5.trans (hb6.mono hB5.size)
          clear hb6
          rcases Bool.eq_false_or_eq_true (allB l d k) with ha | ha
          · have he : eqL (stlL l d) l = true := HQ.out ha
            go_wp2_with fail
            refine (c_sameSlabs _ _ _ _ _ _ (stlL l d) l _ (by omega) (by omega) HP6.out HR6.out).mono ?_
            rintro e w7 ⟨rfl, hb7⟩
            have hB7 := hB6.trans (hb7.mono hB6.size)
            go_wp2
            go_ret
            exact ⟨rfl, hB7⟩
          · go_wp2
            go_ret
            exact ⟨rfl, hB6⟩
    · go_wp2_with fail
      refine (c_sameSlabs _ _ _ _ _ _ (stlV l d) (stlV l d) _ (by omega) (by omega) HP4.out HS4.out).mono ?_
      rintro e w5 ⟨rfl, hb5⟩
      have hB5 := hB4.trans (hb5.mono hB4.size)
      go_wp2
      go_ret
      exact ⟨rfl, hB5⟩
end Go.Proofs.Ytkomonjmbpljhaa
