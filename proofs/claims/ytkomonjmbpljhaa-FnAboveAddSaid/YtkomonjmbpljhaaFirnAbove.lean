/-
  Contracts of FirnAbove, of the program and of the reference.
-/
import Derived.Test.YtkomonjmbpljhaaFirnWalks
import Derived.Test.YtkomonjmbpljhaaFirnSums
import Derived.Test.YtkomonjmbpljhaaFirnMath2
import Derived.Handy
import Derived.Deep.QuietTactic
import Derived.BigQuiet
namespace Go.Proofs.Ytkomonjmbpljhaa
open Go.RowKit

set_option maxHeartbeats 400000 in
theorem c_l32Above (A : Option Addr) (n c : Nat) (l : List (Int × Int)) (d : Int) (w : World) (hv : vFirn l = true) (hd0 : 0 ≤ d) (hd1 : d ≤ 20000) (h : RdP w A n l) :
    Calls Try.prog 43 #[.slice A n c, .int .i64 d] w fun e w' => e = .returned (.int .i64 (above l d)) ∧ Below w.heap.size w w' := by
  have HL := Lib.hid h.len
  have HA := Lib.hid h.at_
  have HV := Lib.hid (vFirn_ok hv)
  have hn : n ≤ 20 := by have := h.len; have := (vFirn_ok hv).2; omega
  clear h hv
  go_enter Try.func43, Try.ntmps43
  go_wp2
  go_loopw [1, 5, 6, 7] (fun dv s i _ wr => ∃ (k : Nat) (dr sm : Int), k ≤ n ∧ i = .int .i64 k ∧ dv = .int .i64 dr ∧ s = .int .i64 sm ∧ 0 ≤ dr ∧ dr ≤ d ∧ 0 ≤ sm ∧ sm ≤ 917 * (d - dr) ∧ Hid (above l d = sm + above (l.drop k) dr) ∧ Below w.heap.size w wr) (fun _ _ i _ _ => n - (intOf i).toNat)
  case atStart => exact ⟨0, d, 0, Nat.zero_le _, rfl, rfl, rfl, hd0, Int.le_refl _, Int.le_refl _, by omega, Lib.hid (by simp), Below.refl _ _⟩
  case round =>
    obtain ⟨k, dr, sm, hk, rfl, rfl, rfl, hr0, hr1, hs0, hs1, HK, hBk⟩ := hrel
    by_cases hlt : k < n
    · obtain ⟨b, off, rfl, hb, hc⟩ := HA.out (by omega)
      obtain ⟨hc0, hc1⟩ := hc k hlt
      rw [← hBk.cell (p := ⟨b, off + k * 2, none⟩) hb] at hc0
      rw [← hBk.cell (p := ⟨b, off + k * 2 + 1, none⟩) hb] at hc1
      clear hc
      have hlk : k < l.length := by have := HL.out; omega
      obtain ⟨p0, p1, p2, p3⟩ := part_bd HV.out.1 hlk dr hr0
      have HT := Lib.hid (above_drop hlk dr)
      have hif : (if px l k < dr then px l k else dr) = min dr (px l k) := by split <;> omega
      generalize min dr (px l k) = m at *
      go_wp2
      go_roundw
      case rel => exact ⟨k + 1, dr - m, sm + m * py l k, by omega, by go_num, by go_num, by go_num, by omega, by omega, by omega, by omega, Lib.hid (by rw [HK.out, HT.out]; omega), hBk⟩
      case measure => simp [intOf]; omega
    · obtain rfl : k = n := by omega
      go_wp2
      go_ret
      exact ⟨ret_int (by rw [HK.out, above_end HL.out]; omega), hBk⟩

set_option maxHeartbeats 400000 in
theorem c_specFirnAbove (A : Option Addr) (n c : Nat) (l : List (Int × Int)) (d : Int) (w : World) (hn : n ≤ 2000000) (h : RdP w A n l) :
    Calls Try.prog 27 #[.slice A n c, .int .i64 d] w fun e w' => e = .returned (.tuple #[.int .i64 (aboveV l d), .bool (okA l d)]) ∧ Below w.heap.size w w' := by
  have HR := Lib.hid h
  clear h
  rcases Bool.eq_false_or_eq_true (inB d 0 (thickR l)) with hq | hq
  · have HV := Lib.hid (okA_yes hq)
    have hd0 := HV.out.2.1
    have hd1 : d ≤ 20000 := by have := all_bd HV.out.1; have := HV.out.2.2; omega
    go_enter Try.func27, Try.ntmps27
    go_wp2_with fail
    refine (c_specFirnThick _ _ _ l _ hn HR.out).mono ?_
    rintro e w1 ⟨rfl, hB1⟩
    go_wp2_with fail
    refine (c_l6In _ _ _ _).mono ?_
    rintro e w' ⟨rfl, rfl⟩
    go_wp2_with fail
    refine (c_l32Above _ _ _ l _ _ HV.out.1 hd0 hd1 (HR.out.below hB1)).mono ?_
    rintro e w2 ⟨rfl, hB2⟩
    go_wp2_with fail
    go_ret2
    exact ⟨by simp [aboveV, okA, hq], hB1.trans (hB2.mono hB1.size)⟩
  · go_enter Try.func27, Try.ntmps27
    go_wp2_with fail
    refine (c_specFirnThick _ _ _ l _ hn HR.out).mono ?_
    rintro e w1 ⟨rfl, hB1⟩
    go_wp2_with fail
    refine (c_l6In _ _ _ _).mono ?_
    rintro e w' ⟨rfl, rfl⟩
    go_wp2_with fail
    go_ret2
    exact ⟨by simp [aboveV, okA, hq], hB1⟩

set_option maxHeartbeats 400000 in
theorem c_implFirnAbove (A : Option Addr) (n c : Nat) (l : List (Int × Int)) (d : Int) (w : World) (hn : n ≤ 2000000) (h : RdP w A n l) :
    Calls Try.prog 26 #[.slice A n c, .int .i64 d] w fun e w' => e = .returned (.tuple #[.int .i64 (aboveV l d), .bool (okA l d)]) ∧ Below w.heap.size w w' := by
  have HR := Lib.hid h
  have HL := Lib.hid h.len
  have HA := Lib.hid h.at_
  clear h
  by_cases hneg : d < 0
  · have HQ := Lib.hid (show inB d 0 (thickR l) = false from inB_not (by omega))
    go_enter Try.func26, Try.ntmps26
    go_wp2
    go_ret2
    exact ⟨by simp [aboveV, okA, HQ.out], Below.refl _ _⟩
  · have hneg' : decide (d < 0) = false := by simp; omega
    by_cases hbig : thickR l < d
    · have HQ := Lib.hid (show inB d 0 (thickR l) = false from inB_not (by omega))
      go_enter Try.func26, Try.ntmps26
      go_wp2_with fail
      refine (c_implFirnThick _ _ _ l _ hn HR.out).mono ?_
      rintro e w1 ⟨rfl, hB1⟩
      go_wp2_with fail
      go_ret2
      exact ⟨by simp [aboveV, okA, HQ.out], hB1⟩
    · have HQ := Lib.hid (show inB d 0 (thickR l) = true from inB_of (by omega) (by omega))
      have HV := Lib.hid (okA_yes HQ.out)
      have HW := Lib.hid (vFirn_ok HV.out.1)
      have hd0 := HV.out.2.1
      have hd1 : d ≤ 20000 := by have := all_bd HV.out.1; have := HV.out.2.2; omega
      have hbig' : decide (thickR l < d) = false := by simp; omega
      go_enter Try.func26, Try.ntmps26
      go_wp2_with fail
      refine (c_implFirnThick _ _ _ l _ hn HR.out).mono ?_
      rintro e w1 ⟨rfl, hB1⟩
      go_wp2_with fail
      go_loopw [1, 6, 8, 9, 20] (fun dv s _ _ i wr => ∃ (k : Nat) (dr sm : Int), k ≤ n ∧ i = .int .i64 k ∧ dv = .int .i64 dr ∧ s = .int .i64 sm ∧ 0 ≤ dr ∧ dr ≤ d ∧ 0 ≤ sm ∧ sm ≤ 917 * (d - dr) ∧ Hid (above l d = sm + above (l.drop k) dr) ∧ Below w.heap.size w wr) (fun _ _ _ _ i _ => n - (intOf i).toNat)
      case atStart => exact ⟨0, d, 0, Nat.zero_le _, rfl, rfl, rfl, hd0, Int.le_refl _, Int.le_refl _, by omega, Lib.hid (by simp), hB1⟩
      case round =>
        obtain ⟨k, dr, sm, hk, rfl, rfl, rfl, hr0, hr1, hs0, hs1, HK, hBk⟩ := hrel
        by_cases hlt : k < n
        · obtain ⟨b, off, rfl, hb, hc⟩ := HA.out (by omega)
          obtain ⟨hc0, hc1⟩ := hc k hlt
          rw [← hBk.cell (p := ⟨b, off + k * 2, none⟩) hb] at hc0
          rw [← hBk.cell (p := ⟨b, off + k * 2 + 1, none⟩) hb] at hc1
          clear hc
          have hlk : k < l.length := by have := HL.out; omega
          obtain ⟨p0, p1, p2, p3⟩ := part_bd HW.out.1 hlk dr hr0
          have HT := Lib.hid (above_drop hlk dr)
          have hif : (if dr < px l k then dr else px l k) = min dr (px l k) := by split <;> omega
          generalize min dr (px l k) = m at *
          have hsz := hBk.size
          go_wp2
          go_roundw
          case rel => exact ⟨k + 1, dr - m, sm + m * py l k, by omega, by go_num, by go_num, by go_num, by omega, by omega, by omega, by omega, Lib.hid (by rw [HK.out, HT.out]; omega), by go_grown⟩
          case measure => simp [intOf]; omega
        · obtain rfl : k = n := by omega
          go_wp2
          go_ret2
          have := HK.out
          rw [above_end HL.out] at this
          exact ⟨by simp [aboveV, okA, HQ.out, this], hBk⟩
end Go.Proofs.Ytkomonjmbpljhaa
