/-
  Contracts of the functions that add up firn.
-/
import Derived.Test.YtkomonjmbpljhaaFirnWalks
import Derived.Handy
import Derived.Deep.QuietTactic
import Derived.BigQuiet
namespace Go.Proofs.Ytkomonjmbpljhaa
open Go.RowKit

theorem below_drewN {B : Nat} {a w : World} {n : Nat} (h : Below B a w) : Below B a (w.drewN n) := ⟨h.os, h.tape, h.output, h.size, h.block⟩

set_option maxHeartbeats 400000 in
theorem c_mass (x y : Int) (w : World) (h0 : -4611686018427387904 ≤ x * y) (h1 : x * y ≤ 4611686018427387904) :
    Calls Try.prog 37 #[.agg #[.int .i64 x, .int .i64 y]] w fun e w' => e = .returned (.int .i64 (x * y)) ∧ Below w.heap.size w w' := by
  go_enter Try.func37, Try.ntmps37
  go_wp2
  go_ret
  exact ⟨rfl, by go_grown⟩

set_option maxHeartbeats 400000 in
theorem c_specFirnThick (A : Option Addr) (n c : Nat) (l : List (Int × Int)) (w : World) (hn : n ≤ 2000000) (h : RdP w A n l) :
    Calls Try.prog 42 #[.slice A n c] w fun e w' => e = .returned (.int .i64 (thickR l)) ∧ Below w.heap.size w w' := by
  have HR := Lib.hid h
  have HL := Lib.hid h.len
  have HA := Lib.hid h.at_
  clear h
  rcases Bool.eq_false_or_eq_true (vFirn l) with hv | hv
  · have HV := Lib.hid (vFirn_ok hv)
    go_enter Try.func42, Try.ntmps42
    go_wp2_with fail
    refine (c_specFirnValid _ _ _ l _ hn HR.out).mono ?_
    rintro e w1 ⟨rfl, hb1⟩
    have hB1 : Below w.heap.size w w1 := hb1 ▸ Below.refl _ _
    clear hb1
    go_wp2_with fail
    go_loopw [3, 4] (fun s i wr => ∃ k : Nat, k ≤ n ∧ i = .int .i64 k ∧ s = .int .i64 (thickOf (l.take k)) ∧ Below w.heap.size w wr) (fun _ i _ => n - (intOf i).toNat)
    case atStart => exact ⟨0, Nat.zero_le _, rfl, by simp [thickOf], hB1⟩
    case round =>
      obtain ⟨k, hk, rfl, rfl, hBk⟩ := hrel
      have hsm := sums_at HV.out.1 HV.out.2 k
      by_cases hlt : k < n
      · obtain ⟨b, off, rfl, hb, hc⟩ := HA.out (by omega)
        obtain ⟨hc0, hc1⟩ := hc k hlt
        rw [← hBk.cell (p := ⟨b, off + k * 2, none⟩) hb] at hc0
        rw [← hBk.cell (p := ⟨b, off + k * 2 + 1, none⟩) hb] at hc1
        clear hc
        have hlk : k < l.length := by have := HL.out; omega
        have hok := vOk_at HV.out.1 hlk
        have hpr := prod_at HV.out.1 hlk
        have HT := Lib.hid (thick_take hlk)
        have hsz := hBk.size
        go_wp2
        go_roundw
        case rel => exact ⟨k + 1, by omega, by go_num, by rw [HT.out], hBk⟩
        case measure => simp [intOf]; omega
      · obtain rfl : k = n := by omega
        go_wp2
        go_ret
        exact ⟨ret_int (by rw [List.take_of_length_le (by rw [HL.out]; omega)]; simp [thickR, hv]), hBk⟩
  · go_enter Try.func42, Try.ntmps42
    go_wp2_with fail
    refine (c_specFirnValid _ _ _ l _ hn HR.out).mono ?_
    rintro e w1 ⟨rfl, hb1⟩
    have hB1 : Below w.heap.size w w1 := hb1 ▸ Below.refl _ _
    clear hb1
    go_wp2_with fail
    go_ret
    exact ⟨ret_int (by simp [thickR, hv]), hB1⟩

set_option maxHeartbeats 400000 in
theorem c_implFirnThick (A : Option Addr) (n c : Nat) (l : List (Int × Int)) (w : World) (hn : n ≤ 2000000) (h : RdP w A n l) :
    Calls Try.prog 29 #[.slice A n c] w fun e w' => e = .returned (.int .i64 (thickR l)) ∧ Below w.heap.size w w' := by
  have HR := Lib.hid h
  have HL := Lib.hid h.len
  have HA := Lib.hid h.at_
  clear h
  rcases Bool.eq_false_or_eq_true (vFirn l) with hv | hv
  · have HV := Lib.hid (vFirn_ok hv)
    go_enter Try.func29, Try.ntmps29
    go_wp2_with fail
    refine (c_implFirnValid _ _ _ l _ hn HR.out).mono ?_
    rintro e w1 ⟨rfl, hb1⟩
    have hB1 : Below w.heap.size w w1 := hb1
    clear hb1
    go_wp2_with fail
    go_loopw [3, 5, 11] (fun s _ i wr => ∃ k : Nat, k ≤ n ∧ i = .int .i64 k ∧ s = .int .i64 (thickOf (l.take k)) ∧ Below w.heap.size w wr) (fun _ _ i _ => n - (intOf i).toNat)
    case atStart => exact ⟨0, Nat.zero_le _, rfl, by simp [thickOf], hB1⟩
    case round =>
      obtain ⟨k, hk, rfl, rfl, hBk⟩ := hrel
      have hsm := sums_at HV.out.1 HV.out.2 k
      by_cases hlt : k < n
      · obtain ⟨b, off, rfl, hb, hc⟩ := HA.out (by omega)
        obtain ⟨hc0, hc1⟩ := hc k hlt
        rw [← hBk.cell (p := ⟨b, off + k * 2, none⟩) hb] at hc0
        rw [← hBk.cell (p := ⟨b, off + k * 2 + 1, none⟩) hb] at hc1
        clear hc
        have hlk : k < l.length := by have := HL.out; omega
        have hok := vOk_at HV.out.1 hlk
        have hpr := prod_at HV.out.1 hlk
        have HT := Lib.hid (thick_take hlk)
        have hsz := hBk.size
        go_wp2
        go_roundw
        case rel => exact ⟨k + 1, by omega, by go_num, by rw [HT.out], by go_grown⟩
        case measure => simp [intOf]; omega
      · obtain rfl : k = n := by omega
        go_wp2
        go_ret
        exact ⟨ret_int (by rw [List.take_of_length_le (by rw [HL.out]; omega)]; simp [thickR, hv]), hBk⟩
  · go_enter Try.func29, Try.ntmps29
    go_wp2_with fail
    refine (c_implFirnValid _ _ _ l _ hn HR.out).mono ?_
    rintro e w1 ⟨rfl, hb1⟩
    have hB1 : Below w.heap.size w w1 := hb1
    clear hb1
    go_wp2_with fail
    go_ret
    exact ⟨ret_int (by simp [thickR, hv]), hB1⟩

set_option maxHeartbeats 400000 in
theorem c_specFirnMass (A : Option Addr) (n c : Nat) (l : List (Int × Int)) (w : World) (hn : n ≤ 2000000) (h : RdP w A n l) :
    Calls Try.prog 44 #[.slice A n c] w fun e w' => e = .returned (.int .i64 (massR l)) ∧ Below w.heap.size w w' := by
  have HR := Lib.hid h
  have HL := Lib.hid h.len
  have HA := Lib.hid h.at_
  clear h
  rcases Bool.eq_false_or_eq_true (vFirn l) with hv | hv
  · have HV := Lib.hid (vFirn_ok hv)
    go_enter Try.func44, Try.ntmps44
    go_wp2_with fail
    refine (c_specFirnValid _ _ _ l _ hn HR.out).mono ?_
    rintro e w1 ⟨rfl, hb1⟩
    have hB1 : Below w.heap.size w w1 := hb1 ▸ Below.refl _ _
    clear hb1
    go_wp2_with fail
    go_loopw [3, 4] (fun s i wr => ∃ k : Nat, k ≤ n ∧ i = .int .i64 k ∧ s = .int .i64 (massOf (l.take k)) ∧ Below w.heap.size w wr) (fun _ i _ => n - (intOf i).toNat)
    case atStart => exact ⟨0, Nat.zero_le _, rfl, by simp [massOf], hB1⟩
    case round =>
      obtain ⟨k, hk, rfl, rfl, hBk⟩ := hrel
      have hsm := sums_at HV.out.1 HV.out.2 k
      by_cases hlt : k < n
      · obtain ⟨b, off, rfl, hb, hc⟩ := HA.out (by omega)
        obtain ⟨hc0, hc1⟩ := hc k hlt
        rw [← hBk.cell (p := ⟨b, off + k * 2, none⟩) hb] at hc0
        rw [← hBk.cell (p := ⟨b, off + k * 2 + 1, none⟩) hb] at hc1
        clear hc
        have hlk : k < l.length := by have := HL.out; omega
        have hok := vOk_at HV.out.1 hlk
        have hpr := prod_at HV.out.1 hlk
        have HT := Lib.hid (mass_take hlk)
        have hsz := hBk.size
        go_wp2
        go_quiet (fail)
        go_wp2
        go_roundw
        case rel => exact ⟨k + 1, by omega, by go_num, by rw [HT.out], below_drewN hBk⟩
        case measure => simp [intOf]; omega
      · obtain rfl : k = n := by omega
        go_wp2
        go_ret
        exact ⟨ret_int (by rw [List.take_of_length_le (by rw [HL.out]; omega)]; simp [massR, hv]), hBk⟩
  · go_enter Try.func44, Try.ntmps44
    go_wp2_with fail
    refine (c_specFirnValid _ _ _ l _ hn HR.out).mono ?_
    rintro e w1 ⟨rfl, hb1⟩
    have hB1 : Below w.heap.size w w1 := hb1 ▸ Below.refl _ _
    clear hb1
    go_wp2_with fail
    go_ret
    exact ⟨ret_int (by simp [massR, hv]), hB1⟩

set_option maxHeartbeats 400000 in
theorem c_implFirnMass (A : Option Addr) (n c : Nat) (l : List (Int × Int)) (w : World) (hn : n ≤ 2000000) (h : RdP w A n l) :
    Calls Try.prog 30 #[.slice A n c] w fun e w' => e = .returned (.int .i64 (massR l)) ∧ Below w.heap.size w w' := by
  have HR := Lib.hid h
  have HL := Lib.hid h.len
  have HA := Lib.hid h.at_
  clear h
  rcases Bool.eq_false_or_eq_true (vFirn l) with hv | hv
  · have HV := Lib.hid (vFirn_ok hv)
    go_enter Try.func30, Try.ntmps30
    go_wp2_with fail
    refine (c_implFirnValid _ _ _ l _ hn HR.out).mono ?_
    rintro e w1 ⟨rfl, hb1⟩
    have hB1 : Below w.heap.size w w1 := hb1
    clear hb1
    go_wp2_with fail
    go_loopw [3, 5, 11] (fun s _ i wr => ∃ k : Nat, k ≤ n ∧ i = .int .i64 k ∧ s = .int .i64 (massOf (l.take k)) ∧ Below w.heap.size w wr) (fun _ _ i _ => n - (intOf i).toNat)
    case atStart => exact ⟨0, Nat.zero_le _, rfl, by simp [massOf], hB1⟩
    case round =>
      obtain ⟨k, hk, rfl, rfl, hBk⟩ := hrel
      have hsm := sums_at HV.out.1 HV.out.2 k
      by_cases hlt : k < n
      · obtain ⟨b, off, rfl, hb, hc⟩ := HA.out (by omega)
        obtain ⟨hc0, hc1⟩ := hc k hlt
        rw [← hBk.cell (p := ⟨b, off + k * 2, none⟩) hb] at hc0
        rw [← hBk.cell (p := ⟨b, off + k * 2 + 1, none⟩) hb] at hc1
        clear hc
        have hlk : k < l.length := by have := HL.out; omega
        have hok := vOk_at HV.out.1 hlk
        have hpr := prod_at HV.out.1 hlk
        have HT := Lib.hid (mass_take hlk)
        have hsz := hBk.size
        go_wp2_with fail
        refine (c_mass _ _ _ (by omega) (by omega)).mono ?_
        rintro e w2 ⟨rfl, hb2⟩
        have hB2 : Below w.heap.size w w2 := (hBk.alloc hBk.size _).trans (hb2.mono (by simp; omega))
        clear hb2
        go_wp2
        go_roundw
        case rel => exact ⟨k + 1, by omega, by go_num, by rw [HT.out], hB2⟩
        case measure => simp [intOf]; omega
      · obtain rfl : k = n := by omega
        go_wp2
        go_ret
        exact ⟨ret_int (by rw [List.take_of_length_le (by rw [HL.out]; omega)]; simp [massR, hv]), hBk⟩
  · go_enter Try.func30, Try.ntmps30
    go_wp2_with fail
    refine (c_implFirnValid _ _ _ l _ hn HR.out).mono ?_
    rintro e w1 ⟨rfl, hb1⟩
    have hB1 : Below w.heap.size w w1 := hb1
    clear hb1
    go_wp2_with fail
    go_ret
    exact ⟨ret_int (by simp [massR, hv]), hB1⟩
end Go.Proofs.Ytkomonjmbpljhaa
