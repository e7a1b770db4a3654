/-
  Contracts of the functions on firn.
-/
import Derived.Test.YtkomonjmbpljhaaRows
import Derived.Test.YtkomonjmbpljhaaFirnMath
import Derived.Handy
namespace Go.Proofs.Ytkomonjmbpljhaa
open Go.RowKit

set_option maxHeartbeats 400000 in
theorem c_l6In (n lo hi : Int) (w : World) :
    Calls Try.prog 39 #[.int .i64 n, .int .i64 lo, .int .i64 hi] w fun e w' => e = .returned (.bool (inB n lo hi)) ∧ w = w' := by
  by_cases h1 : lo ≤ n <;> by_cases h2 : n ≤ hi
  all_goals
    go_enter Try.func39, Try.ntmps39
    go_wp2
    go_ret
    exact ⟨ret_bool (by simp [inB, h1, h2]), rfl⟩

set_option maxHeartbeats 400000 in
theorem c_specFirnValid (A : Option Addr) (n c : Nat) (l : List (Int × Int)) (w : World) (hn : n ≤ 2000000) (h : RdP w A n l) :
    Calls Try.prog 38 #[.slice A n c] w fun e w' => e = .returned (.bool (vFirn l)) ∧ w = w' := by
  have HL := Lib.hid h.len
  have HA := Lib.hid h.at_
  clear h
  go_enter Try.func38, Try.ntmps38
  go_wp2
  go_loop [3] (fun i => ∃ k : Nat, k ≤ n ∧ i = .int .i64 k ∧ Hid ((l.take k).all vSlab = true)) (fun i => n - (intOf i).toNat)
  case atStart => exact ⟨0, Nat.zero_le _, rfl, rfl⟩
  case round =>
    obtain ⟨k, hk, rfl, HK⟩ := hrel
    by_cases hlt : k < n
    · obtain ⟨b, off, rfl, hb, hc⟩ := HA.out (by omega)
      obtain ⟨hc0, hc1⟩ := hc k hlt
      clear hc
      rcases Bool.eq_false_or_eq_true (inB (px l k) 1 1000) with h1 | h1 <;> rcases Bool.eq_false_or_eq_true (inB (py l k) 1 917) with h2 | h2
      all_goals go_wp2_with (go_at_call 39; refine (c_l6In _ _ _ _).mono ?_; rintro e w' ⟨rfl, rfl⟩)
      · go_round
        case rel => exact ⟨k + 1, by omega, by go_num, all_take_succ l k (by have := HL.out; omega) HK.out h1 h2⟩
        case measure => simp [intOf]; omega
      all_goals
        go_ret
        exact ⟨ret_bool (vFirn_bad l k (by have := HL.out; omega) (by simp [h1, h2])).symm, rfl⟩
    · obtain rfl : k = n := by omega
      go_wp2
      go_ret
      exact ⟨ret_bool (by rw [vFirn_end l k HL.out HK.out]), rfl⟩

set_option maxHeartbeats 400000 in
theorem c_implFirnValid (A : Option Addr) (n c : Nat) (l : List (Int × Int)) (w : World) (hn : n ≤ 2000000) (h : RdP w A n l) :
    Calls Try.prog 19 #[.slice A n c] w fun e w' => e = .returned (.bool (vFirn l)) ∧ Below w.heap.size w w' := by
  have HL := Lib.hid h.len
  have HA := Lib.hid h.at_
  clear h
  go_enter Try.func19, Try.ntmps19
  go_wp2
  go_loopw [4, 7] (fun _ i wr => ∃ k : Nat, k ≤ n ∧ i = .int .i64 k ∧ Hid ((l.take k).all vSlab = true) ∧ Below w.heap.size w wr) (fun _ i _ => n - (intOf i).toNat)
  case atStart => exact ⟨0, Nat.zero_le _, rfl, rfl, Below.refl _ _⟩
  case round =>
    obtain ⟨k, hk, rfl, HK, hB⟩ := hrel
    by_cases hlt : k < n
    · obtain ⟨b, off, rfl, hb, hc⟩ := HA.out (by omega)
      obtain ⟨hc0, hc1⟩ := hc k hlt
      rw [← hB.cell (p := ⟨b, off + k * 2, none⟩) hb] at hc0
      rw [← hB.cell (p := ⟨b, off + k * 2 + 1, none⟩) hb] at hc1
      clear hc
      have hsz := hB.size
      go_wp2
      rotate_left 1
      · go_roundw
        case rel => exact ⟨k + 1, by omega, by go_num, all_take_succ l k (by have := HL.out; omega) HK.out (inB_of (by omega) (by omega)) (inB_of (by omega) (by omega)), by go_grown⟩
        case measure => simp [intOf]; omega
      all_goals
        go_ret
        exact ⟨ret_bool (vFirn_bad l k (by have := HL.out; omega) (by first | exact .inl (inB_not (by omega)) | exact .inr (inB_not (by omega)))).symm, by go_grown⟩
    · obtain rfl : k = n := by omega
      go_wp2
      go_ret
      exact ⟨ret_bool (by rw [vFirn_end l k HL.out HK.out]), hB⟩
end Go.Proofs.Ytkomonjmbpljhaa
