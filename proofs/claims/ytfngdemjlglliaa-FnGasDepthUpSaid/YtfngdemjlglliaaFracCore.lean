/-
  Contracts of the program's and the reference's greatest common divisors, FracValid and FracOf.
-/
import Derived.Test.YtfngdemjlglliaaRows
import Derived.Test.YtfngdemjlglliaaFracMath
import Derived.Test.YtfngdemjlglliaaIn
import Derived.Handy
import Derived.IntWalk
import Derived.Deep.QuietTactic
import Derived.BigQuiet
namespace Go.Proofs.Ytfngdemjlglliaa
open Go.RowKit

theorem gcd_bd {a b M : Int} (h0 : -M ≤ a) (h1 : a ≤ M) (h2 : -M ≤ b) (h3 : b ≤ M) : 0 ≤ (Int.gcd a b : Int) ∧ (Int.gcd a b : Int) ≤ M := by
  refine ⟨by omega, ?_⟩
  by_cases ha : a = 0
  · subst ha
    rw [Int.gcd_zero_left]
    omega
  · have := Int.gcd_le_natAbs_left (a := a) b ha
    omega

theorem below_drewN {B n : Nat} {a w : World} (h : Below B a w) : Below B a (w.drewN n) := ⟨h.os, h.tape, h.output, h.size, h.block⟩

theorem quiet_left {P : Program} {f : FuncId} {args : Array Value} {w : World} {n : Nat} {v : Value}
    (h : Calls P f args (w.drewN n) fun e w' => e = .returned v ∧ w.drewN n = w') : Calls P f args (w.drewN n) fun e w'' => e = .returned v ∧ ∃ m, w'' = w.drewN m :=
  h.mono fun _ _ ⟨he, hm⟩ => ⟨he, n, hm.symm⟩

set_option maxHeartbeats 400000 in
theorem c_gcd (a b : Int) (w : World) (h0 : -4000000000000000000 ≤ a) (h1 : a ≤ 4000000000000000000) (h2 : -4000000000000000000 ≤ b) (h3 : b ≤ 4000000000000000000) :
    Calls Try.prog 56 #[.int .i64 a, .int .i64 b] w fun e w' => e = .returned (.int .i64 (Int.gcd a b)) ∧ Below w.heap.size w w' := by
  go_enter Try.func56, Try.ntmps56
  go_wp2
  go_loopw [0, 1] (fun p q wr => ∃ x y : Int, p = .int .i64 x ∧ q = .int .i64 y ∧ -4000000000000000000 ≤ x ∧ x ≤ 4000000000000000000 ∧ -4000000000000000000 ≤ y ∧ y ≤ 4000000000000000000 ∧ Hid (Int.gcd a b = Int.gcd x y) ∧ Below w.heap.size w wr) (fun _ q _ => (intOf q).natAbs)
  case atStart => exact ⟨a, b, rfl, rfl, h0, h1, h2, h3, Lib.hid rfl, Below.refl _ _⟩
  case round =>
    obtain ⟨x, y, rfl, rfl, x0, x1, y0, y1, HG, hB⟩ := hrel
    by_cases hy : y = 0
    · subst hy
      have HE := Lib.hid (show ((Int.gcd a b : Nat) : Int) = max x (-x) by rw [HG.out, Int.gcd_zero_right]; omega)
      by_cases hx : x < -x
      · go_wp2
        go_ret
        exact ⟨ret_int (by rw [HE.out]; omega), hB⟩
      · go_wp2
        go_ret
        exact ⟨ret_int (by rw [HE.out]; omega), hB⟩
    · have hy1 : (y != 0) = true := by simpa using hy
      have hy2 : (y == 0) = false := by simpa using hy
      have HS := Lib.hid (HG.out.trans (gcd_step x y))
      have hl := tmod_less x y hy
      have ht0 : -4000000000000000000 ≤ x.tmod y := by omega
      have ht1 : x.tmod y ≤ 4000000000000000000 := by omega
      go_wp2_with fail
      go_quiet (fail)
      go_wp2
      go_roundw
      case rel => exact ⟨y, x.tmod y, rfl, rfl, y0, y1, ht0, ht1, HS, below_drewN hB⟩
      case measure => simpa [intOf] using hl

set_option maxHeartbeats 400000 in
theorem c_l2Gcd (a b : Int) (w : World) (h0 : 0 ≤ a) (h1 : a ≤ 4000000000000000000) (h2 : 0 ≤ b) (h3 : b ≤ 4000000000000000000) :
    Calls Try.prog 64 #[.int .i64 a, .int .i64 b] w fun e w' => e = .returned (.int .i64 (Int.gcd a b)) ∧ w = w' := by
  go_enter Try.func64, Try.ntmps64
  go_wp2
  go_loop [0, 1] (fun p q => ∃ x y : Int, p = .int .i64 x ∧ q = .int .i64 y ∧ 0 ≤ x ∧ x ≤ 4000000000000000000 ∧ 0 ≤ y ∧ y ≤ 4000000000000000000 ∧ Hid (Int.gcd a b = Int.gcd x y)) (fun _ q => (intOf q).natAbs)
  case atStart => exact ⟨a, b, rfl, rfl, h0, h1, h2, h3, Lib.hid rfl⟩
  case round =>
    obtain ⟨x, y, rfl, rfl, x0, x1, y0, y1, HG⟩ := hrel
    by_cases hy : y = 0
    · subst hy
      have HE := Lib.hid (show ((Int.gcd a b : Nat) : Int) = x by rw [HG.out, Int.gcd_zero_right]; omega)
      go_wp2
      go_ret
      exact ⟨ret_int (by rw [HE.out]), rfl⟩
    · have hy1 : (y != 0) = true := by simpa using hy
      have hy2 : (y == 0) = false := by simpa using hy
      have HT := Lib.hid (show x.tmod y = x % y from Int.tmod_eq_emod_of_nonneg x0)
      have HS := Lib.hid (show Int.gcd a b = Int.gcd y (x % y) by rw [← HT.out]; exact HG.out.trans (gcd_step x y))
      have ht0 : 0 ≤ x % y := Int.emod_nonneg _ hy
      have ht1 : x % y < y := Int.emod_lt_of_pos _ (by omega)
      go_wp2
      go_round
      case rel => exact ⟨y, x % y, rfl, rfl, y0, y1, ht0, by omega, HS⟩
      case measure => simp [intOf]; omega

set_option maxHeartbeats 400000 in
theorem c_l2Abs (a : Int) (w : World) (h0 : -4000000000000000000 ≤ a) (h1 : a ≤ 4000000000000000000) :
    Calls Try.prog 65 #[.int .i64 a] w fun e w' => e = .returned (.int .i64 (max a (-a))) ∧ w = w' := by
  by_cases hx : a < 0 - a
  all_goals
    go_enter Try.func65, Try.ntmps65
    go_wp2
    go_ret
    exact ⟨ret_int (by omega), rfl⟩

theorem gcd_abs (a b : Int) : Int.gcd (max a (-a)) b = Int.gcd a b := by
  rcases Int.le_total 0 a with h | h
  · rw [show max a (-a) = a by omega]
  · rw [show max a (-a) = -a by omega, Int.neg_gcd]
theorem vF_no1 {N D : Int} (h : D < 1 ∨ 1000000000 < D ∨ N < -1000000000 ∨ 1000000000 < N) : vF N D = false := by
  unfold vF; rw [decide_eq_false_iff_not]; omega
theorem vF_g {N D : Int} (h1 : 1 ≤ D) (h2 : D ≤ 1000000000) (h3 : -1000000000 ≤ N) (h4 : N ≤ 1000000000) : vF N D = ((Int.gcd N D : Int) == 1) := by
  rw [Bool.eq_iff_iff]
  simp [vF, h1, h2, h3, h4]
  omega

set_option maxHeartbeats 1000000 in
theorem c_implFracValid (N D : Int) (w : World) :
    Calls Try.prog 36 #[.agg #[.int .i64 N, .int .i64 D]] w fun e w' => e = .returned (.bool (vF N D)) ∧ Below w.heap.size w w' := by
  by_cases h1 : D < 1
  · have HV := Lib.hid (vF_no1 (N := N) (D := D) (by omega))
    have d1 : decide (1 ≤ D) = false := by simp; omega
    go_enter Try.func36, Try.ntmps36
    go_wp2
    go_ret
    exact ⟨ret_bool HV.out.symm, by go_grown⟩
  · by_cases h2 : 1000000000 < D
    · have HV := Lib.hid (vF_no1 (N := N) (D := D) (by omega))
      have d1 : decide (1 ≤ D) = true := by simp; omega
      have d2 : decide (D ≤ 1000000000) = false := by simp; omega
      go_enter Try.func36, Try.ntmps36
      go_wp2
      go_ret
      exact ⟨ret_bool HV.out.symm, by go_grown⟩
    · by_cases h3 : N < -1000000000
      · have HV := Lib.hid (vF_no1 (N := N) (D := D) (by omega))
        have d1 : decide (1 ≤ D) = true := by simp; omega
        have d2 : decide (D ≤ 1000000000) = true := by simp; omega
        have d3 : decide (-1000000000 ≤ N) = false := by simp; omega
        go_enter Try.func36, Try.ntmps36
        go_wp2
        go_ret
        exact ⟨ret_bool HV.out.symm, by go_grown⟩
      · by_cases h4 : 1000000000 < N
        · have HV := Lib.hid (vF_no1 (N := N) (D := D) (by omega))
          have d1 : decide (1 ≤ D) = true := by simp; omega
          have d2 : decide (D ≤ 1000000000) = true := by simp; omega
          have d3 : decide (-1000000000 ≤ N) = true := by simp; omega
          have d4 : decide (N ≤ 1000000000) = false := by simp; omega
          go_enter Try.func36, Try.ntmps36
          go_wp2
          go_ret
          exact ⟨ret_bool HV.out.symm, by go_grown⟩
        · have HV := Lib.hid (vF_g (N := N) (D := D) (by omega) (by omega) (by omega) (by omega))
          have d1 : decide (1 ≤ D) = true := by simp; omega
          have d2 : decide (D ≤ 1000000000) = true := by simp; omega
          have d3 : decide (-1000000000 ≤ N) = true := by simp; omega
          have d4 : decide (N ≤ 1000000000) = true := by simp; omega
          go_enter Try.func36, Try.ntmps36
          go_wp2_with fail
          refine (c_gcd N D _ (by omega) (by omega) (by omega) (by omega)).mono ?_
          rintro e w2 ⟨rfl, hb2⟩
          have hB2 : Below w.heap.size w w2 := ((Below.refl _ _).alloc (Nat.le_refl _) _).trans (hb2.mono (by simp))
          clear hb2
          go_wp2
          go_ret
          exact ⟨ret_bool HV.out.symm, hB2⟩

set_option maxHeartbeats 1000000 in
theorem c_specFracValid (N D : Int) (w : World) :
    Calls Try.prog 63 #[.agg #[.int .i64 N, .int .i64 D]] w fun e w' => e = .returned (.bool (vF N D)) ∧ Below w.heap.size w w' := by
  rcases Bool.eq_false_or_eq_true (inB D 1 1000000000) with h1 | h1
  · rcases Bool.eq_false_or_eq_true (inB N (-1000000000) 1000000000) with h2 | h2
    · obtain ⟨a1, a2⟩ := inB_true h1
      obtain ⟨a3, a4⟩ := inB_true h2
      have HV := Lib.hid (vF_g (N := N) (D := D) a1 a2 a3 a4)
      have HA := Lib.hid (gcd_abs N D)
      go_enter Try.func63, Try.ntmps63
      go_wp2_with fail
      refine (c_l6In _ _ _ _).mono ?_
      rintro e w' ⟨rfl, rfl⟩
      go_wp2_with fail
      refine (c_l6In _ _ _ _).mono ?_
      rintro e w' ⟨rfl, rfl⟩
      go_wp2_with fail
      go_quiet (first | (go_at_call 65; exact quiet_left (c_l2Abs N _ (by omega) (by omega))) | (go_at_call 64; exact quiet_left (c_l2Gcd (max N (-N)) D _ (by omega) (by omega) (by omega) (by omega))))
      go_wp2
      go_ret
      exact ⟨ret_bool (by rw [HV.out, HA.out]), below_drewN (by go_grown)⟩
    · have HV := Lib.hid (vF_no1 (N := N) (D := D) (by have := inB_false h2; omega))
      go_enter Try.func63, Try.ntmps63
      go_wp2_with fail
      refine (c_l6In _ _ _ _).mono ?_
      rintro e w' ⟨rfl, rfl⟩
      go_wp2_with fail
      refine (c_l6In _ _ _ _).mono ?_
      rintro e w' ⟨rfl, rfl⟩
      go_wp2
      go_ret
      exact ⟨ret_bool HV.out.symm, by go_grown⟩
  · have HV := Lib.hid (vF_no1 (N := N) (D := D) (by have := inB_false h1; omega))
    go_enter Try.func63, Try.ntmps63
    go_wp2_with fail
    refine (c_l6In _ _ _ _).mono ?_
    rintro e w' ⟨rfl, rfl⟩
    go_wp2
    go_ret
    exact ⟨ret_bool HV.out.symm, by go_grown⟩
end Go.Proofs.Ytfngdemjlglliaa
