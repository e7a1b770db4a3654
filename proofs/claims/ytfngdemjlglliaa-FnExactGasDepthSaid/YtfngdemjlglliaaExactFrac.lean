/-
  Contracts of szKnotS at any bound and of eqFrac.
-/
import Derived.Test.YtfngdemjlglliaaExactKnot
import Derived.Test.YtfngdemjlglliaaLagWords
namespace Go.Proofs.Ytfngdemjlglliaa
open Go.RowKit

set_option maxHeartbeats 400000 in
theorem c_szKnotS_noG (A : Option Addr) (n c : Nat) (b : Int) (w : World) (hn : b < n) (hn2 : n ≤ 9223372036854775807) (hb : 0 ≤ b) :
    Calls Try.prog 19 #[.slice A n c, .int .i64 b] w fun e w' => e = .returned (.int .i64 (-1)) ∧ w = w' := by
  go_enter Try.func19, Try.ntmps19
  go_wp2
  go_ret
  exact ⟨rfl, rfl⟩
set_option maxHeartbeats 400000 in
theorem c_szKnotS_yesG (A : Option Addr) (n c : Nat) (b : Int) (w : World) (hn : n ≤ b) (hb : b ≤ 1048576) :
    Calls Try.prog 19 #[.slice A n c, .int .i64 b] w fun e w' => e = .returned (.int .i64 (b - n)) ∧ w = w' := by
  have hd : decide (b < (n : Int)) = false := by simp; omega
  go_enter Try.func19, Try.ntmps19
  go_wp2
  go_ret
  exact ⟨rfl, rfl⟩
set_option maxHeartbeats 400000 in
theorem c_eqFrac (x y x' y' : Int) (w : World) :
    Calls Try.prog 21 #[.agg #[.int .i64 x, .int .i64 y], .agg #[.int .i64 x', .int .i64 y']] w fun e w' => e = .returned (.bool (eqP x y x' y')) ∧ Below w.heap.size w w' := by
  by_cases h1 : x = x' <;> by_cases h2 : y = y'
  all_goals
    have g1 := h1
    have g2 := h2
    first | (rw [← bne_eq_false_iff_eq] at g1; try subst h1) | rw [← ne_eq, ← bne_iff_ne] at g1
    first | (rw [← bne_eq_false_iff_eq] at g2; try subst h2) | rw [← ne_eq, ← bne_iff_ne] at g2
    go_enter Try.func21, Try.ntmps21
    go_wp2
    go_ret
    exact ⟨ret_bool (by simp_all [eqP]), by go_grown⟩
theorem eqP_refl (x y : Int) : eqP x y x y = true := by simp [eqP]
theorem eqL_refl (l : List (Int × Int)) : eqL l l = true := by simp [eqL]
end Go.Proofs.Ytfngdemjlglliaa
