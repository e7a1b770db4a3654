/-
  Contract of l6In: whether a number is in a range.
-/
import Derived.Test.YtbaplcdedijaeaaRows
import Derived.Test.YtbaplcdedijaeaaWords
import Derived.Handy
namespace Go.Proofs.Ytbaplcdedijaeaa
open Go.RowKit

set_option maxHeartbeats 400000 in
theorem c_l6In (n lo hi : Int) (w : World) :
    Calls Try.prog 34 #[.int .i64 n, .int .i64 lo, .int .i64 hi] w fun e w' => e = .returned (.bool (inB n lo hi)) ∧ w = w' := by
  by_cases h1 : lo ≤ n <;> by_cases h2 : n ≤ hi
  all_goals
    go_enter Try.func34, Try.ntmps34
    go_wp2
    go_ret
    exact ⟨ret_bool (by simp [inB, h1, h2]), rfl⟩
end Go.Proofs.Ytbaplcdedijaeaa
