/-
  What the value of a curve at a fraction returns. No function of the program in sight.
-/
import Derived.Test.YtfngdemjlglliaaAtMath
import Derived.Test.YtfngdemjlglliaaFrWords
namespace Go.Proofs.Ytfngdemjlglliaa
open Go.RowKit

def AtPost (l : List (Int × Int)) (N D : Int) (w : World) (e : Ending) (w' : World) : Prop :=
  e = .returned (.tuple #[.agg #[.int .i64 (nA l N D), .int .i64 (dA l N D)], .bool (okA l N D)]) ∧ Below w.heap.size w w'
theorem at_no {l : List (Int × Int)} {N D : Int} {w W : World} (h : okA l N D = false) (hB : Below w.heap.size w W) : AtPost l N D w (.returned (.tuple #[.agg #[.int .i64 0, .int .i64 0], .bool false])) W :=
  ⟨by rw [h, (nA_no h).1, (nA_no h).2], hB⟩
theorem at_yes {l : List (Int × Int)} {N D n d : Int} {b : Bool} {w W : World} (hb : okA l N D = b) (hn : nA l N D = n) (hd : dA l N D = d) (hB : Below w.heap.size w W) : AtPost l N D w (.returned (.tuple #[.agg #[.int .i64 n, .int .i64 d], .bool b])) W :=
  ⟨by rw [hb, hn, hd], hB⟩
theorem inC_low {l : List (Int × Int)} {N D : Int} (h : N < px l 0 * D) : inC l N D = false := by
  rw [inC, decide_eq_false_iff_not]; omega
theorem inC_high {l : List (Int × Int)} {N D : Int} (h : px l (l.length - 1) * D < N) : inC l N D = false := by
  rw [inC, decide_eq_false_iff_not]; omega
theorem blk_drewN {w : World} {g n : Nat} {t : TypeId} {cs : Array Value} (h : Blk w g t cs) : Blk (w.drewN n) g t cs := h
theorem past_step {l : List (Int × Int)} {N D : Int} {k : Nat} (h : ∀ j, 1 ≤ j → j < k → px l j * D < N) (hk : px l k * D < N) : ∀ j, 1 ≤ j → j < k + 1 → px l j * D < N := by
  intro j h1 h2
  by_cases e : j = k
  · rw [e]; exact hk
  · exact h j h1 (by omega)
def AtRel (n : Nat) (l : List (Int × Int)) (N D : Int) (w : World) (i : Value) (wr : World) : Prop :=
  ∃ k : Nat, 1 ≤ k ∧ k ≤ n ∧ i = .int .i64 k ∧ (∀ j, 1 ≤ j → j < k → px l j * D < N) ∧ Blk wr w.heap.size 27 #[.int .i64 N, .int .i64 D] ∧ Blk wr (w.heap.size + 1) 27 #[.int .i64 0, .int .i64 0] ∧ Below w.heap.size w wr
/-- the numbers that curveAt reckons with -/
theorem at_nums {a b c d N D : Int} (ha : 0 ≤ a) (hab : a < b) (hb : b ≤ 30000) (hc : 0 ≤ c) (hcd : c < d) (hd : d ≤ 30000) (h1 : 1 ≤ D) (h2 : D ≤ 30000) (hl : a * D ≤ N) (ht : N ≤ b * D) :
    (0 ≤ c * (b - a) ∧ c * (b - a) ≤ 900000000) ∧ (0 ≤ c * (b - a) * D ∧ c * (b - a) * D ≤ 27000000000000) ∧ (0 ≤ a * D ∧ a * D ≤ 900000000) ∧ (0 ≤ (N - a * D) * (d - c) ∧ (N - a * D) * (d - c) ≤ 27000000000000) ∧ (1 ≤ (b - a) * D ∧ (b - a) * D ≤ 900000000) ∧ N ≤ 900000000 := by
  have m1 := mul_bd hc (show c ≤ 30000 by omega) (show 0 ≤ b - a by omega) (show b - a ≤ 30000 by omega)
  have m2 := mul_bd m1.1 (show c * (b - a) ≤ 900000000 by omega) (show 0 ≤ D by omega) h2
  have m3 := mul_bd ha (show a ≤ 30000 by omega) (show 0 ≤ D by omega) h2
  have m5 := mul_bd (show 0 ≤ b by omega) hb (show 0 ≤ D by omega) h2
  have m4 := mul_bd (show 0 ≤ N - a * D by omega) (show N - a * D ≤ 900000000 by omega) (show 0 ≤ d - c by omega) (show d - c ≤ 30000 by omega)
  have m6 := Int.mul_le_mul (show (1 : Int) ≤ b - a by omega) h1 (by omega) (by omega)
  have m7 := mul_bd (show 0 ≤ b - a by omega) (show b - a ≤ 30000 by omega) (show 0 ≤ D by omega) h2
  omega
end Go.Proofs.Ytfngdemjlglliaa
