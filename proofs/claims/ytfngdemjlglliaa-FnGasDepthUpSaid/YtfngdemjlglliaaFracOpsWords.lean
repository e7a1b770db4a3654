/-
  What the operations on fractions return. No function of the program in sight.
-/
import Derived.Test.YtfngdemjlglliaaFracOfWords
namespace Go.Proofs.Ytfngdemjlglliaa
open Go.RowKit

theorem bcell {W w1 : World} (hb : Below W.heap.size W w1) : (∀ b o, b < W.heap.size → w1.cell? ⟨b, o, none⟩ = W.cell? ⟨b, o, none⟩) ∧ (∀ b o, b < W.heap.size → w1.frozen? ⟨b, o, none⟩ = W.frozen? ⟨b, o, none⟩) :=
  ⟨fun b o h => hb.cell (p := ⟨b, o, none⟩) h, fun b o h => hb.frozen (p := ⟨b, o, none⟩) h⟩
/-- x / y under the condition v -/
def okO (v : Bool) (x y : Int) : Bool := v && okF x y
def nO (v : Bool) (x y : Int) : Int := if v then nF x y else 0
def dO (v : Bool) (x y : Int) : Int := if v then dF x y else 0
def OpPost (v : Bool) (x y : Int) (w : World) (e : Ending) (w' : World) : Prop :=
  e = .returned (.tuple #[.agg #[.int .i64 (nO v x y), .int .i64 (dO v x y)], .bool (okO v x y)]) ∧ Below w.heap.size w w'
theorem op_no {v : Bool} {x y : Int} {w W : World} (h : v = false) (hB : Below w.heap.size w W) : OpPost v x y w (.returned (.tuple #[.agg #[.int .i64 0, .int .i64 0], .bool false])) W :=
  ⟨by subst h; rfl, hB⟩
theorem op_yes {v : Bool} {x y : Int} {w W : World} (h : v = true) (hB : Below w.heap.size w W) : OpPost v x y w (.returned (.tuple #[.agg #[.int .i64 (nF x y), .int .i64 (dF x y)], .bool (okF x y)])) W :=
  ⟨by subst h; simp [nO, dO, okO], hB⟩
theorem op_ok {v : Bool} {x y : Int} {w w' : World} {e : Ending} (h : v = true) (ho : okF x y = true) (hp : OpPost v x y w e w') :
    e = .returned (.tuple #[.agg #[.int .i64 (nF x y), .int .i64 (dF x y)], .bool true]) ∧ Below w.heap.size w w' := by
  obtain ⟨he, hb⟩ := hp
  refine ⟨?_, hb⟩
  rw [he, nO, dO, okO, h, ho]
  rfl
theorem op_bad {v : Bool} {x y : Int} {w w' : World} {e : Ending} (h : okO v x y = false) (hp : OpPost v x y w e w') :
    e = .returned (.tuple #[.agg #[.int .i64 0, .int .i64 0], .bool false]) ∧ Below w.heap.size w w' := by
  obtain ⟨he, hb⟩ := hp
  refine ⟨?_, hb⟩
  rw [he, h]
  rcases Bool.eq_false_or_eq_true v with hv | hv
  · have hk : okF x y = false := by simpa [okO, hv] using h
    simp [nO, dO, nF, dF, hk]
  · simp [nO, dO, hv]
theorem prod_bd {a b : Int} (h1 : -1000000000 ≤ a) (h2 : a ≤ 1000000000) (h3 : -1000000000 ≤ b) (h4 : b ≤ 1000000000) : -1000000000000000000 ≤ a * b ∧ a * b ≤ 1000000000000000000 := by
  have h := Int.natAbs_mul a b
  have hle : a.natAbs * b.natAbs ≤ 1000000000 * 1000000000 := Nat.mul_le_mul (by omega) (by omega)
  omega
def two (an ad bn bd : Int) : Bool := vF an ad && vF bn bd
theorem two_yes {an ad bn bd : Int} (h : two an ad bn bd = true) : vF an ad = true ∧ vF bn bd = true := by simpa [two] using h
def lessF (an ad bn bd : Int) : Bool := two an ad bn bd && decide (an * bd < bn * ad)
def divV (an ad bn bd : Int) : Bool := two an ad bn bd && !(bn == 0)
end Go.Proofs.Ytfngdemjlglliaa
