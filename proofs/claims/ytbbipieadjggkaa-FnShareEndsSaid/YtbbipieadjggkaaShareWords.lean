/-
  What WaterShare returns. No function of the program in sight.
-/
import Derived.Test.YtbbipieadjggkaaShareMath
import Derived.Test.YtbbipieadjggkaaBlkMore
namespace Go.Proofs.Ytbbipieadjggkaa
open Go.RowKit
def ShPost (aA aH bA bH rn rd : Int) (w : World) (e : Ending) (w' : World) : Prop :=
  e = .returned (.tuple #[.agg #[.int .i64 (sN aA aH bA bH rn rd), .int .i64 (sD aA aH bA bH rn rd)], .bool (vS aA aH bA bH rn rd)]) ∧ Below w.heap.size w w'
theorem sh_no {aA aH bA bH rn rd : Int} {w W : World} (h : vS aA aH bA bH rn rd = false) (hB : Below w.heap.size w W) : ShPost aA aH bA bH rn rd w (.returned (.tuple #[.agg #[.int .i64 0, .int .i64 0], .bool false])) W :=
  ⟨by simp [sN, sD, h], hB⟩
theorem sh_yes {aA aH bA bH rn rd N D : Int} {w W : World} (h : vS aA aH bA bH rn rd = true) (hN : nF (shX aA bA bH rn rd) (shY aA aH bA bH rd) = N) (hD : dF (shX aA bA bH rn rd) (shY aA aH bA bH rd) = D) (hB : Below w.heap.size w W) : ShPost aA aH bA bH rn rd w (.returned (.tuple #[.agg #[.int .i64 N, .int .i64 D], .bool true])) W :=
  ⟨by simp [sN, sD, h, hN, hD], hB⟩
theorem sh_ok {aA aH bA bH rn rd N D : Int} (h : vS aA aH bA bH rn rd = true) (hN : sN aA aH bA bH rn rd = N) (hD : sD aA aH bA bH rn rd = D) {e : Ending} {w w' : World} (hp : ShPost aA aH bA bH rn rd w e w') : e = .returned (.tuple #[.agg #[.int .i64 N, .int .i64 D], .bool true]) ∧ Below w.heap.size w w' := by
  obtain ⟨he, hb⟩ := hp
  rw [h, hN, hD] at he
  exact ⟨he, hb⟩
theorem sh_bad {aA aH bA bH rn rd : Int} (h : vS aA aH bA bH rn rd = false) {e : Ending} {w w' : World} (hp : ShPost aA aH bA bH rn rd w e w') : e = .returned (.tuple #[.agg #[.int .i64 0, .int .i64 0], .bool false]) ∧ Below w.heap.size w w' := by
  obtain ⟨he, hb⟩ := hp
  exact ⟨by simpa [sN, sD, h] using he, hb⟩
end Go.Proofs.Ytbbipieadjggkaa
