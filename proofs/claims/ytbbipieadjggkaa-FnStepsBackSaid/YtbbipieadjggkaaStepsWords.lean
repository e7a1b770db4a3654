/-
  What WaterSteps returns where its answer is known. No function of the program in sight.
-/
import Derived.Test.YtbbipieadjggkaaSteps
import Derived.Test.YtbbipieadjggkaaBoxes
namespace Go.Proofs.Ytbbipieadjggkaa
open Go.RowKit

theorem stV_yes {rn rd fn fd n : Int} (h : stV rn rd fn fd n = true) : ∃ m : Nat, n = (m : Int) ∧ m ≤ 10 ∧ vF rn rd = true ∧ vF fn fd = true ∧ stO rn rd fn fd m = true := by
  simp only [stV, Bool.and_eq_true] at h
  obtain ⟨⟨h1, h2⟩, h3⟩ := h
  have hb := inB_true h2
  exact ⟨n.toNat, by omega, by omega, (two_yes h1).1, (two_yes h1).2, h3⟩
theorem stV_mk {rn rd fn fd : Int} {m : Nat} (hm : m ≤ 10) (hr : vF rn rd = true) (hf : vF fn fd = true) (ho : stO rn rd fn fd m = true) : stV rn rd fn fd (m : Int) = true := by
  simp [stV, two, hr, hf, ho, inB_of (show (0 : Int) ≤ (m : Int) by omega) (show (m : Int) ≤ 10 by omega)]
theorem st_at {rn rd fn fd n N D : Int} {m : Nat} (hn : n = (m : Int)) (hm : m ≤ 10) (hr : vF rn rd = true) (hf : vF fn fd = true) (ho : stO rn rd fn fd m = true) (hN : stN rn rd fn fd m = N) (hD : stD rn rd fn fd m = D) {e : Ending} {w w' : World} (hp : StPost rn rd fn fd n w e w') :
    e = .returned (.tuple #[.agg #[.int .i64 N, .int .i64 D], .bool true]) ∧ Below w.heap.size w w' := by
  subst hn hN hD
  obtain ⟨he, hb⟩ := hp
  have hv := stV_mk hm hr hf ho
  exact ⟨by simpa [stPN, stPD, hv] using he, hb⟩
theorem st_bad {rn rd fn fd n : Int} (h : stV rn rd fn fd n = false) {e : Ending} {w w' : World} (hp : StPost rn rd fn fd n w e w') :
    e = .returned (.tuple #[.agg #[.int .i64 0, .int .i64 0], .bool false]) ∧ Below w.heap.size w w' := by
  obtain ⟨he, hb⟩ := hp
  exact ⟨by simpa [stPN, stPD, h] using he, hb⟩
end Go.Proofs.Ytbbipieadjggkaa
