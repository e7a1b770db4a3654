/-
  A row of pairs that is filled from its head on, and the list of marks. No program in sight.
-/
import Derived.Test.YtmcpojnioppgfaaWords
namespace Go.Proofs.Ytmcpojnioppgfaa
open Go.RowKit

theorem row_put2 {w : World} {g : Nat} {t : TypeId} {n k : Nat} {cs : Array Value} {l : List (Int × Int)} (hb : Blk w g t cs) (hs : n * 2 ≤ cs.size) (hk : k < n)
    (hc : ∀ i, i < k → cs[i * 2]? = some (.int .i64 (px l i)) ∧ cs[i * 2 + 1]? = some (.int .i64 (py l i))) :
    ∃ cs', Blk ((w.setCell ⟨g, k * 2, none⟩ (.int .i64 (px l k))).setCell ⟨g, k * 2 + 1, none⟩ (.int .i64 (py l k))) g t cs' ∧ n * 2 ≤ cs'.size ∧
      ∀ i, i < k + 1 → cs'[i * 2]? = some (.int .i64 (px l i)) ∧ cs'[i * 2 + 1]? = some (.int .i64 (py l i)) := by
  refine ⟨_, (hb.put _ _).put _ _, by simpa using hs, fun i hi => ?_⟩
  simp only [Array.getElem?_setIfInBounds, Array.size_setIfInBounds]
  by_cases e : i = k
  · subst e
    rw [if_neg (by omega), if_pos rfl, if_pos (by omega), if_pos rfl, if_pos (by omega)]
    exact ⟨rfl, rfl⟩
  · rw [if_neg (by omega), if_neg (by omega), if_neg (by omega), if_neg (by omega)]
    exact hc i (by omega)
/-- the marks from k on, two a place -/
def mkL (k : Int) (n : Nat) : List (Int × Int) := (List.range n).map fun (i : Nat) => (k + 2 * (i : Int), k + 2 * (i : Int) + 1)
theorem mkL_len (k : Int) (n : Nat) : (mkL k n).length = n := by simp [mkL]
theorem mkL_px {k : Int} {n i : Nat} (h : i < n) : px (mkL k n) i = k + 2 * (i : Int) := by
  rw [px_eq (by rw [mkL_len]; exact h)]
  simp [mkL]
theorem mkL_py {k : Int} {n i : Nat} (h : i < n) : py (mkL k n) i = k + 2 * (i : Int) + 1 := by
  rw [py_eq (by rw [mkL_len]; exact h)]
  simp [mkL]
end Go.Proofs.Ytmcpojnioppgfaa
