/-
  The chain of operations by which the reference finds the value of a curve. No function of the program in sight.
-/
import Derived.Test.YtfngdemjlglliaaBoxG
namespace Go.Proofs.Ytfngdemjlglliaa
open Go.RowKit

theorem vF_whole {x : Int} (h0 : 0 ≤ x) (h1 : x ≤ 1000000000) : vF x 1 = true := vF_mk (by omega) (by omega) (by omega) h1 (by simp)
theorem less_whole {x N D : Int} (h0 : 0 ≤ x) (h1 : x ≤ 30000) (hf : vF N D = true) : lessF x 1 N D = decide (x * D < N) ∧ lessF N D x 1 = decide (N < x * D) := by
  have h := vF_whole h0 (show x ≤ 1000000000 by omega)
  unfold lessF two
  rw [h, hf, Int.mul_one]
  exact ⟨rfl, rfl⟩
theorem of_at {x y N D : Int} {b : Bool} (hN : nF x y = N) (hD : dF x y = D) (ho : okF x y = b) {e : Ending} {w w' : World} (hp : OfPost x y w e w') :
    e = .returned (.tuple #[.agg #[.int .i64 N, .int .i64 D], .bool b]) ∧ Below w.heap.size w w' := by
  subst hN hD ho
  exact hp
theorem chain_all {l : List (Int × Int)} {N D xa ya xb yb : Int} {j : Nat} (hs : IsSeg l N D (j + 1)) (hv : vC l = true) (hf : vF N D = true) (h2 : D ≤ 30000) (hxa : px l j = xa) (hya : py l j = ya) (hxb : px l (j + 1) = xb) (hyb : py l (j + 1) = yb) :
    ∃ p0 rn rd : Int, (two N D xa 1 = true ∧ nF (N * 1 - xa * D) (D * 1) = p0 ∧ dF (N * 1 - xa * D) (D * 1) = D ∧ okF (N * 1 - xa * D) (D * 1) = true) ∧
      (nF (yb - ya) (xb - xa) = rn ∧ dF (yb - ya) (xb - xa) = rd ∧ okF (yb - ya) (xb - xa) = true) ∧ two p0 D rn rd = true ∧
      ((okO (two p0 D rn rd) (p0 * rn) (D * rd) = false ∧ okA l N D = false) ∨ ∃ en ed : Int, okF (p0 * rn) (D * rd) = true ∧ nF (p0 * rn) (D * rd) = en ∧ dF (p0 * rn) (D * rd) = ed ∧ two ya 1 en ed = true ∧
        nF (ya * ed + en * 1) (1 * ed) = nA l N D ∧ dF (ya * ed + en * 1) (1 * ed) = dA l N D ∧ okF (ya * ed + en * 1) (1 * ed) = okA l N D) := by
  have v1 := (vF_yes hf).1
  obtain ⟨s1, s2, s3, s4⟩ := chain_sub hs hv hf h2
  obtain ⟨t1, t2, t3⟩ := chain_slope hs hv v1 h2
  obtain ⟨⟨b1, b2, b3⟩, ⟨c1, c2, c3⟩, _⟩ := seg_bd hs hv v1 h2
  obtain ⟨e1, e2, e3⟩ := at_seg hs hv (by omega)
  have hfit := fun h => chain_fit hs hv v1 h2 t2 t3 s4 h
  have hyes := fun en ed he hve => chain_yes (en := en) (ed := ed) hs hv v1 h2 t2 he hve
  rw [← e1, ← e2, ← e3] at hyes
  rw [← e1] at hfit
  simp only [Nat.add_sub_cancel] at *
  subst hxa hya hxb hyb
  have vx := vF_whole b1 (show px l j ≤ 1000000000 by omega)
  have vy := vF_whole c1 (show py l j ≤ 1000000000 by omega)
  refine ⟨N - px l j * D, _, _, ⟨by simp [two, hf, vx], s2, s3, s1⟩, ⟨rfl, rfl, t1⟩, by simp [two, s4, t3], ?_⟩
  rcases Bool.eq_false_or_eq_true (okF ((N - px l j * D) * nF (py l (j + 1) - py l j) (px l (j + 1) - px l j)) (D * dF (py l (j + 1) - py l j) (px l (j + 1) - px l j))) with h | h
  · right
    obtain ⟨f1, f2⟩ := okF_val h
    obtain ⟨g1, g2, g3⟩ := hyes _ _ f1 f2
    exact ⟨_, _, h, rfl, rfl, by simp [two, vy, f2], g2, g3, g1⟩
  · left
    refine ⟨by simp [okO, h], ?_⟩
    rcases Bool.eq_false_or_eq_true (okA l N D) with h' | h'
    · rw [hfit h'] at h; cases h
    · exact h'
theorem boxG_put2 {w W : World} {cs : List (Nat × Nat × Int)} {g : Nat} (h : BoxG w cs W) (hg : w.heap.size ≤ g) (hne : ∀ c ∈ cs, c.1 ≠ g) (u v : Value) : BoxG w cs ((W.setCell ⟨g, 0, none⟩ u).setCell ⟨g, 1, none⟩ v) := by
  refine ⟨?_, (h.2.setCell hg _).setCell hg _⟩
  have h1 := h.1
  clear h
  induction cs with
  | nil => trivial
  | cons c r ih =>
    have hc := hne c (by simp)
    refine ⟨?_, ih (fun c' hc' => hne c' (by simp [hc'])) h1.2⟩
    rw [cell_off hc, cell_off hc]; exact h1.1
end Go.Proofs.Ytfngdemjlglliaa
