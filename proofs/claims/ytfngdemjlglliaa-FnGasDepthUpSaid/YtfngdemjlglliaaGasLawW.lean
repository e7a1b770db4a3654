/-
  Words for the walks of the laws on even lags. No function of the program in sight.
-/
import Derived.Test.YtfngdemjlglliaaGasMath
import Derived.Test.YtfngdemjlglliaaGasEven
namespace Go.Proofs.Ytfngdemjlglliaa
open Go.RowKit

theorem evG_at {n i : Nat} {x : Int} (h : i < n) : evG n x i = x := by
  unfold evG
  rw [ix_eq (by simpa using h)]
  simp
theorem evG_all {l : List (Int × Int)} {n : Nat} (hl : l.length = n) (x : Int) : ∀ i, i < l.length → evG n x i = x := fun i hi => evG_at (by omega)
theorem ev_zero {l : List (Int × Int)} {n : Nat} {d : Int} (hl : l.length = n) (h : okG l n (evG n d) = true) : okG l n (evG n 0) = true ∧ gV l n (evG n 0) = l := by
  subst hl
  exact even_zero (okG_yes h).1 (evG_all rfl 0)
theorem ev_neg {l : List (Int × Int)} {n : Nat} (hl : l.length = n) (hn : 1 ≤ n) : okG l n (evG n (-1)) = false := by
  subst hl
  refine okG_lag (lag_bad (k := 0) hn ?_)
  rw [evG_at hn]
  exact inB_not (.inl (by omega))
theorem ev_less {l : List (Int × Int)} {n : Nat} {d : Int} (hl : l.length = n) (h : okG l n (evG n d) = true) (hd : 1 ≤ d) : okG l n (evG n (d - 1)) = true ∧ (gV l n (evG n d)).length ≤ (gV l n (evG n (d - 1))).length := by
  subst hl
  obtain ⟨s, h1, h2, h3, h4, h5, h6, _, _⟩ := even_yes (evG_all rfl d) h
  have ho := even_ok h6 (evG_all rfl (d - 1)) (by omega) (by omega) h1 (by omega)
  obtain ⟨t, k1, k2, _, _, _, _, _, k8⟩ := even_yes (evG_all rfl (d - 1)) ho
  refine ⟨ho, ?_⟩
  rw [h2, k2]
  have : t ≤ s := by
    rcases Nat.lt_or_ge s t with e | e
    · have := k8 s e; omega
    · exact e
  simp
  omega
end Go.Proofs.Ytfngdemjlglliaa
