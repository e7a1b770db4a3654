/-
  Words for the walks of the laws on lags and depths. No function of the program in sight.
-/
import Derived.Test.YtfngdemjlglliaaLagMath
namespace Go.Proofs.Ytfngdemjlglliaa
open Go.RowKit

theorem l_none {a b : List (Int × Int)} {x : Int} (h : okL a b x = false) : okL a b x = false ∧ nL a b x = 0 ∧ dL a b x = 0 := by
  rcases Bool.eq_false_or_eq_true (okC a x) with ha | ha
  · rcases Bool.eq_false_or_eq_true (okC b x) with hb | hb
    · obtain ⟨e1, e2, e3⟩ := l_on ha hb rfl rfl rfl rfl
      rw [e1] at h
      rw [e1, e2, e3]
      exact ⟨h, nF_no h⟩
    · exact l_no2 hb
  · exact l_no1 ha
theorem p_none {a b : List (Int × Int)} {x : Int} (h : okP a b x = false) : okP a b x = false ∧ nP a b x = 0 ∧ dP a b x = 0 := by
  rcases Bool.eq_false_or_eq_true (vC a) with ha | ha
  · obtain ⟨e1, e2, e3⟩ := p_on (b := b) (x := x) ha
    rw [e1] at h
    rw [e1, e2, e3]
    rcases Bool.eq_false_or_eq_true (okC b x) with hb | hb
    · rcases Bool.eq_false_or_eq_true (vC (turn a)) with ht | ht
      · obtain ⟨f1, f2, f3⟩ := t_on hb ht rfl rfl
        rw [f1] at h
        rw [f1, f2, f3]
        exact ⟨h, nA_no h⟩
      · exact t_no2 ht
    · exact t_no1 hb
  · exact p_no ha
end Go.Proofs.Ytfngdemjlglliaa
