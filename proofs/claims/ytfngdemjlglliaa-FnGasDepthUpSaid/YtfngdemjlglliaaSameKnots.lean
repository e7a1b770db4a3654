/-
  Contract of sameKnots: whether two lists of knots are one.
-/
import Derived.Test.YtfngdemjlglliaaExactKnot
import Derived.Test.YtfngdemjlglliaaCurveImpl
import Derived.Deep.QuietTactic
import Derived.BigQuiet
namespace Go.Proofs.Ytfngdemjlglliaa
open Go.RowKit

theorem below_drewN2 {B n : Nat} {a w : World} (h : Below B a w) : Below B a (w.drewN n) := ⟨h.os, h.tape, h.output, h.size, h.block⟩

set_option maxHeartbeats 1000000 in
theorem c_sameKnots (A A' : Option Addr) (n n' c c' : Nat) (l l' : List (Int × Int)) (w : World) (hn : n ≤ 2000000) (hn' : n' ≤ 2000000) (h : RdP w A n l) (h' : RdP w A' n' l') :
    Calls Try.prog 26 #[.slice A n c, .slice A' n' c'] w fun e w' => e = .returned (.bool (eqL l l')) ∧ Below w.heap.size w w' := by
  have HL := Lib.hid h.len
  have HA := Lib.hid h.at_
  have HL' := Lib.hid h'.len
  have HA' := Lib.hid h'.at_
  clear h h'
  by_cases hne : n = n'
  · subst hne
    go_enter Try.func26, Try.ntmps26
    go_wp2
    go_loopw [5] (fun i wr => ∃ k : Nat, k ≤ n ∧ i = .int .i64 k ∧ Hid (∀ i, i < k → px l i = px l' i ∧ py l i = py l' i) ∧ Below w.heap.size w wr) (fun i _ => n - (intOf i).toNat)
    case atStart => exact ⟨0, Nat.zero_le _, rfl, Lib.hid (fun i hi => absurd hi (by omega)), Below.refl _ _⟩
    case round =>
      obtain ⟨k, hk, rfl, HK, hB⟩ := hrel
      by_cases hlt : k < n
      · obtain ⟨b, off, rfl, hb, hc⟩ := HA.out (by omega)
        obtain ⟨hc0, hc1⟩ := hc k hlt
        rw [← hB.cell (p := ⟨b, off + k * 2, none⟩) hb] at hc0
        rw [← hB.cell (p := ⟨b, off + k * 2 + 1, none⟩) hb] at hc1
        obtain ⟨b', off', rfl, hb', hc'⟩ := HA'.out (by omega)
        obtain ⟨hc0', hc1'⟩ := hc' k hlt
        rw [← hB.cell (p := ⟨b', off' + k * 2, none⟩) hb'] at hc0'
        rw [← hB.cell (p := ⟨b', off' + k * 2 + 1, none⟩) hb'] at hc1'
        clear hc hc'
        have hk0 : (0 : Int) ≤ (k : Int) := by omega
        have hk1 : (k : Int) < (n : Int) := by omega
        by_cases hq : px l k = px l' k ∧ py l k = py l' k
        · obtain ⟨hq0, hq1⟩ := hq
          rw [← hq0] at hc0'
          rw [← hq1] at hc1'
          have HQ := Lib.hid (show eqP (px l k) (py l k) (px l' k) (py l' k) = true by simp [eqP, hq0, hq1])
          clear hq0 hq1
          go_wp2_with fail
          go_quiet (fail)
          go_wp2
          go_roundw
          case rel => exact ⟨k + 1, by omega, by go_num, Lib.hid (eqL_step HK.out HQ.out), below_drewC hB⟩
          case measure => simp [intOf]; omega
        · have HQ := Lib.hid (eqL_at hq)
          by_cases hq0 : px l k = px l' k
          · have hq1 : ¬ py l k = py l' k := fun e => hq ⟨hq0, e⟩
            rw [← hq0] at hc0'
            have g1 : (py l k == py l' k) = false := by simpa using hq1
            have g2 : (py l k != py l' k) = true := by simpa using hq1
            clear hq hq0 hq1
            go_wp2_with fail
            go_quiet (fail)
            go_wp2
            go_ret
            exact ⟨ret_bool HQ.out.symm, below_drewC hB⟩
          · have g1 : (px l k == px l' k) = false := by simpa using hq0
            have g2 : (px l k != px l' k) = true := by simpa using hq0
            clear hq hq0
            go_wp2_with fail
            go_quiet (fail)
            go_wp2
            go_ret
            exact ⟨ret_bool HQ.out.symm, below_drewC hB⟩
      · obtain rfl : k = n := by omega
        go_wp2
        go_ret
        exact ⟨ret_bool (eqL_all HL.out HL'.out HK.out).symm, hB⟩
  · have hne' : ((n : Int) == (n' : Int)) = false := by simp; omega
    have hne2 : ((n : Int) != (n' : Int)) = true := by simp; omega
    have HQ := Lib.hid (show eqL l l' = false from eqL_len (by rw [HL.out, HL'.out]; exact hne))
    go_enter Try.func26, Try.ntmps26
    go_wp2
    go_ret
    exact ⟨ret_bool HQ.out.symm, Below.refl _ _⟩
end Go.Proofs.Ytfngdemjlglliaa
