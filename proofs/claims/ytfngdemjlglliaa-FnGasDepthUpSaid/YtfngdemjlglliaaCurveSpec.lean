/-
  Contract of CurveValid of the reference.
-/
import Derived.Test.YtfngdemjlglliaaCurveImpl
import Derived.Test.YtfngdemjlglliaaIn
import Derived.Handy
import Derived.IntWalk
import Derived.Deep.QuietTactic
import Derived.BigQuiet
namespace Go.Proofs.Ytfngdemjlglliaa
open Go.RowKit

set_option maxHeartbeats 4000000 in
theorem c_specCurveValid (A : Option Addr) (n c : Nat) (l : List (Int × Int)) (w : World) (hn : n ≤ 2000000) (h : RdP w A n l) :
    Calls Try.prog 49 #[.slice A n c] w fun e w' => e = .returned (.bool (vC l)) ∧ Below w.heap.size w w' := by
  have HL := Lib.hid h.len
  have HA := Lib.hid h.at_
  clear h
  go_enter Try.func49, Try.ntmps49
  go_wp2
  go_loopw [3] (fun i wr => ∃ k : Nat, k ≤ n ∧ i = .int .i64 k ∧ Hid ((List.range k).all (vK l) = true) ∧ Below w.heap.size w wr) (fun i _ => n - (intOf i).toNat)
  case atStart => exact ⟨0, Nat.zero_le _, rfl, rfl, Below.refl _ _⟩
  case round =>
    obtain ⟨k, hk, rfl, HK, hB⟩ := hrel
    have hsz := hB.size
    by_cases hlt : k < n
    · obtain ⟨b, off, rfl, hb, hc⟩ := HA.out (by omega)
      have hkl : k < l.length := by have := HL.out; omega
      obtain ⟨hc0, hc1⟩ := hc k hlt
      rw [← hB.cell (p := ⟨b, off + k * 2, none⟩) hb] at hc0
      rw [← hB.cell (p := ⟨b, off + k * 2 + 1, none⟩) hb] at hc1
      have hk0 : (0 : Int) ≤ (k : Int) := by omega
      have hk1 : (k : Int) < (n : Int) := by omega
      rcases Bool.eq_false_or_eq_true (inB (px l k) 0 30000) with hx | hx
      · have HX := Lib.hid hx
        rcases Bool.eq_false_or_eq_true (inB (py l k) 0 30000) with hy | hy
        · have HY := Lib.hid hy
          clear hx hy
          by_cases h0 : k = 0
          · subst h0
            have HOK := Lib.hid (vK_0 HX.out HY.out)
            rw [Nat.zero_mul, Nat.add_zero] at hc0
            rw [Nat.zero_mul, Nat.add_zero] at hc1
            clear hc
            go_wp2_with fail
            go_quiet (first | (go_at_call 59; with_reducible exact qc_l11Depth HX.out _ _) | (go_at_call 59; with_reducible exact qc_l11Depth HY.out _ _))
            go_wp2
            go_roundw
            case rel => exact ⟨0 + 1, by omega, by go_num, vC_step HK.out HOK.out, below_drewC hB⟩
            case measure => simp [intOf]; omega
          · obtain ⟨j, rfl⟩ : ∃ j, k = j + 1 := ⟨k - 1, by omega⟩
            have hj : ((j + 1 : Nat) : Int) - 1 = (j : Int) := by omega
            have hj0 : (0 : Int) ≤ (j : Int) := by omega
            have hj1 : (j : Int) < (n : Int) := by omega
            have hj2 : (0 : Int) < ((j + 1 : Nat) : Int) := by omega
            obtain ⟨hp0, hp1⟩ := hc j (by omega)
            rw [← hB.cell (p := ⟨b, off + j * 2, none⟩) hb] at hp0
            rw [← hB.cell (p := ⟨b, off + j * 2 + 1, none⟩) hb] at hp1
            clear hc h0
            by_cases h1 : px l j < px l (j + 1)
            · have d1 : decide (px l (j + 1) ≤ px l j) = false := by simp; omega
              by_cases h2 : py l j < py l (j + 1)
              · have d2 : decide (py l (j + 1) ≤ py l j) = false := by simp; omega
                have HOK := Lib.hid (vK_ok (k := j + 1) HX.out HY.out (by simpa using h1) (by simpa using h2))
                clear h1 h2
                go_wp2_with fail
                go_quiet (first | (go_at_call 59; with_reducible exact qc_l11Depth HX.out _ _) | (go_at_call 59; with_reducible exact qc_l11Depth HY.out _ _))
                go_wp2
                go_roundw
                case rel => exact ⟨j + 1 + 1, by omega, by go_num, vC_step HK.out HOK.out, below_drewC hB⟩
                case measure => simp [intOf]; omega
              · have d2 : decide (py l (j + 1) ≤ py l j) = true := by simp; omega
                have HBAD := Lib.hid (vK_dy (l := l) (k := j + 1) (by omega) (by simpa using h2))
                clear h1 h2
                go_wp2_with fail
                go_quiet (first | (go_at_call 59; with_reducible exact qc_l11Depth HX.out _ _) | (go_at_call 59; with_reducible exact qc_l11Depth HY.out _ _))
                go_wp2
                go_ret
                exact ⟨ret_bool (vC_bad hkl HBAD.out).symm, below_drewC hB⟩
            · have d1 : decide (px l (j + 1) ≤ px l j) = true := by simp; omega
              have HBAD := Lib.hid (vK_dx (l := l) (k := j + 1) (by omega) (by simpa using h1))
              clear h1
              go_wp2_with fail
              go_quiet (first | (go_at_call 59; with_reducible exact qc_l11Depth HX.out _ _) | (go_at_call 59; with_reducible exact qc_l11Depth HY.out _ _))
              go_wp2
              go_ret
              exact ⟨ret_bool (vC_bad hkl HBAD.out).symm, below_drewC hB⟩
        · have HY := Lib.hid hy
          have HBAD := Lib.hid (vK_y (l := l) (k := k) hy)
          clear hx hy hc
          go_wp2_with fail
          go_quiet (first | (go_at_call 59; with_reducible exact qc_l11Depth HX.out _ _) | (go_at_call 59; with_reducible exact qc_l11Depth HY.out _ _))
          go_wp2
          go_ret
          exact ⟨ret_bool (vC_bad hkl HBAD.out).symm, below_drewC hB⟩
      · have HX := Lib.hid hx
        have HBAD := Lib.hid (vK_x (l := l) (k := k) hx)
        clear hx hc
        go_wp2_with fail
        go_quiet (first | (go_at_call 59; with_reducible exact qc_l11Depth HX.out _ _) | fail)
        go_wp2
        go_ret
        exact ⟨ret_bool (vC_bad hkl HBAD.out).symm, below_drewC hB⟩
    · obtain rfl : k = n := by omega
      have HE := Lib.hid (vC_end HL.out HK.out)
      go_wp2_with fail
      refine (c_l6In _ _ _ _).mono ?_
      rintro e w' ⟨rfl, rfl⟩
      go_wp2
      go_ret
      exact ⟨ret_bool HE.out.symm, hB⟩
end Go.Proofs.Ytfngdemjlglliaa
