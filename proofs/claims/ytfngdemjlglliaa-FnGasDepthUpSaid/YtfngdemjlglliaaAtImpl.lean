/-
  Contract of curveAt of the program.
-/
import Derived.Test.YtfngdemjlglliaaAtWords
import Derived.Test.YtfngdemjlglliaaCurveImpl
namespace Go.Proofs.Ytfngdemjlglliaa
open Go.RowKit

set_option maxHeartbeats 4000000 in
theorem c_curveAt (A : Option Addr) (n c : Nat) (l : List (Int × Int)) (N D : Int) (w : World) (hn : n ≤ 2000000) (h : RdP w A n l) (hv : vC l = true) (h1 : 1 ≤ D) (h2 : D ≤ 30000) :
    Calls Try.prog 35 #[.slice A n c, .agg #[.int .i64 N, .int .i64 D]] w (AtPost l N D w) := by
  have HR := Lib.hid h
  have HL := Lib.hid h.len
  have HV := Lib.hid hv
  obtain ⟨hb0, hmono, h2n, _⟩ := vC_yes hv
  have HB := Lib.hid hb0
  have HM := Lib.hid hmono
  have hnn : 2 ≤ n := by have := HL.out; omega
  obtain ⟨b, off, rfl, hb, hc⟩ := h.at_ (by omega)
  have HC := Lib.hid hc
  have hc0 := (hc 0 (by omega)).1
  rw [Nat.zero_mul, Nat.add_zero] at hc0
  obtain ⟨x0, hx0⟩ : ∃ x, px l 0 = x := ⟨_, rfl⟩
  have HX0 := Lib.hid hx0
  rw [hx0] at hc0
  obtain ⟨z0, z1, _, _⟩ := hb0 0 (by omega)
  rw [hx0] at z0 z1
  obtain ⟨m0, m1⟩ := mul_bd z0 z1 (show 0 ≤ D by omega) h2
  have hn0 : (0 : Int) < (n : Int) := by omega
  clear h hv hb0 hmono hc hx0 h2n
  by_cases hlow : N < x0 * D
  · have HK := Lib.hid (at_out (inC_low (l := l) (N := N) (D := D) (by rw [HX0.out]; exact hlow))).1
    go_enter Try.func35, Try.ntmps35
    go_wp2_with fail
    go_quiet (fail)
    go_wp2_with (
      with_reducible refine bodyPost_ret (v := .tuple #[.agg #[.int .i64 0, .int .i64 0], .bool false]) ?_ ?_ ?_
      · simp [results, Try.results35, go_sem, *]
      · rfl
      · refine at_no HK.out ?_
        repeat (first | with_reducible refine below_drewC ?_ | with_reducible refine Below.setCell ?_ ?_ _)
        all_goals go_grown)
  · have hlow' : decide (N < x0 * D) = false := by simpa using hlow
    go_enter Try.func35, Try.ntmps35
    go_wp2_with fail
    go_quiet (fail)
    go_wp2
    go_loopw [6] (fun i wr => AtRel n l N D w i wr) (fun i _ => n - (intOf i).toNat)
    case atStart => exact ⟨1, by omega, by omega, rfl, fun j a b => by omega, ((blk_new w _ _).alloc _), blk_new1 w _ _ _, below_drewC (((Below.refl _ _).alloc (Nat.le_refl _) _).alloc (by simp) _)⟩
    case round =>
      obtain ⟨k, hk1, hk, rfl, hp, hX, hY, hB⟩ := hrel
      have HP := Lib.hid hp
      have X3 := Lib.hid hX
      have Y3 := Lib.hid hY
      have hsz := hB.size
      have hbl : b < wr.heap.size := by omega
      obtain ⟨cX, dX, fX, gX⟩ := hX.two
      obtain ⟨cY, dY, fY, gY⟩ := hY.two
      have yX := hX.lt
      have yY := hY.lt
      clear hp hX hY
      by_cases hlt : k < n
      · obtain ⟨j, rfl⟩ : ∃ j, k = j + 1 := ⟨k - 1, by omega⟩
        have hj : ((j + 1 : Nat) : Int) - 1 = (j : Int) := by omega
        have hj0 : (0 : Int) ≤ (j : Int) := by omega
        have hj1 : (j : Int) < (n : Int) := by omega
        have hj2 : (0 : Int) ≤ ((j + 1 : Nat) : Int) := by omega
        have hj3 : ((j + 1 : Nat) : Int) < (n : Int) := by omega
        obtain ⟨p0, p1⟩ := HC.out j (by omega)
        obtain ⟨q0, q1⟩ := HC.out (j + 1) hlt
        rw [← hB.cell (p := ⟨b, off + j * 2, none⟩) hb] at p0
        rw [← hB.cell (p := ⟨b, off + j * 2 + 1, none⟩) hb] at p1
        rw [← hB.cell (p := ⟨b, off + (j + 1) * 2, none⟩) hb] at q0
        rw [← hB.cell (p := ⟨b, off + (j + 1) * 2 + 1, none⟩) hb] at q1
        obtain ⟨a0, a1, c0, c1⟩ := HB.out j (by have := HL.out; omega)
        obtain ⟨b0, b1, d0, d1⟩ := HB.out (j + 1) (by have := HL.out; omega)
        obtain ⟨u0, u1⟩ := HM.out (j + 1) (by omega) (by have := HL.out; omega)
        rw [Nat.add_sub_cancel] at u0 u1
        have HLOW := Lib.hid (show px l j * D < N ∨ px l j * D ≤ N by
          right
          by_cases e : j = 0
          · rw [e, HX0.out]; omega
          · exact Int.le_of_lt (HP.out j (by omega) (by omega)))
        obtain ⟨xa, hxa⟩ : ∃ x, px l j = x := ⟨_, rfl⟩
        obtain ⟨ya, hya⟩ : ∃ x, py l j = x := ⟨_, rfl⟩
        obtain ⟨xb, hxb⟩ : ∃ x, px l (j + 1) = x := ⟨_, rfl⟩
        obtain ⟨yb, hyb⟩ : ∃ x, py l (j + 1) = x := ⟨_, rfl⟩
        have HXA := Lib.hid hxa
        have HYA := Lib.hid hya
        have HXB := Lib.hid hxb
        have HYB := Lib.hid hyb
        rw [hxa] at p0 a0 a1 u0
        rw [hya] at p1 c0 c1 u1
        rw [hxb] at q0 b0 b1 u0
        rw [hyb] at q1 d0 d1 u1
        have hlw : xa * D ≤ N := by have := HLOW.out; rw [hxa] at this; omega
        obtain ⟨m2, m3⟩ := mul_bd b0 b1 (show 0 ≤ D by omega) h2
        clear hxa hya hxb hyb
        have HALL := Lib.hid (at_nums a0 u0 b1 c0 u1 d1 h1 h2 hlw)
        have HIN := Lib.hid (show j + 1 < l.length by have := HL.out; omega)
        go_wp2_with fail
        go_region
        all_goals
          by_cases ht : xb * D < N
          · have HN := Lib.hid (past_step HP.out (show px l (j + 1) * D < N by rw [HXB.out]; exact ht))
            go_wp2
            go_roundw
            case rel => exact ⟨j + 1 + 1, by omega, by omega, by go_num, HN.out, (by (repeat (first | with_reducible refine blk_drewN ?_ | with_reducible refine Blk.drew ?_ | with_reducible refine Blk.alloc ?_ _)); exact X3.out), (by (repeat (first | with_reducible refine blk_drewN ?_ | with_reducible refine Blk.drew ?_ | with_reducible refine Blk.alloc ?_ _)); exact Y3.out), by go_grown⟩
            case measure => simp [intOf]; omega
          · have ht' : decide (xb * D < N) = false := by simpa using ht
            have HS := Lib.hid (show IsSeg l N D (j + 1) from ⟨by omega, HIN.out, by rw [HX0.out]; omega, HP.out, by rw [HXB.out]; omega⟩)
            obtain ⟨e1, e2, e3⟩ := at_seg HS.out HV.out (by omega)
            rw [aN, aD, Nat.add_sub_cancel, HXA.out, HYA.out, HXB.out, HYB.out] at e1 e2 e3
            have E1 := Lib.hid e1
            have E2 := Lib.hid e2
            have E3 := Lib.hid e3
            obtain ⟨⟨t0, t1⟩, ⟨t2, t3⟩, ⟨t4, t5⟩, ⟨t6, t7⟩, ⟨t8, t9⟩, t10⟩ := HALL.out (by omega)
            clear e1 e2 e3
            go_wp2_with fail
            go_quiet (fail)
            go_wp2_with fail
            refine (c_implFracOf _ _ _).mono ?_
            rintro e w5 ⟨rfl, hb5⟩
            have Y5 := Lib.hid (show Blk w5 (w.heap.size + 1) 27 #[.int .i64 0, .int .i64 0] from blk_b0 (by (repeat (first | with_reducible refine blk_drewN ?_ | with_reducible refine Blk.drew ?_ | with_reducible refine Blk.alloc ?_ _)); exact Y3.out) hb5)
            have hB5 : Below w.heap.size w w5 := bel0 (by (try with_reducible refine below_drewC ?_); go_grown) hb5
            have hsz5 := hB5.size
            have y5 := Y5.out.lt
            obtain ⟨cY5, dY5, fY5, gY5⟩ := Y5.out.two
            clear hb5
            go_wp2_with (
              with_reducible refine bodyPost_ret (v := .tuple #[.agg #[.int .i64 (nF (ya * (xb - xa) * D + (N - xa * D) * (yb - ya)) ((xb - xa) * D)), .int .i64 (dF (ya * (xb - xa) * D + (N - xa * D) * (yb - ya)) ((xb - xa) * D))], .bool (okF (ya * (xb - xa) * D + (N - xa * D) * (yb - ya)) ((xb - xa) * D))]) ?_ ?_ ?_
              · simp [results, Try.results35, go_sem, *]
              · rfl
              · refine at_yes E1.out E2.out E3.out ?_
                go_grown)
      · obtain rfl : k = n := by omega
        have HK := Lib.hid (at_out (inC_high (l := l) (N := N) (D := D) (by rw [HL.out]; exact HP.out (k - 1) (by omega) (by omega)))).1
        go_wp2_with (
          with_reducible refine bodyPost_ret (v := .tuple #[.agg #[.int .i64 0, .int .i64 0], .bool false]) ?_ ?_ ?_
          · simp [results, Try.results35, go_sem, *]
          · rfl
          · refine at_no HK.out ?_
            go_grown)
end Go.Proofs.Ytfngdemjlglliaa
