/-
  Contract of FracOf of the program.
-/
import Derived.Test.YtfngdemjlglliaaFracOfWords
import Derived.RegionTactic
import Derived.ChangeAlike
namespace Go.Proofs.Ytfngdemjlglliaa
open Go.RowKit

set_option maxHeartbeats 2000000 in
theorem c_implFracOf (a b : Int) (w : World) :
    Calls Try.prog 37 #[.int .i64 a, .int .i64 b] w (OfPost a b w) := by
  by_cases hout : b = 0 ∨ a < -4000000000000000000 ∨ 4000000000000000000 < a ∨ b < -4000000000000000000 ∨ 4000000000000000000 < b
  · have HK := Lib.hid (okF_no hout).1
    have hout2 : b = 0 ∨ (b ≠ 0 ∧ a < -4000000000000000000) ∨ (b ≠ 0 ∧ -4000000000000000000 ≤ a ∧ 4000000000000000000 < a) ∨ (b ≠ 0 ∧ -4000000000000000000 ≤ a ∧ a ≤ 4000000000000000000 ∧ b < -4000000000000000000) ∨ (b ≠ 0 ∧ -4000000000000000000 ≤ a ∧ a ≤ 4000000000000000000 ∧ -4000000000000000000 ≤ b ∧ 4000000000000000000 < b) := by omega
    clear hout
    rcases hout2 with rfl | ⟨hb, h1⟩ | ⟨hb, h1, h2⟩ | ⟨hb, h1, h2, h3⟩ | ⟨hb, h1, h2, h3, h4⟩
    · go_enter Try.func37, Try.ntmps37
      go_wp2
      refine bodyPost_ret (v := .tuple #[.agg #[.int .i64 0, .int .i64 0], .bool false]) (by simp [results, Try.results37, go_sem]) rfl (of_no HK.out ?_)
      go_grown
    all_goals
      have hb' : (b == 0) = false := by simpa using hb
      clear hb
    · have d1 : decide (a < -4000000000000000000) = true := by simp; omega
      go_enter Try.func37, Try.ntmps37
      go_wp2
      refine bodyPost_ret (v := .tuple #[.agg #[.int .i64 0, .int .i64 0], .bool false]) (by simp [results, Try.results37, go_sem]) rfl (of_no HK.out ?_)
      go_grown
    · have d1 : decide (a < -4000000000000000000) = false := by simp; omega
      have d2 : decide (4000000000000000000 < a) = true := by simp; omega
      go_enter Try.func37, Try.ntmps37
      go_wp2
      refine bodyPost_ret (v := .tuple #[.agg #[.int .i64 0, .int .i64 0], .bool false]) (by simp [results, Try.results37, go_sem]) rfl (of_no HK.out ?_)
      go_grown
    · have d1 : decide (a < -4000000000000000000) = false := by simp; omega
      have d2 : decide (4000000000000000000 < a) = false := by simp; omega
      have d3 : decide (b < -4000000000000000000) = true := by simp; omega
      go_enter Try.func37, Try.ntmps37
      go_wp2
      refine bodyPost_ret (v := .tuple #[.agg #[.int .i64 0, .int .i64 0], .bool false]) (by simp [results, Try.results37, go_sem]) rfl (of_no HK.out ?_)
      go_grown
    · have d1 : decide (a < -4000000000000000000) = false := by simp; omega
      have d2 : decide (4000000000000000000 < a) = false := by simp; omega
      have d3 : decide (b < -4000000000000000000) = false := by simp; omega
      have d4 : decide (4000000000000000000 < b) = true := by simp; omega
      go_enter Try.func37, Try.ntmps37
      go_wp2
      refine bodyPost_ret (v := .tuple #[.agg #[.int .i64 0, .int .i64 0], .bool false]) (by simp [results, Try.results37, go_sem]) rfl (of_no HK.out ?_)
      go_grown
  · have hb : b ≠ 0 := by omega
    have h0 : -4000000000000000000 ≤ a := by omega
    have h1 : a ≤ 4000000000000000000 := by omega
    have h2 : -4000000000000000000 ≤ b := by omega
    have h3 : b ≤ 4000000000000000000 := by omega
    clear hout
    have HK := Lib.hid (okF_in hb h0 h1 h2 h3)
    have hg := gcd_bd (M := 4000000000000000000) h0 h1 h2 h3
    have hgp := gcd_pos' (a := a) hb
    obtain ⟨f0, f1, f2, f3⟩ := fN_bd hb h0 h1 h2 h3
    have z1 : ((Int.gcd a b : Int) == 0) = false := by simp; omega
    have z2 : (-(Int.gcd a b : Int) == 0) = false := by simp; omega
    have hb' : (b == 0) = false := by simpa using hb
    have d1 : decide (a < -4000000000000000000) = false := by simp; omega
    have d2 : decide (4000000000000000000 < a) = false := by simp; omega
    have d3 : decide (b < -4000000000000000000) = false := by simp; omega
    have d4 : decide (4000000000000000000 < b) = false := by simp; omega
    by_cases hneg : b < 0
    · obtain ⟨q1, q2, q3, q4, _⟩ := fdiv_neg (a := a) hneg
      rcases Bool.eq_false_or_eq_true (vF (fN a b) (fD a b)) with hv | hv
      · go_enter Try.func37, Try.ntmps37
        go_wp2_with fail
        refine (c_gcd a b _ (by omega) (by omega) (by omega) (by omega)).mono ?_
        rintro e w1 ⟨rfl, hb1⟩
        go_wp2_with fail
        go_region
        go_wp2_with fail
        refine (c_implFracValid _ _ _).mono ?_
        rintro e w2 ⟨rfl, hb2⟩
        have K2 := Lib.hid (((blk_new w1 _ _).drew).below hb2 (by simp))
        have J2 := Lib.hid ((((blk_new w _ _).below hb1 (by simp)).alloc _).drew.below hb2 (by have := hb1.size; simp at this ⊢; omega))
        have hB1 : Below w.heap.size w w1 := ((Below.refl _ _).alloc (Nat.le_refl _) _).trans (hb1.mono (by simp))
        have hB2 : Below w.heap.size w w2 := hB1.trans (((((Below.refl _ _).alloc (Nat.le_refl _) _).drew).trans (hb2.mono (by simp))).mono hB1.size)
        have hsz2 := hB2.size
        clear hb1 hb2
        obtain ⟨x0, x1, _, _⟩ := K2.out.two
        obtain ⟨r0, r1, fr0, fr1⟩ := J2.out.two
        go_wp2
        refine bodyPost_ret (v := .tuple #[.agg #[.int .i64 (fN a b), .int .i64 (fD a b)], .bool true]) (by simp [results, Try.results37, go_sem, r0, r1]) rfl (of_yes (HK.out.trans hv) ?_)
        go_grown
      · go_enter Try.func37, Try.ntmps37
        go_wp2_with fail
        refine (c_gcd a b _ (by omega) (by omega) (by omega) (by omega)).mono ?_
        rintro e w1 ⟨rfl, hb1⟩
        go_wp2_with fail
        go_region
        go_wp2_with fail
        refine (c_implFracValid _ _ _).mono ?_
        rintro e w2 ⟨rfl, hb2⟩
        have K2 := Lib.hid (((blk_new w1 _ _).drew).below hb2 (by simp))
        have J2 := Lib.hid ((((blk_new w _ _).below hb1 (by simp)).alloc _).drew.below hb2 (by have := hb1.size; simp at this ⊢; omega))
        have hB1 : Below w.heap.size w w1 := ((Below.refl _ _).alloc (Nat.le_refl _) _).trans (hb1.mono (by simp))
        have hB2 : Below w.heap.size w w2 := hB1.trans (((((Below.refl _ _).alloc (Nat.le_refl _) _).drew).trans (hb2.mono (by simp))).mono hB1.size)
        have hsz2 := hB2.size
        clear hb1 hb2
        obtain ⟨r0, r1, fr0, fr1⟩ := J2.out.two
        go_wp2
        refine bodyPost_ret (v := .tuple #[.agg #[.int .i64 0, .int .i64 0], .bool false]) (by simp [results, Try.results37, go_sem, r0, r1]) rfl (of_no (HK.out.trans hv) ?_)
        go_grown
    · obtain ⟨q1, q2, q3, q4⟩ := fdiv_pos (a := a) (show 0 < b by omega)
      rcases Bool.eq_false_or_eq_true (vF (fN a b) (fD a b)) with hv | hv
      · go_enter Try.func37, Try.ntmps37
        go_wp2_with fail
        refine (c_gcd a b _ (by omega) (by omega) (by omega) (by omega)).mono ?_
        rintro e w1 ⟨rfl, hb1⟩
        go_wp2_with fail
        go_region
        go_wp2_with fail
        refine (c_implFracValid _ _ _).mono ?_
        rintro e w2 ⟨rfl, hb2⟩
        have K2 := Lib.hid (((blk_new w1 _ _).drew).below hb2 (by simp))
        have J2 := Lib.hid ((((blk_new w _ _).below hb1 (by simp)).alloc _).drew.below hb2 (by have := hb1.size; simp at this ⊢; omega))
        have hB1 : Below w.heap.size w w1 := ((Below.refl _ _).alloc (Nat.le_refl _) _).trans (hb1.mono (by simp))
        have hB2 : Below w.heap.size w w2 := hB1.trans (((((Below.refl _ _).alloc (Nat.le_refl _) _).drew).trans (hb2.mono (by simp))).mono hB1.size)
        have hsz2 := hB2.size
        clear hb1 hb2
        obtain ⟨x0, x1, _, _⟩ := K2.out.two
        obtain ⟨r0, r1, fr0, fr1⟩ := J2.out.two
        go_wp2
        refine bodyPost_ret (v := .tuple #[.agg #[.int .i64 (fN a b), .int .i64 (fD a b)], .bool true]) (by simp [results, Try.results37, go_sem, r0, r1]) rfl (of_yes (HK.out.trans hv) ?_)
        go_grown
      · go_enter Try.func37, Try.ntmps37
        go_wp2_with fail
        refine (c_gcd a b _ (by omega) (by omega) (by omega) (by omega)).mono ?_
        rintro e w1 ⟨rfl, hb1⟩
        go_wp2_with fail
        go_region
        go_wp2_with fail
        refine (c_implFracValid _ _ _).mono ?_
        rintro e w2 ⟨rfl, hb2⟩
        have K2 := Lib.hid (((blk_new w1 _ _).drew).below hb2 (by simp))
        have J2 := Lib.hid ((((blk_new w _ _).below hb1 (by simp)).alloc _).drew.below hb2 (by have := hb1.size; simp at this ⊢; omega))
        have hB1 : Below w.heap.size w w1 := ((Below.refl _ _).alloc (Nat.le_refl _) _).trans (hb1.mono (by simp))
        have hB2 : Below w.heap.size w w2 := hB1.trans (((((Below.refl _ _).alloc (Nat.le_refl _) _).drew).trans (hb2.mono (by simp))).mono hB1.size)
        have hsz2 := hB2.size
        clear hb1 hb2
        obtain ⟨r0, r1, fr0, fr1⟩ := J2.out.two
        go_wp2
        refine bodyPost_ret (v := .tuple #[.agg #[.int .i64 0, .int .i64 0], .bool false]) (by simp [results, Try.results37, go_sem, r0, r1]) rfl (of_no (HK.out.trans hv) ?_)
        go_grown

end Go.Proofs.Ytfngdemjlglliaa
