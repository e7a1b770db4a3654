/-
  Contract of FracOf of the reference.
-/
import Derived.Test.YtfngdemjlglliaaFracOfWords
import Derived.RegionTactic
import Derived.ChangeAlike
namespace Go.Proofs.Ytfngdemjlglliaa
open Go.RowKit

set_option maxHeartbeats 2000000 in
theorem c_specFracOf (a b : Int) (w : World) :
    Calls Try.prog 54 #[.int .i64 a, .int .i64 b] w (OfPost a b w) := by
  rcases Bool.eq_false_or_eq_true (inB a (-4000000000000000000) 4000000000000000000) with h1 | h1
  · rcases Bool.eq_false_or_eq_true (inB b (-4000000000000000000) 4000000000000000000) with h2 | h2
    · obtain ⟨a0, a1⟩ := inB_true h1
      obtain ⟨b0, b1⟩ := inB_true h2
      by_cases hb : b = 0
      · subst hb
        have HK := Lib.hid (okF_no (a := a) (b := 0) (.inl rfl)).1
        go_enter Try.func54, Try.ntmps54
        go_wp2_with fail
        refine (c_l6In _ _ _ _).mono ?_
        rintro e w' ⟨rfl, rfl⟩
        go_wp2_with fail
        refine (c_l6In _ _ _ _).mono ?_
        rintro e w' ⟨rfl, rfl⟩
        go_wp2
        refine bodyPost_ret (v := .tuple #[.agg #[.int .i64 0, .int .i64 0], .bool false]) (by simp [results, Try.results54, go_sem]) rfl (of_no HK.out ?_)
        go_grown
      · have hb' : (b == 0) = false := by simpa using hb
        have HK := Lib.hid (okF_in hb a0 a1 b0 b1)
        have hg := gcd_bd (M := 4000000000000000000) a0 a1 b0 b1
        have hgp := gcd_pos' (a := a) hb
        obtain ⟨f0, f1, f2, f3⟩ := fN_bd hb a0 a1 b0 b1
        have z1 : ((Int.gcd a b : Int) == 0) = false := by simp; omega
        have z2 : (-(Int.gcd a b : Int) == 0) = false := by simp; omega
        by_cases hneg : b < 0
        · obtain ⟨_, _, _, _, q1, q2, q3, q4⟩ := fdiv_neg (a := a) hneg
          have hga : Int.gcd (max (-a) a) (-b) = Int.gcd a b := by rw [Int.gcd_neg]; have := gcd_abs (-a) b; rw [Int.neg_neg, Int.neg_gcd] at this; exact this
          rcases Bool.eq_false_or_eq_true (vF (fN a b) (fD a b)) with hv | hv
          · go_enter Try.func54, Try.ntmps54
            go_wp2_with fail
            refine (c_l6In _ _ _ _).mono ?_
            rintro e w' ⟨rfl, rfl⟩
            go_wp2_with fail
            refine (c_l6In _ _ _ _).mono ?_
            rintro e w' ⟨rfl, rfl⟩
            go_wp2_with fail
            (with_reducible refine (c_l2Abs (-a) _ (by omega) (by omega)).mono ?_)
            rintro e w' ⟨rfl, rfl⟩
            go_wp2_with fail
            (with_reducible refine (c_l2Gcd (max (-a) a) (-b) _ (by omega) (by omega) (by omega) (by omega)).mono ?_)
            rintro e w' ⟨rfl, rfl⟩
            go_wp2_with fail
            go_region
            go_wp2_with fail
            refine (c_specFracValid _ _ _).mono ?_
            rintro e w2 ⟨rfl, hb2⟩
            have K2 := Lib.hid (((blk_new1 w _ _ _).drew).below hb2 (by simp))
            have J2 := Lib.hid ((((blk_new w _ _).alloc _).drew.below hb2 (by simp; omega)))
            have hB2 : Below w.heap.size w w2 := (((((Below.refl _ _).alloc (Nat.le_refl _) _).alloc (by simp) _).drew).trans (hb2.mono (by simp; omega)))
            have hsz2 := hB2.size
            clear hb2
            obtain ⟨x0, x1, _, _⟩ := K2.out.two
            obtain ⟨r0, r1, fr0, fr1⟩ := J2.out.two
            go_wp2
            refine bodyPost_ret (v := .tuple #[.agg #[.int .i64 (fN a b), .int .i64 (fD a b)], .bool true]) (by simp [results, Try.results54, go_sem, r0, r1]) rfl (of_yes (HK.out.trans hv) ?_)
            go_grown
          · go_enter Try.func54, Try.ntmps54
            go_wp2_with fail
            refine (c_l6In _ _ _ _).mono ?_
            rintro e w' ⟨rfl, rfl⟩
            go_wp2_with fail
            refine (c_l6In _ _ _ _).mono ?_
            rintro e w' ⟨rfl, rfl⟩
            go_wp2_with fail
            (with_reducible refine (c_l2Abs (-a) _ (by omega) (by omega)).mono ?_)
            rintro e w' ⟨rfl, rfl⟩
            go_wp2_with fail
            (with_reducible refine (c_l2Gcd (max (-a) a) (-b) _ (by omega) (by omega) (by omega) (by omega)).mono ?_)
            rintro e w' ⟨rfl, rfl⟩
            go_wp2_with fail
            go_region
            go_wp2_with fail
            refine (c_specFracValid _ _ _).mono ?_
            rintro e w2 ⟨rfl, hb2⟩
            have K2 := Lib.hid (((blk_new1 w _ _ _).drew).below hb2 (by simp))
            have J2 := Lib.hid ((((blk_new w _ _).alloc _).drew.below hb2 (by simp; omega)))
            have hB2 : Below w.heap.size w w2 := (((((Below.refl _ _).alloc (Nat.le_refl _) _).alloc (by simp) _).drew).trans (hb2.mono (by simp; omega)))
            have hsz2 := hB2.size
            clear hb2
            obtain ⟨r0, r1, fr0, fr1⟩ := J2.out.two
            go_wp2
            refine bodyPost_ret (v := .tuple #[.agg #[.int .i64 0, .int .i64 0], .bool false]) (by simp [results, Try.results54, go_sem, r0, r1]) rfl (of_no (HK.out.trans hv) ?_)
            go_grown
        · obtain ⟨q1, q2, q3, q4⟩ := fdiv_pos (a := a) (show 0 < b by omega)
          have hga : Int.gcd (max a (-a)) b = Int.gcd a b := gcd_abs a b
          rcases Bool.eq_false_or_eq_true (vF (fN a b) (fD a b)) with hv | hv
          · go_enter Try.func54, Try.ntmps54
            go_wp2_with fail
            refine (c_l6In _ _ _ _).mono ?_
            rintro e w' ⟨rfl, rfl⟩
            go_wp2_with fail
            refine (c_l6In _ _ _ _).mono ?_
            rintro e w' ⟨rfl, rfl⟩
            go_wp2_with fail
            (with_reducible refine (c_l2Abs a _ (by omega) (by omega)).mono ?_)
            rintro e w' ⟨rfl, rfl⟩
            go_wp2_with fail
            (with_reducible refine (c_l2Gcd (max a (-a)) b _ (by omega) (by omega) (by omega) (by omega)).mono ?_)
            rintro e w' ⟨rfl, rfl⟩
            go_wp2_with fail
            go_region
            go_wp2_with fail
            refine (c_specFracValid _ _ _).mono ?_
            rintro e w2 ⟨rfl, hb2⟩
            have K2 := Lib.hid (((blk_new1 w _ _ _).drew).below hb2 (by simp))
            have J2 := Lib.hid ((((blk_new w _ _).alloc _).drew.below hb2 (by simp; omega)))
            have hB2 : Below w.heap.size w w2 := (((((Below.refl _ _).alloc (Nat.le_refl _) _).alloc (by simp) _).drew).trans (hb2.mono (by simp; omega)))
            have hsz2 := hB2.size
            clear hb2
            obtain ⟨x0, x1, _, _⟩ := K2.out.two
            obtain ⟨r0, r1, fr0, fr1⟩ := J2.out.two
            go_wp2
            refine bodyPost_ret (v := .tuple #[.agg #[.int .i64 (fN a b), .int .i64 (fD a b)], .bool true]) (by simp [results, Try.results54, go_sem, r0, r1]) rfl (of_yes (HK.out.trans hv) ?_)
            go_grown
          · go_enter Try.func54, Try.ntmps54
            go_wp2_with fail
            refine (c_l6In _ _ _ _).mono ?_
            rintro e w' ⟨rfl, rfl⟩
            go_wp2_with fail
            refine (c_l6In _ _ _ _).mono ?_
            rintro e w' ⟨rfl, rfl⟩
            go_wp2_with fail
            (with_reducible refine (c_l2Abs a _ (by omega) (by omega)).mono ?_)
            rintro e w' ⟨rfl, rfl⟩
            go_wp2_with fail
            (with_reducible refine (c_l2Gcd (max a (-a)) b _ (by omega) (by omega) (by omega) (by omega)).mono ?_)
            rintro e w' ⟨rfl, rfl⟩
            go_wp2_with fail
            go_region
            go_wp2_with fail
            refine (c_specFracValid _ _ _).mono ?_
            rintro e w2 ⟨rfl, hb2⟩
            have K2 := Lib.hid (((blk_new1 w _ _ _).drew).below hb2 (by simp))
            have J2 := Lib.hid ((((blk_new w _ _).alloc _).drew.below hb2 (by simp; omega)))
            have hB2 : Below w.heap.size w w2 := (((((Below.refl _ _).alloc (Nat.le_refl _) _).alloc (by simp) _).drew).trans (hb2.mono (by simp; omega)))
            have hsz2 := hB2.size
            clear hb2
            obtain ⟨r0, r1, fr0, fr1⟩ := J2.out.two
            go_wp2
            refine bodyPost_ret (v := .tuple #[.agg #[.int .i64 0, .int .i64 0], .bool false]) (by simp [results, Try.results54, go_sem, r0, r1]) rfl (of_no (HK.out.trans hv) ?_)
            go_grown
    · have HK := Lib.hid (okF_no (a := a) (b := b) (by have := inB_false h2; omega)).1
      go_enter Try.func54, Try.ntmps54
      go_wp2_with fail
      refine (c_l6In _ _ _ _).mono ?_
      rintro e w' ⟨rfl, rfl⟩
      go_wp2_with fail
      refine (c_l6In _ _ _ _).mono ?_
      rintro e w' ⟨rfl, rfl⟩
      go_wp2
      refine bodyPost_ret (v := .tuple #[.agg #[.int .i64 0, .int .i64 0], .bool false]) (by simp [results, Try.results54, go_sem]) rfl (of_no HK.out ?_)
      go_grown
  · have HK := Lib.hid (okF_no (a := a) (b := b) (by have := inB_false h1; omega)).1
    go_enter Try.func54, Try.ntmps54
    go_wp2_with fail
    refine (c_l6In _ _ _ _).mono ?_
    rintro e w' ⟨rfl, rfl⟩
    go_wp2
    refine bodyPost_ret (v := .tuple #[.agg #[.int .i64 0, .int .i64 0], .bool false]) (by simp [results, Try.results54, go_sem]) rfl (of_no HK.out ?_)
    go_grown
end Go.Proofs.Ytfngdemjlglliaa
