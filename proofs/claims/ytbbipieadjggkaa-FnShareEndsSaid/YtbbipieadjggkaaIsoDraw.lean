/-
  Contracts of the draws of waters and ratios: some numbers within bounds.
-/
import Derived.Test.YtbbipieadjggkaaReader
import Derived.Test.YtbbipieadjggkaaOwn
import Derived.Test.YtbbipieadjggkaaFracOfSpec
import Derived.Test.YtbbipieadjggkaaFracOpsWords
namespace Go.Proofs.Ytbbipieadjggkaa
open Go.RowKit

theorem gcell {W w' : World} {g n : Nat} (hg : W.grownBy w' (some g)) (hlt : g < n) : (∀ b o, b < W.heap.size → n ≤ b → w'.cell? ⟨b, o, none⟩ = W.cell? ⟨b, o, none⟩) ∧ (∀ b o, b < W.heap.size → n ≤ b → w'.frozen? ⟨b, o, none⟩ = W.frozen? ⟨b, o, none⟩) :=
  ⟨fun b o h h2 => World.cell?_of_block (w := W) (a := ⟨b, o, none⟩) (hg.block b h (by simp; omega)), fun b o h h2 => World.frozen?_of_block (w := W) (a := ⟨b, o, none⟩) (hg.block b h (by simp; omega))⟩
/-- some pair within bounds; the reader has gone on -/
def PairPost (K B g p : Nat) (lo0 hi0 lo1 hi1 : Int) (w : World) (e : Ending) (w' : World) : Prop :=
  ∃ x y : Int, e = .returned (.agg #[.int .i64 x, .int .i64 y]) ∧ lo0 ≤ x ∧ x ≤ hi0 ∧ lo1 ≤ y ∧ y ≤ hi1 ∧ (∃ q, q ≤ p + K ∧ Rdr w' B g q) ∧ w.grownBy w' (some g)
theorem pair_mk {K B g p q : Nat} {lo0 hi0 lo1 hi1 x y : Int} {w w' : World} (h0 : lo0 ≤ x) (h1 : x ≤ hi0) (h2 : lo1 ≤ y) (h3 : y ≤ hi1) (hq : q ≤ p + K) (hr : Rdr w' B g q) (hg : w.grownBy w' (some g)) : PairPost K B g p lo0 hi0 lo1 hi1 w (.returned (.agg #[.int .i64 x, .int .i64 y])) w' :=
  ⟨x, y, rfl, h0, h1, h2, h3, ⟨q, hq, hr⟩, hg⟩

set_option maxHeartbeats 2000000 in
theorem c_l93Water (B g p : Nat) (w : World) (hp : p ≤ 100) (h : Rdr w B g p) :
    Calls Try.prog 33 #[.pointer (some ⟨g, 0, none⟩)] w (PairPost 4 B g p 0 1001 0 21 w) := by
  have HR0 := Lib.hid h
  have HG0 := Lib.hid (World.grownBy.refl w (some g))
  have hlt := h.lt
  clear h
  go_enter Try.func33, Try.ntmps33
  go_wp2_with fail
  refine (c_pick B g _ _ _ (by omega) (HR0.out.belowAt (show Below w.heap.size w _ from by go_grown) hlt)).mono ?_
  rintro e w1 ⟨x, rfl, x0, x1, hr, hg, hs⟩
  have HR1 := Lib.hid hr
  have HG1 := Lib.hid (only_same (only_belowAt HG0.out (show Below w.heap.size w _ from by go_grown) (Nat.le_refl _)) hg)
  have y1 : w.heap.size < w1.heap.size := by have := hg.size; first | omega | (simp at this; omega)
  have J1 := Lib.hid ((blk_new w _ _).keep hg (by simp; omega))
  clear hr hg hs
  go_wp2_with fail
  refine (c_pick B g _ _ _ (by omega) (HR1.out.belowAt (show Below w.heap.size w1 _ from by go_grown) hlt)).mono ?_
  rintro e w2 ⟨y, rfl, y0, y1, hr, hg, hs⟩
  have HR2 := Lib.hid hr
  have HG2 := Lib.hid (only_same (only_belowAt HG1.out (show Below w.heap.size w1 _ from by go_grown) (Nat.le_refl _)) hg)
  have y2 : w.heap.size < w2.heap.size := by have := hg.size; first | omega | (simp at this; omega)
  have J2 := Lib.hid ((J1.out).keep hg (by simp; omega))
  clear hr hg hs
  go_wp2_with fail
  refine (c_pick B g _ _ _ (by omega) (HR2.out.belowAt (show Below w.heap.size w2 _ from by go_grown) hlt)).mono ?_
  rintro e w3 ⟨z, rfl, z0, z1, hr, hg, hs⟩
  have HR3 := Lib.hid hr
  have HG3 := Lib.hid (only_same (only_belowAt HG2.out (show Below w.heap.size w2 _ from by go_grown) (Nat.le_refl _)) hg)
  have y3 : w.heap.size < w3.heap.size := by have := hg.size; first | omega | (simp at this; omega)
  have J3 := Lib.hid ((J2.out.alloc _).keep hg (by simp; omega))
  have K3 := Lib.hid ((blk_new w2 _ _).keep hg (by simp; omega))
  clear hr hg hs
  by_cases hz0 : z = 0
  · subst hz0
    go_wp2_with fail
    refine (c_pick B g _ _ _ (by omega) (HR3.out.belowAt (show Below w.heap.size w3 _ from by go_grown) hlt)).mono ?_
    rintro e w4 ⟨u, rfl, u0, u1, hr, hg, hs⟩
    have HR4 := Lib.hid hr
    have HG4 := Lib.hid (only_same (only_belowAt HG3.out (show Below w.heap.size w3 _ from by go_grown) (Nat.le_refl _)) hg)
    have y4 : w.heap.size < w4.heap.size := by have := hg.size; first | omega | (simp at this; omega)
    have J4 := Lib.hid ((J3.out.alloc _).keep hg (by simp; omega))
    have K4 := Lib.hid ((K3.out.alloc _).keep hg (by simp; omega))
    obtain ⟨q0, q1⟩ := lit2 hg (by omega)
    clear hr hg hs
    rcases (show u = 0 ∨ u = 1 by omega) with rfl | rfl
    · obtain ⟨r00, r01, fr00, fr01⟩ := J4.out.two
      obtain ⟨r10, r11, fr10, fr11⟩ := K4.out.two
      go_wp2
      refine bodyPost_ret (v := .agg #[.int .i64 (0), .int .i64 (y)]) (by simp [results, Try.results33, go_sem, *]) rfl (pair_mk (by omega) (by omega) (by omega) (by omega) (by omega) (HR4.out.belowAt (show Below w.heap.size w4 _ from by go_grown) hlt) (only_belowAt HG4.out (show Below w.heap.size w4 _ from by go_grown) (Nat.le_refl _)))
    · obtain ⟨r00, r01, fr00, fr01⟩ := J4.out.two
      obtain ⟨r10, r11, fr10, fr11⟩ := K4.out.two
      go_wp2
      refine bodyPost_ret (v := .agg #[.int .i64 (1001), .int .i64 (y)]) (by simp [results, Try.results33, go_sem, *]) rfl (pair_mk (by omega) (by omega) (by omega) (by omega) (by omega) (HR4.out.belowAt (show Below w.heap.size w4 _ from by go_grown) hlt) (only_belowAt HG4.out (show Below w.heap.size w4 _ from by go_grown) (Nat.le_refl _)))
  · have hz0' : (z == 0) = false := by simpa using hz0
    by_cases hz1 : z = 1
    · subst hz1
      obtain ⟨r00, r01, fr00, fr01⟩ := J3.out.two
      obtain ⟨r10, r11, fr10, fr11⟩ := K3.out.two
      go_wp2
      refine bodyPost_ret (v := .agg #[.int .i64 (1 + x), .int .i64 (1 + x + 1)]) (by simp [results, Try.results33, go_sem, *]) rfl (pair_mk (by omega) (by omega) (by omega) (by omega) (by omega) (HR3.out.belowAt (show Below w.heap.size w3 _ from by go_grown) hlt) (only_belowAt HG3.out (show Below w.heap.size w3 _ from by go_grown) (Nat.le_refl _)))
    · have hz1' : (z == 1) = false := by simpa using hz1
      obtain ⟨r00, r01, fr00, fr01⟩ := J3.out.two
      obtain ⟨r10, r11, fr10, fr11⟩ := K3.out.two
      go_wp2
      refine bodyPost_ret (v := .agg #[.int .i64 (1 + x), .int .i64 (y)]) (by simp [results, Try.results33, go_sem, *]) rfl (pair_mk (by omega) (by omega) (by omega) (by omega) (by omega) (HR3.out.belowAt (show Below w.heap.size w3 _ from by go_grown) hlt) (only_belowAt HG3.out (show Below w.heap.size w3 _ from by go_grown) (Nat.le_refl _)))

theorem of_bd (a b : Int) : -1000000000 ≤ nF a b ∧ nF a b ≤ 1000000000 ∧ 0 ≤ dF a b ∧ dF a b ≤ 1000000000 := by
  rcases Bool.eq_false_or_eq_true (okF a b) with h | h
  · obtain ⟨v1, v2, v3, v4, _⟩ := vF_yes (okF_val h).2
    omega
  · simp [nF, dF, h]

set_option maxHeartbeats 2000000 in
theorem c_l91Frac (B g p : Nat) (w : World) (hp : p ≤ 100) (h : Rdr w B g p) :
    Calls Try.prog 47 #[.pointer (some ⟨g, 0, none⟩)] w (PairPost 4 B g p (-1000000000) 1000000000 (-1000000000) 1000000000 w) := by
  have HR0 := Lib.hid h
  have HG0 := Lib.hid (World.grownBy.refl w (some g))
  have hlt := h.lt
  clear h
  go_enter Try.func47, Try.ntmps47
  go_wp2_with fail
  refine (c_pick B g _ _ _ (by omega) (HR0.out.belowAt (show Below w.heap.size w _ from by go_grown) hlt)).mono ?_
  rintro e w1 ⟨x, rfl, x0, x1, hr, hg, hs⟩
  have HR1 := Lib.hid hr
  have HG1 := Lib.hid (only_same (only_belowAt HG0.out (show Below w.heap.size w _ from by go_grown) (Nat.le_refl _)) hg)
  have y1 : w.heap.size < w1.heap.size := by have := hg.size; first | omega | (simp at this; omega)
  have J1 := Lib.hid ((blk_new w _ _).keep hg (by simp; omega))
  clear hr hg hs
  go_wp2_with fail
  refine (c_pick B g _ _ _ (by omega) (HR1.out.belowAt (show Below w.heap.size w1 _ from by go_grown) hlt)).mono ?_
  rintro e w2 ⟨y, rfl, y0, y1, hr, hg, hs⟩
  have HR2 := Lib.hid hr
  have HG2 := Lib.hid (only_same (only_belowAt HG1.out (show Below w.heap.size w1 _ from by go_grown) (Nat.le_refl _)) hg)
  have y2 : w.heap.size < w2.heap.size := by have := hg.size; first | omega | (simp at this; omega)
  have J2 := Lib.hid ((J1.out).keep hg (by simp; omega))
  clear hr hg hs
  obtain ⟨n0, n1, n2, n3⟩ := of_bd (x - 20) (1 + y)
  go_wp2_with fail
  refine (c_specFracOf (x - 20) (1 + y) _).mono ?_
  rintro e w3 ⟨rfl, hb⟩
  have HR3 := Lib.hid (HR2.out.below hb)
  have HG3 := Lib.hid (only_below HG2.out hb)
  have y3 : w.heap.size < w3.heap.size := by have := hb.size; omega
  have J3 := Lib.hid ((J2.out).below hb (J2.out).lt)
  clear hb
  generalize nF (x - 20) (1 + y) = nn at *
  generalize dF (x - 20) (1 + y) = dd at *
  go_wp2_with fail
  refine (c_pick B g _ _ _ (by omega) (HR3.out.belowAt (show Below w.heap.size w3 _ from by go_grown) hlt)).mono ?_
  rintro e w4 ⟨z, rfl, z0, z1, hr, hg, hs⟩
  have HR4 := Lib.hid hr
  have HG4 := Lib.hid (only_same (only_belowAt HG3.out (show Below w.heap.size w3 _ from by go_grown) (Nat.le_refl _)) hg)
  have y4 : w.heap.size < w4.heap.size := by have := hg.size; first | omega | (simp at this; omega)
  have J4 := Lib.hid ((J3.out.alloc _).keep hg (by simp; omega))
  have K4 := Lib.hid ((blk_new w3 _ _).keep hg (by simp; omega))
  clear hr hg hs
  by_cases hz0 : z = 0
  · subst hz0
    go_wp2_with fail
    refine (c_pick B g _ _ _ (by omega) (HR4.out.belowAt (show Below w.heap.size w4 _ from by go_grown) hlt)).mono ?_
    rintro e w5 ⟨u, rfl, u0, u1, hr, hg, hs⟩
    have HR5 := Lib.hid hr
    have HG5 := Lib.hid (only_same (only_belowAt HG4.out (show Below w.heap.size w4 _ from by go_grown) (Nat.le_refl _)) hg)
    have y5 : w.heap.size < w5.heap.size := by have := hg.size; first | omega | (simp at this; omega)
    have J5 := Lib.hid ((J4.out.alloc _).keep hg (by simp; omega))
    have L5 := Lib.hid ((blk_new w4 _ _).keep hg (by simp; omega))
    clear hr hg hs
    rcases (show u = 0 ∨ u = 1 ∨ u = 2 ∨ u = 3 by omega) with rfl | rfl | rfl | rfl
    · have q0 := L5.out.cell 0
      have q1 := L5.out.cell 1
      simp at q0 q1
      obtain ⟨r00, r01, fr00, fr01⟩ := J5.out.two
      go_wp2
      refine bodyPost_ret (v := .agg #[.int .i64 (2), .int .i64 (4)]) (by simp [results, Try.results47, go_sem, *]) rfl (pair_mk (by omega) (by omega) (by omega) (by omega) (by omega) (HR5.out.belowAt (show Below w.heap.size w5 _ from by go_grown) hlt) (only_belowAt HG5.out (show Below w.heap.size w5 _ from by go_grown) (Nat.le_refl _)))
    · have q0 := L5.out.cell 2
      have q1 := L5.out.cell 3
      simp at q0 q1
      obtain ⟨r00, r01, fr00, fr01⟩ := J5.out.two
      go_wp2
      refine bodyPost_ret (v := .agg #[.int .i64 (1), .int .i64 (0)]) (by simp [results, Try.results47, go_sem, *]) rfl (pair_mk (by omega) (by omega) (by omega) (by omega) (by omega) (HR5.out.belowAt (show Below w.heap.size w5 _ from by go_grown) hlt) (only_belowAt HG5.out (show Below w.heap.size w5 _ from by go_grown) (Nat.le_refl _)))
    · have q0 := L5.out.cell 4
      have q1 := L5.out.cell 5
      simp at q0 q1
      obtain ⟨r00, r01, fr00, fr01⟩ := J5.out.two
      go_wp2
      refine bodyPost_ret (v := .agg #[.int .i64 (0), .int .i64 (2)]) (by simp [results, Try.results47, go_sem, *]) rfl (pair_mk (by omega) (by omega) (by omega) (by omega) (by omega) (HR5.out.belowAt (show Below w.heap.size w5 _ from by go_grown) hlt) (only_belowAt HG5.out (show Below w.heap.size w5 _ from by go_grown) (Nat.le_refl _)))
    · have q0 := L5.out.cell 6
      have q1 := L5.out.cell 7
      simp at q0 q1
      obtain ⟨r00, r01, fr00, fr01⟩ := J5.out.two
      go_wp2
      refine bodyPost_ret (v := .agg #[.int .i64 (1), .int .i64 (-3)]) (by simp [results, Try.results47, go_sem, *]) rfl (pair_mk (by omega) (by omega) (by omega) (by omega) (by omega) (HR5.out.belowAt (show Below w.heap.size w5 _ from by go_grown) hlt) (only_belowAt HG5.out (show Below w.heap.size w5 _ from by go_grown) (Nat.le_refl _)))
  · have hz0' : (z == 0) = false := by simpa using hz0
    by_cases hz1 : z = 1
    · subst hz1
      go_wp2_with fail
      refine (c_pick B g _ _ _ (by omega) (HR4.out.belowAt (show Below w.heap.size w4 _ from by go_grown) hlt)).mono ?_
      rintro e w5 ⟨u, rfl, u0, u1, hr, hg, hs⟩
      have HR5 := Lib.hid hr
      have HG5 := Lib.hid (only_same (only_belowAt HG4.out (show Below w.heap.size w4 _ from by go_grown) (Nat.le_refl _)) hg)
      have y5 : w.heap.size < w5.heap.size := by have := hg.size; first | omega | (simp at this; omega)
      have J5 := Lib.hid ((J4.out.alloc _).keep hg (by simp; omega))
      have L5 := Lib.hid ((blk_new w4 _ _).keep hg (by simp; omega))
      clear hr hg hs
      rcases (show u = 0 ∨ u = 1 ∨ u = 2 by omega) with rfl | rfl | rfl
      · have q0 := L5.out.cell 0
        have q1 := L5.out.cell 1
        simp at q0 q1
        obtain ⟨r00, r01, fr00, fr01⟩ := J5.out.two
        go_wp2
        refine bodyPost_ret (v := .agg #[.int .i64 (1000000000), .int .i64 (1)]) (by simp [results, Try.results47, go_sem, *]) rfl (pair_mk (by omega) (by omega) (by omega) (by omega) (by omega) (HR5.out.belowAt (show Below w.heap.size w5 _ from by go_grown) hlt) (only_belowAt HG5.out (show Below w.heap.size w5 _ from by go_grown) (Nat.le_refl _)))
      · have q0 := L5.out.cell 2
        have q1 := L5.out.cell 3
        simp at q0 q1
        obtain ⟨r00, r01, fr00, fr01⟩ := J5.out.two
        go_wp2
        refine bodyPost_ret (v := .agg #[.int .i64 (1), .int .i64 (1000000000)]) (by simp [results, Try.results47, go_sem, *]) rfl (pair_mk (by omega) (by omega) (by omega) (by omega) (by omega) (HR5.out.belowAt (show Below w.heap.size w5 _ from by go_grown) hlt) (only_belowAt HG5.out (show Below w.heap.size w5 _ from by go_grown) (Nat.le_refl _)))
      · have q0 := L5.out.cell 4
        have q1 := L5.out.cell 5
        simp at q0 q1
        obtain ⟨r00, r01, fr00, fr01⟩ := J5.out.two
        go_wp2
        refine bodyPost_ret (v := .agg #[.int .i64 (-999999999), .int .i64 (1000000000)]) (by simp [results, Try.results47, go_sem, *]) rfl (pair_mk (by omega) (by omega) (by omega) (by omega) (by omega) (HR5.out.belowAt (show Below w.heap.size w5 _ from by go_grown) hlt) (only_belowAt HG5.out (show Below w.heap.size w5 _ from by go_grown) (Nat.le_refl _)))
    · have hz1' : (z == 1) = false := by simpa using hz1
      obtain ⟨r00, r01, fr00, fr01⟩ := J4.out.two
      obtain ⟨r10, r11, fr10, fr11⟩ := K4.out.two
      go_wp2
      refine bodyPost_ret (v := .agg #[.int .i64 (nn), .int .i64 (dd)]) (by simp [results, Try.results47, go_sem, *]) rfl (pair_mk (by omega) (by omega) (by omega) (by omega) (by omega) (HR4.out.belowAt (show Below w.heap.size w4 _ from by go_grown) hlt) (only_belowAt HG4.out (show Below w.heap.size w4 _ from by go_grown) (Nat.le_refl _)))

set_option maxHeartbeats 2000000 in
theorem c_l93Ratio (B g p : Nat) (w : World) (hp : p ≤ 90) (h : Rdr w B g p) :
    Calls Try.prog 34 #[.pointer (some ⟨g, 0, none⟩)] w (PairPost 5 B g p (-1000000000) 1000000000 (-1000000000) 1000000000 w) := by
  have HR0 := Lib.hid h
  have HG0 := Lib.hid (World.grownBy.refl w (some g))
  have hlt := h.lt
  clear h
  go_enter Try.func34, Try.ntmps34
  go_wp2_with fail
  refine (c_pick B g _ _ _ (by omega) (HR0.out.belowAt (show Below w.heap.size w _ from by go_grown) hlt)).mono ?_
  rintro e w1 ⟨x, rfl, x0, x1, hr, hg, hs⟩
  have HR1 := Lib.hid hr
  have HG1 := Lib.hid (only_same (only_belowAt HG0.out (show Below w.heap.size w _ from by go_grown) (Nat.le_refl _)) hg)
  have y1 : w.heap.size < w1.heap.size := by have := hg.size; first | omega | (simp at this; omega)
  have J1 := Lib.hid ((blk_new w _ _).keep hg (by simp; omega))
  clear hr hg hs
  by_cases hx : x = 0
  · subst hx
    go_wp2_with fail
    refine (c_l91Frac B g _ _ (by omega) HR1.out).mono ?_
    rintro e w2 ⟨nn, dd, rfl, a0, a1, a2, a3, ⟨q, hq, hr⟩, hg⟩
    have HR2 := Lib.hid hr
    have HG2 := Lib.hid (only_same HG1.out hg)
    have J2 := Lib.hid (J1.out.keep hg (by simp; omega))
    have y2 : w.heap.size < w2.heap.size := by have := hg.size; omega
    clear hr hg
    obtain ⟨r00, r01, fr00, fr01⟩ := J2.out.two
    go_wp2
    refine bodyPost_ret (v := .agg #[.int .i64 (nn), .int .i64 (dd)]) (by simp [results, Try.results34, go_sem, *]) rfl (pair_mk (by omega) (by omega) (by omega) (by omega) (by omega) (HR2.out.belowAt (show Below w.heap.size w2 _ from by go_grown) hlt) (only_belowAt HG2.out (show Below w.heap.size w2 _ from by go_grown) (Nat.le_refl _)))
  · have hx' : (x == 0) = false := by simpa using hx
    go_wp2_with fail
    refine (c_pick B g _ _ _ (by omega) (HR1.out.belowAt (show Below w.heap.size w1 _ from by go_grown) hlt)).mono ?_
    rintro e w2 ⟨y, rfl, y0, y1, hr, hg, hs⟩
    have HR2 := Lib.hid hr
    have HG2 := Lib.hid (only_same (only_belowAt HG1.out (show Below w.heap.size w1 _ from by go_grown) (Nat.le_refl _)) hg)
    have y2 : w.heap.size < w2.heap.size := by have := hg.size; first | omega | (simp at this; omega)
    have J2 := Lib.hid ((J1.out).keep hg (by simp; omega))
    clear hr hg hs
    go_wp2_with fail
    refine (c_pick B g _ _ _ (by omega) (HR2.out.belowAt (show Below w.heap.size w2 _ from by go_grown) hlt)).mono ?_
    rintro e w3 ⟨z, rfl, z0, z1, hr, hg, hs⟩
    have HR3 := Lib.hid hr
    have HG3 := Lib.hid (only_same (only_belowAt HG2.out (show Below w.heap.size w2 _ from by go_grown) (Nat.le_refl _)) hg)
    have y3 : w.heap.size < w3.heap.size := by have := hg.size; first | omega | (simp at this; omega)
    have J3 := Lib.hid ((J2.out).keep hg (by simp; omega))
    clear hr hg hs
    obtain ⟨n0, n1, n2, n3⟩ := of_bd z (1 + y)
    go_wp2_with fail
    refine (c_specFracOf z (1 + y) _).mono ?_
    rintro e w4 ⟨rfl, hb⟩
    have HR4 := Lib.hid (HR3.out.below hb)
    have HG4 := Lib.hid (only_below HG3.out hb)
    have y4 : w.heap.size < w4.heap.size := by have := hb.size; omega
    have J4 := Lib.hid ((J3.out).below hb (J3.out).lt)
    clear hb
    generalize nF z (1 + y) = nn at *
    generalize dF z (1 + y) = dd at *
    obtain ⟨r00, r01, fr00, fr01⟩ := J4.out.two
    go_wp2
    refine bodyPost_ret (v := .agg #[.int .i64 (nn), .int .i64 (dd)]) (by simp [results, Try.results34, go_sem, *]) rfl (pair_mk (by omega) (by omega) (by omega) (by omega) (by omega) (HR4.out.belowAt (show Below w.heap.size w4 _ from by go_grown) hlt) (only_belowAt HG4.out (show Below w.heap.size w4 _ from by go_grown) (Nat.le_refl _)))
end Go.Proofs.Ytbbipieadjggkaa
