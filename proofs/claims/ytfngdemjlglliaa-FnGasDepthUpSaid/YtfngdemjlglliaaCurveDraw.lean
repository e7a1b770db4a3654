/-
  Contracts of l91Curve and l93Ice: some short list of knots, at least one, in memory of its own.
-/
import Derived.Test.YtfngdemjlglliaaOwn
import Derived.Test.YtfngdemjlglliaaReader
import Derived.Test.YtfngdemjlglliaaGasWords
import Derived.Deep.RegionWith
namespace Go.Proofs.Ytfngdemjlglliaa
open Go.RowKit

theorem Blk.twoC {w : World} {g : Nat} {t : TypeId} {a b : Value} (h : Blk w g t #[a, b]) : w.cell? ⟨g, 0, none⟩ = some a ∧ w.cell? ⟨g, 1, none⟩ = some b ∧ w.frozen? ⟨g, 0, none⟩ = false ∧ w.frozen? ⟨g, 1, none⟩ = false := by
  refine ⟨?_, ?_, h.frozen 0, h.frozen 1⟩
  · rw [h.cell]; rfl
  · rw [h.cell]; rfl
theorem blk_newC (w : World) (t : TypeId) (cs : Array Value) : Blk (w.alloc (.cells cs t)) w.heap.size t cs := heap_alloc_new w _
theorem blk_allocC {w : World} {g : Nat} {t : TypeId} {cs : Array Value} (h : Blk w g t cs) (o : Obj) : Blk (w.alloc o) g t cs := (Below.heap_alloc w o g h.lt).trans h
theorem blk_setC {w : World} {g : Nat} {t : TypeId} {a b : Value} (h : Blk w g t #[a, b]) (u v : Value) : Blk ((w.setCell ⟨g, 0, none⟩ u).setCell ⟨g, 1, none⟩ v) g t #[u, v] := by
  have := (h.put 0 u).put 1 v
  simpa using this
theorem un_drewC {a w : World} {row : Option Nat} (h : a.drew.grownBy w row) : a.grownBy w row := ⟨h.os, h.tape, h.output, h.size, h.block⟩
theorem blk_grownC {w w' : World} {g k : Nat} {t : TypeId} {cs : Array Value} (h : Blk w g t cs) (hg : w.grownBy w' (some k)) (hne : g ≠ k) : Blk w' g t cs := (hg.block g h.lt (by simpa using hne)).trans h
theorem OwnP.setAway {w : World} {base n : Nat} {t : TypeId} {v : Value} {l : List (Int × Int)} (h : OwnP w base t v n l) {g : Nat} (hlt : g < base) (j : Nat) (u : Value) : OwnP (w.setCell ⟨g, j, none⟩ u) base t v n l :=
  h.of_same fun k hk _ => Below.heap_setCell w ⟨g, j, none⟩ u k (by simp; omega)
theorem OwnP.downC {w : World} {base base' n : Nat} {t : TypeId} {v : Value} {l : List (Int × Int)} (h : OwnP w base t v n l) (hb : base' ≤ base) : OwnP w base' t v n l := by
  obtain ⟨⟨h1, h2⟩, hl⟩ := h
  refine ⟨⟨h1, ?_⟩, hl⟩
  rcases h2 with h2 | ⟨g, cap, cur, rfl, hb', hr⟩
  · exact .inl h2
  · exact .inr ⟨g, cap, cur, rfl, by omega, hr⟩
theorem OwnP.cap {w : World} {base : Nat} {t : TypeId} {A : Option Addr} {n c : Nat} {l : List (Int × Int)} (h : OwnP w base t (.slice A n c) n l) : n ≤ c := by
  obtain ⟨_, _, hv, hc, _⟩ := h.form
  injection hv with hv1 hv2 hv3
  subst hv3
  exact hc
/-- the first element alone -/
theorem OwnP.one_of {w : World} {base : Nat} {t : TypeId} {A : Option Addr} {n c : Nat} {l : List (Int × Int)} (h : OwnP w base t (.slice A n c) n l) (hn : 1 ≤ n) : OwnP w base t (.slice A 1 c) 1 (l.take 1) := by
  obtain ⟨⟨h1, h2⟩, hl⟩ := h
  have hf : flat (l.take 1) = (flat l).take 2 := by
    match l with
    | [] => rfl
    | p :: l => simp [flat]
  refine ⟨⟨by rw [flat_len]; simp; omega, ?_⟩, by simp; omega⟩
  rcases h2 with ⟨h2, h3⟩ | ⟨g, cap, cur, hv, hb, hh, hnc, hc, hs, ht⟩
  · injection h2 with a b
    omega
  · injection hv with hv1 hv2 hv3
    subst hv1 hv3
    refine .inr ⟨g, c, cur, rfl, hb, hh, by omega, hc, hs, ?_⟩
    rw [hf, ← ht, List.take_take]
    congr 1
    omega
theorem absC {F : World → Prop} {S : World → Prop} {W : World} (h : ∀ W', S W' → F W') (hS : S W) : F W := h W hS
/-- some list of at most N knots, at least one, in a row of the call's own; the reader has gone on -/
def CrvPostP (P B g N : Nat) (w : World) (e : Ending) (w' : World) : Prop :=
  ∃ A n c l, e = .returned (.slice A n c) ∧ 1 ≤ n ∧ n ≤ N ∧ n ≤ c ∧ OwnP w' w.heap.size 31 (.slice A n c) n l ∧ (∃ p, p ≤ P ∧ Rdr w' B g p) ∧ w.grownBy w' (some g)
def CrvPost (B g N : Nat) (w : World) (e : Ending) (w' : World) : Prop := CrvPostP 100 B g N w e w'
def CrvRel (P B g gk m : Nat) (w : World) (o i : Value) (wr : World) : Prop :=
  ∃ (k p : Nat) (l : List (Int × Int)) (x y : Int), k ≤ m ∧ i = .int .i64 k ∧ OwnP wr (gk + 1) 31 o (k + 1) l ∧ Blk wr gk 31 #[.int .i64 x, .int .i64 y] ∧ p ≤ P + 10 + 2 * k ∧ Rdr wr B g p ∧ w.grownBy wr (some g)
theorem rdr_set {w : World} {B g p k : Nat} (h : Rdr w B g p) (h1 : B ≤ k) (h2 : k ≠ g) (u v : Value) : Rdr ((w.setCell ⟨k, 0, none⟩ u).setCell ⟨k, 1, none⟩ v) B g p :=
  h.of_same fun j hj => (Below.heap_setCell _ ⟨k, 1, none⟩ v j (by simp; omega)).trans (Below.heap_setCell w ⟨k, 0, none⟩ u j (by simp; omega))
theorem Rdr.drewC {w : World} {B g p : Nat} (h : Rdr w B g p) : Rdr w.drew B g p := h.of_same fun _ _ => rfl

set_option maxHeartbeats 8000000 in
theorem c_l91CurveP (P B g p : Nat) (w : World) (hp : p ≤ P) (hP : P ≤ 100000) (h : Rdr w B g p) :
    Calls Try.prog 48 #[.pointer (some ⟨g, 0, none⟩)] w (CrvPostP (P + 90) B g 6 w) := by
  have HR := Lib.hid h
  have hlt := h.lt
  have hge := h.ge
  clear h
  obtain ⟨i0, hi, hz0, hz1, hz2⟩ := info_parts info_knot
  have HI := Lib.hid hi
  have HZ0 := Lib.hid hz0
  have HZ1 := Lib.hid hz1
  have HZ2 := Lib.hid hz2
  clear hi hz0 hz1 hz2
  go_enter Try.func48, Try.ntmps48
  go_wp2_with fail
  refine (c_pick B g p _ _ (by omega) HR.out).mono ?_
  rintro e w1 ⟨x0, rfl, hx0, hx1, hr1, hg1, hs1⟩
  have HR1 := Lib.hid hr1
  have HG1 := Lib.hid hg1
  clear hr1 hg1 hs1
  go_wp2_with fail
  refine (c_pick B g _ _ _ (by omega) HR1.out).mono ?_
  rintro e w2 ⟨y0, rfl, hy0, hy1, hr2, hg2, hs2⟩
  have HR2 := Lib.hid hr2
  have HG2 := Lib.hid (only_same HG1.out hg2)
  have hz2 : w.heap.size ≤ w2.heap.size := HG2.out.size
  clear hr2 hg2 hs2 HG1 HR1
  go_wp2_with fail
  refine (c_pick B g _ _ _ (by omega) (HR2.out.below (((Below.refl _ _).alloc (Nat.le_refl _) _).alloc (by simp) _))).mono ?_
  rintro e w3 ⟨x, rfl, hu0, hu1, hr3, hg3, hs3⟩
  have HR3 := Lib.hid hr3
  have HG3 := Lib.hid (only_same (only_alloc (only_alloc HG2.out _) _) hg3)
  have hz3 : w2.heap.size + 2 ≤ w3.heap.size := by have := hg3.size; simpa using this
  have HJ3 := Lib.hid (blk_grownC (blk_allocC (blk_newC w2 31 #[.int .i64 x0, .int .i64 y0]) (.cells #[.int .i64 x0, .int .i64 y0] 31)) hg3 (by omega))
  have hone := OwnP.one (w2.alloc (.cells #[.int .i64 x0, .int .i64 y0] 31)) 31 x0 y0
  rw [show (w2.alloc (.cells #[.int .i64 x0, .int .i64 y0] 31)).heap.size = w2.heap.size + 1 by simp] at hone
  have HO3 := Lib.hid (hone.grown hg3 (by omega))
  clear hr3 hg3 hs3 hone HG2 HR2
  obtain ⟨m, rfl⟩ : ∃ m : Nat, x = (m : Int) := ⟨x.toNat, by omega⟩
  have hm : m ≤ 4 := by omega
  clear hu0 hu1
  obtain ⟨gk, hgk⟩ : ∃ gk, gk = w2.heap.size := ⟨_, rfl⟩
  have hgk0 : w.heap.size ≤ gk := by omega
  have hgkg : gk ≠ g := by omega
  rw [← hgk] at HJ3 HO3 hz3
  rw [← hgk]
  have HGK := Lib.hid hgk
  clear hgk hz2
  go_wp2_with fail
  go_loopw [4, 6] (fun o i wr => CrvRel P B g gk (1 + m) w o i wr) (fun _ i _ => 1 + m - (intOf i).toNat)
  case atStart => exact ⟨0, _, _, _, _, Nat.zero_le _, rfl, HO3.out, HJ3.out, by omega, HR3.out, HG3.out⟩
  case round =>
    obtain ⟨k, q, l, x, y, hk, rfl, hO, hJ, hq, hR, hG⟩ := hrel
    obtain ⟨A9, c9, rfl, _⟩ := hO.form
    have HO := Lib.hid hO
    have HJ := Lib.hid hJ
    have HRR := Lib.hid hR
    have HG := Lib.hid hG
    have hsz := hG.size
    have hgl : gk < wr.heap.size := hJ.lt
    obtain ⟨j0, j1, fj0, fj1⟩ := hJ.twoC
    clear hO hJ hR hG HJ3 HO3 HR3 HG3
    by_cases hlt2 : k < 1 + m
    · have hlt3 : decide ((k : Int) < 1 + (m : Int)) = true := by simp; omega
      go_wp2_with fail
      go_region_with (first | (go_at_call 45; (with_reducible refine (c_pick B g q _ _ (by omega) HRR.out.drewC).mono ?_); rintro e w5 ⟨z, rfl, z0, z1, hr5, hg5, hs5⟩; have HR5 := Lib.hid hr5; have HG5 := Lib.hid (only_same HG.out (un_drewC hg5)); have HJ5 := Lib.hid (blk_grownC HJ.out (un_drewC hg5) hgkg); have HO5 := Lib.hid (HO.out.grown (un_drewC hg5) (by omega)); obtain ⟨c5, d5, f5, h5⟩ := HJ5.out.twoC; clear hr5 hg5 hs5) | (go_at_call 45; (with_reducible refine (c_pick B g (q + 1) _ _ (by omega) HR5.out).mono ?_); rintro e w6 ⟨u, rfl, u0, u1, hr6, hg6, hs6⟩; have HR6 := Lib.hid hr6; have HG6 := Lib.hid (only_same HG5.out hg6); have HJ6 := Lib.hid (blk_grownC HJ5.out hg6 hgkg); have HO6 := Lib.hid (HO5.out.grown hg6 (by omega)); obtain ⟨c6, d6, f6, h6⟩ := HJ6.out.twoC; clear hr6 hg6 hs6))
      all_goals
        refine absC (S := fun W => ∃ X Y : Int, Blk W gk 31 #[.int .i64 X, .int .i64 Y] ∧ OwnP W (gk + 1) 31 (.slice A9 (k + 1) c9) (k + 1) l ∧ Rdr W B g (q + 1 + 1) ∧ w.grownBy W (some g)) ?_ ⟨_, _, blk_setC HJ6.out _ _, (HO6.out.setAway (by omega) _ _).setAway (by omega) _ _, rdr_set HR6.out (by omega) hgkg _ _, only_setCell (only_setCell HG6.out (.inr hgk0) _) (.inr hgk0) _⟩
        intro W hW
        obtain ⟨X, Y, hJ7, hO7, hR7, hG7⟩ := hW
        have HJ7 := Lib.hid hJ7
        have HO7 := Lib.hid hO7
        have HR7 := Lib.hid hR7
        have HG7 := Lib.hid hG7
        have hz7 : gk < W.heap.size := hJ7.lt
        have hz8 := hG7.size
        obtain ⟨c7, d7, _, _⟩ := hJ7.twoC
        clear hJ7 hO7 hR7 hG7 HJ5 HO5 HR5 HG5 HJ6 HO6 HR6 HG6 HO HJ HRR HG c5 d5 f5 h5 c6 d6 f6 h6 j0 j1 fj0 fj1
        go_wp2_with (at_builtin; refine wpList_appendP (by rfl) _ _ 23 rfl (gk + 1) 31 i0 (.agg #[.int .i64 0, .int .i64 0]) Try.underlying23 HI.out HZ0.out HZ1.out HZ2.out rfl _ (k + 1) l rfl (HO7.out.alloc _) ⟨W.heap.size, 0, none⟩ X Y rfl (cell_knot _ _ _ _) (by omega) (by simp; omega) ?_; intro v' w8 hO8 hB8)
        go_roundw
        case rel => exact ⟨k + 1, q + 2, _, X, Y, by omega, by go_num, hO8, (blk_allocC HJ7.out _).below hB8 (by omega), by omega, (HR7.out.below ((Below.refl _ _).alloc (Nat.le_refl _) _)).belowAt hB8 (by omega), only_belowAt (only_alloc HG7.out _) hB8 (by omega)⟩
        case measure => simp [intOf]; omega
    · obtain rfl : k = 1 + m := by omega
      have hlt3 : decide (((1 + m : Nat) : Int) < 1 + (m : Int)) = false := by simp
      obtain ⟨A4, c4, hv4, hc4, _, _, hrow⟩ := HO.out.form
      injection hv4 with hv5 hv6 hv7
      subst hv5 hv7
      obtain ⟨gb, rfl, hgb, _⟩ := hrow (by omega)
      clear hrow HJ j0 j1 fj0 fj1
      go_wp2_with fail
      refine (c_pick B g q _ _ (by omega) HRR.out).mono ?_
      rintro e w5 ⟨z, rfl, z0, z1, hr5, hg5, hs5⟩
      have HR5 := Lib.hid hr5
      have HG5 := Lib.hid (only_same HG.out hg5)
      have HO5 := Lib.hid (HO.out.grown hg5 (by omega))
      have hz5 := HG5.out.size
      clear hr5 hg5 hs5 HO HRR HG
      have hm1 : (1 : Int) + (m : Int) - 1 = (m : Int) := by omega
      obtain ⟨⟨ua, hua⟩, hfa⟩ := HO5.out.cell0 (m * 2 + 1) (by omega)
      obtain ⟨⟨ub, hub⟩, hfb⟩ := HO5.out.cell0 ((1 + m) * 2 + 1) (by omega)
      obtain ⟨⟨uc, huc⟩, hfc⟩ := HO5.out.cell0 ((1 + m) * 2) (by omega)
      have hi0 : (0 : Int) ≤ (m : Int) := by omega
      have hi1 : (m : Int) < ((1 + m + 1 : Nat) : Int) := by omega
      have hi2 : (0 : Int) ≤ 1 + (m : Int) := by omega
      have hi3 : (1 : Int) + (m : Int) < ((1 + m + 1 : Nat) : Int) := by omega
      by_cases h0 : z = 0
      · subst h0
        go_wp2
        go_ret
        obtain ⟨l', hO'⟩ := HO5.out.put ((1 + m) * 2 + 1) ua
        exact ⟨_, _, _, l', rfl, by omega, by omega, hc4, hO'.downC (by omega), ⟨q + 1, by omega, HR5.out.of_same fun j hj => Below.heap_setCell _ _ _ _ (by simp; omega)⟩, only_setCell HG5.out (.inr (by show w.heap.size ≤ gb; omega)) _⟩
      · have h0' : (z == 0) = false := by simpa using h0
        by_cases h1 : z = 1
        · subst h1
          go_wp2
          go_ret
          exact ⟨_, _, _, _, rfl, Nat.le_refl _, by omega, by omega, (HO5.out.one_of (by omega)).downC (by omega), ⟨q + 1, by omega, HR5.out⟩, HG5.out⟩
        · have h1' : (z == 1) = false := by simpa using h1
          by_cases h2 : z = 2
          · subst h2
            go_wp2
            go_ret
            obtain ⟨l', hO'⟩ := HO5.out.put ((1 + m) * 2) 30001
            exact ⟨_, _, _, l', rfl, by omega, by omega, hc4, hO'.downC (by omega), ⟨q + 1, by omega, HR5.out.of_same fun j hj => Below.heap_setCell _ _ _ _ (by simp; omega)⟩, only_setCell HG5.out (.inr (by show w.heap.size ≤ gb; omega)) _⟩
          · have h2' : (z == 2) = false := by simpa using h2
            go_wp2
            go_ret
            exact ⟨_, _, _, l, rfl, by omega, by omega, hc4, HO5.out.downC (by omega), ⟨q + 1, by omega, HR5.out⟩, HG5.out⟩
theorem c_l91Curve (B g p : Nat) (w : World) (hp : p ≤ 10) (h : Rdr w B g p) :
    Calls Try.prog 48 #[.pointer (some ⟨g, 0, none⟩)] w (CrvPost B g 6 w) := c_l91CurveP 10 B g p w hp (by omega) h
end Go.Proofs.Ytfngdemjlglliaa
