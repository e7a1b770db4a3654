/-
  Contracts of l91Row and l93Stack: some short row; some short list of short rows, in memory of their own.
-/
import Derived.Test.YtbaplcdedijaeaaRowsOwn
import Derived.Test.YtbaplcdedijaeaaReader
import Derived.Test.YtbaplcdedijaeaaOwn
import Derived.Test.YtbaplcdedijaeaaStackSum
import Derived.Test.YtbaplcdedijaeaaShellInts
import Derived.Deep.RegionWith
import Derived.Deep.RegionHeld3
namespace Go.Proofs.Ytbaplcdedijaeaa
open Go.RowKit

def Small (l : List Int) : Prop := ∀ i, i < l.length → -20000 ≤ ix l i ∧ ix l i ≤ 20000
theorem Small.nil : Small [] := fun i hi => absurd hi (by simp)
theorem Small.snoc {l : List Int} {x : Int} (h : Small l) (h0 : -20000 ≤ x) (h1 : x ≤ 20000) : Small (l ++ [x]) := fun i hi => by
  rw [ix_eq hi]
  by_cases e : i < l.length
  · rw [List.getElem_append_left e]
    have := h i e
    rwa [ix_eq e] at this
  · rw [List.getElem_append_right (by omega)]
    simpa using ⟨h0, h1⟩
theorem Small.set {l : List Int} {x : Int} {j : Nat} (h : Small l) (h0 : -20000 ≤ x) (h1 : x ≤ 20000) : Small (l.set j x) := fun i hi => by
  have hi' : i < l.length := by simpa using hi
  rw [ix_eq hi, List.getElem_set]
  by_cases e : j = i
  · rw [if_pos e]; exact ⟨h0, h1⟩
  · rw [if_neg e]
    have := h i hi'
    rwa [ix_eq hi'] at this
/-- some row, in a block of the call's own; the reader has gone on -/
def RowPost (B g N : Nat) (w : World) (e : Ending) (w' : World) : Prop :=
  ∃ A n c l, e = .returned (.slice A n c) ∧ n ≤ N ∧ n ≤ c ∧ Small l ∧ OwnI w' w.heap.size 3 (.slice A n c) n l ∧ (∃ p, p ≤ 50 ∧ Rdr w' B g p) ∧ w.grownBy w' (some g)
def RowRel (B g m p : Nat) (w : World) (o i : Value) (wr : World) : Prop :=
  ∃ (k : Nat) (l : List Int), k ≤ m ∧ i = .int .i64 k ∧ OwnI wr w.heap.size 3 o k l ∧ Small l ∧ Rdr wr B g (p + 1 + k) ∧ w.grownBy wr (some g)
theorem OwnI.cell0 {w : World} {base : Nat} {t : TypeId} {g n c : Nat} {l : List Int} (h : OwnI w base t (.slice (some ⟨g, 0, none⟩) n c) n l) {j : Nat} (hj : j < n) :
    (∃ u, w.cell? ⟨g, j, none⟩ = some (.int .i64 u)) ∧ w.frozen? ⟨g, j, none⟩ = false := by
  obtain ⟨A, c', hv, _, _, _, hr⟩ := h.form
  obtain ⟨g', rfl, _, hr⟩ := hr (by omega)
  injection hv with hv1
  injection hv1 with hv1
  injection hv1 with hv1
  subst hv1
  have := hr.cell hj
  exact ⟨⟨_, this.1⟩, this.2⟩
theorem OwnI.put {w : World} {base : Nat} {t : TypeId} {g n c : Nat} {l : List Int} (h : OwnI w base t (.slice (some ⟨g, 0, none⟩) n c) n l) (j : Nat) (x : Int) :
    OwnI (w.setCell ⟨g, j, none⟩ (.int .i64 x)) base t (.slice (some ⟨g, 0, none⟩) n c) n (l.set j x) := by
  obtain ⟨⟨h1, h2⟩, hl⟩ := h
  refine ⟨⟨by rw [ints_len, List.length_set, hl, Nat.mul_one], ?_⟩, by rw [List.length_set, hl]⟩
  rcases h2 with ⟨h2, _⟩ | ⟨g', cap, cur, hv, hb, hh, hn, hc, hs, ht⟩
  · cases h2
  · injection hv with hv1 hv2 hv3
    injection hv1 with hv1
    injection hv1 with hv1
    subst hv1 hv3
    have hb2 : Blk (w.setCell ⟨g, j, none⟩ (.int .i64 x)) g t (cur.setIfInBounds j (.int .i64 x)) := Blk.put hh _ _
    refine .inr ⟨g, c, _, rfl, hb, hb2, hn, hc, by simpa using hs, ?_⟩
    have e : ints (l.set j x) = (ints l).set j (.int .i64 x) := by simp [ints, List.map_set]
    rw [e, ← ht, Array.toList_setIfInBounds, List.take_set]
/-- a literal list of three, behind a call that turns block g alone -/
theorem lit3' {w w' : World} {g : Nat} {t : TypeId} {a b d : Value} (hg : (w.alloc (.cells #[a, b, d] t)).grownBy w' (some g)) (hlt : g < w.heap.size) :
    w'.cell? ⟨w.heap.size, 0, none⟩ = some a ∧ w'.cell? ⟨w.heap.size, 0 + 1, none⟩ = some b ∧ w'.cell? ⟨w.heap.size, 0 + 2, none⟩ = some d := by
  have h : w'.heap[w.heap.size]? = some (.cells #[a, b, d] t (0, 0)) := (hg.block w.heap.size (by simp) (by simp; omega)).trans (heap_alloc_new w _)
  have hb : Blk w' w.heap.size t #[a, b, d] := h
  rw [hb.cell, hb.cell, hb.cell]
  exact ⟨rfl, rfl, rfl⟩
theorem row_fin {B g N p : Nat} {w W : World} {A : Option Addr} {n c : Nat} {l : List Int} (hO : OwnI W w.heap.size 3 (.slice A n c) n l) (hn : n ≤ N) (hc : n ≤ c) (hs : Small l) (hp : p ≤ 50) (hr : Rdr W B g p) (hg : w.grownBy W (some g)) : RowPost B g N w (.returned (.slice A n c)) W :=
  ⟨A, n, c, l, rfl, hn, hc, hs, hO, ⟨p, hp, hr⟩, hg⟩

set_option maxHeartbeats 1000000 in
theorem c_l91Row (B g p : Nat) (w : World) (hp : p ≤ 10) (h : Rdr w B g p) :
    Calls Try.prog 43 #[.pointer (some ⟨g, 0, none⟩)] w (RowPost B g 7 w) := by
  have HR := Lib.hid h
  have hlt := h.lt
  have hge := h.ge
  clear h
  obtain ⟨i0, hi, hz0, hz1, hz2⟩ := info_parts info_int
  have HI := Lib.hid hi
  have HZ0 := Lib.hid hz0
  have HZ1 := Lib.hid hz1
  have HZ2 := Lib.hid hz2
  clear hi hz0 hz1 hz2
  go_enter Try.func43, Try.ntmps43
  go_wp2_with fail
  refine (c_pick B g p _ _ (by omega) (HR.out.below ((Below.refl _ _).alloc (Nat.le_refl _) _))).mono ?_
  rintro e w1 ⟨x, rfl, hx0, hx1, hr1, hg1, hs1⟩
  have HR1 := Lib.hid hr1
  have HG1 := Lib.hid (only_same (only_alloc (World.grownBy.refl w (some g)) _) hg1)
  have HO1 := Lib.hid ((OwnI.empty w 3 (Nat.le_refl _)).grown hg1 hlt)
  clear hr1 hg1 hs1
  obtain ⟨m, rfl⟩ : ∃ m : Nat, x = (m : Int) := ⟨x.toNat, by omega⟩
  have hm : m ≤ 6 := by omega
  clear hx0 hx1
  go_wp2_with fail
  go_loopw [3, 5] (fun o i wr => RowRel B g (1 + m) p w o i wr) (fun _ i _ => 1 + m - (intOf i).toNat)
  case atStart => exact ⟨0, [], Nat.zero_le _, rfl, HO1.out, Small.nil, HR1.out, HG1.out⟩
  case round =>
    obtain ⟨k, l, hk, rfl, hO, hSm, hR, hG⟩ := hrel
    have HO := Lib.hid hO
    have HSM := Lib.hid hSm
    have HR2 := Lib.hid hR
    have HG := Lib.hid hG
    clear hO hSm hR hG
    by_cases hlt2 : k < 1 + m
    · have hlt3 : decide ((k : Int) < 1 + (m : Int)) = true := by simp; omega
      go_wp2_with fail
      refine (c_pick B g _ _ _ (by omega) HR2.out).mono ?_
      rintro e w2 ⟨x, rfl, hx0, hx1, hr2, hg2, hs2⟩
      have HR3 := Lib.hid hr2
      have HG3 := Lib.hid (only_same HG.out hg2)
      have HO3 := Lib.hid (HO.out.grown hg2 hlt)
      have hsz : w.heap.size ≤ w2.heap.size := HG3.out.size
      clear hr2 hg2 hs2 HO HR2 HG
      go_wp2_with (at_builtin; refine wpList_appendI (by rfl) _ _ 29 rfl w.heap.size 3 i0 (.int .i64 0) Try.underlying29 HI.out HZ0.out HZ1.out HZ2.out rfl _ _ _ rfl (HO3.out.alloc _) ⟨w2.heap.size, 0, none⟩ (x - 15) rfl (cell_1 _ _ _) (by omega) (by simp; omega) ?_; intro v' w5 hO5 hB5)
      go_roundw
      case rel => exact ⟨k + 1, _, by omega, by go_num, hO5, HSM.out.snoc (by omega) (by omega), by rw [show p + 1 + (k + 1) = p + 1 + k + 1 by omega]; exact (HR3.out.below ((Below.refl _ _).alloc (Nat.le_refl _) _)).belowAt hB5 hlt, only_belowAt (only_alloc HG3.out _) hB5 (Nat.le_refl _)⟩
      case measure => simp [intOf]; omega
    · obtain rfl : k = 1 + m := by omega
      have hlt3 : decide (((1 + m : Nat) : Int) < 1 + (m : Int)) = false := by simp
      have hsz : w.heap.size ≤ wr.heap.size := HG.out.size
      obtain ⟨A, c, rfl, hc, hc2, hrd, hrow⟩ := HO.out.form
      obtain ⟨gb, rfl, hgb, hrp⟩ := hrow (by omega)
      clear hrd hrow hrp
      go_wp2_with fail
      refine (c_pick B g _ _ _ (by omega) HR2.out).mono ?_
      rintro e w2 ⟨x, rfl, hx0, hx1, hr2, hg2, hs2⟩
      have HR3 := Lib.hid hr2
      have HG3 := Lib.hid (only_same HG.out hg2)
      have HO3 := Lib.hid (HO.out.grown hg2 hlt)
      have hsz2 : w.heap.size ≤ w2.heap.size := HG3.out.size
      clear hr2 hg2 hs2 HO HR2 HG
      by_cases h0 : x = 0
      · subst h0
        go_wp2_with fail
        refine (c_pick B g _ _ _ (by omega) (HR3.out.below ((Below.refl _ _).alloc (Nat.le_refl _) _))).mono ?_
        rintro e w3 ⟨y, rfl, hy0, hy1, hr4, hg4, hs4⟩
        have HR4 := Lib.hid hr4
        have HG4 := Lib.hid (only_same (only_alloc HG3.out _) hg4)
        have HO4 := Lib.hid ((HO3.out.alloc _).grown hg4 hlt)
        obtain ⟨q0, q1, q2⟩ := lit3' hg4 (by omega)
        obtain ⟨⟨u0, hcu⟩, hfu⟩ := HO4.out.cell0 (j := 0) (by omega)
        clear hr4 hg4 hs4 HO3 HR3 HG3
        rcases (show y = 0 ∨ y = 1 ∨ y = 2 by omega) with rfl | rfl | rfl
        all_goals
          go_wp2
          go_ret
          exact row_fin (HO4.out.put 0 _) (by omega) hc (HSM.out.set (by omega) (by omega)) (by omega) (HR4.out.of_same fun j hj => Below.heap_setCell _ _ _ _ (by simp; omega)) (only_setCell HG4.out (.inr hgb) _)
      · have h0' : (x == 0) = false := by simpa using h0
        by_cases h1 : x = 1
        · subst h1
          go_wp2
          go_ret
          exact row_fin (OwnI.empty _ 3 hsz2) (by omega) (Nat.le_refl _) Small.nil (by omega) (HR3.out.below ((Below.refl _ _).alloc (Nat.le_refl _) _)) (only_alloc HG3.out _)
        · have h1' : (x == 1) = false := by simpa using h1
          go_wp2
          go_ret
          exact row_fin HO3.out (by omega) hc HSM.out (by omega) HR3.out HG3.out
end Go.Proofs.Ytbaplcdedijaeaa
