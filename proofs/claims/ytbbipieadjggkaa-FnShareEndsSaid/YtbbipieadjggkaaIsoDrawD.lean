/-
  Contract of DrawWaterDelta: some water and some standard within bounds.
-/
import Derived.Test.YtbbipieadjggkaaIsoDraw
import Derived.Deep.RegionHeld3
namespace Go.Proofs.Ytbbipieadjggkaa
open Go.RowKit

def OpenG (w : World) (e : Ending) (w' : World) : Prop :=
  ∃ g, e = .returned (.pointer (some ⟨g, 0, none⟩)) ∧ w.heap.size ≤ g ∧ g < w'.heap.size ∧ Rdr w' w.heap.size g 0 ∧ Below w.heap.size w w'
theorem c_l6OpenG (A : Option Addr) (n c : Nat) (w : World) (h : RdB w A n) (hn : n ≤ 9223372036854775807) (hc : n ≤ c) :
    Calls Try.prog 32 #[.slice A n c] w (OpenG w) :=
  (c_l6Open A n c w h hn hc).mono fun _ _ ⟨he, hr, hb, hs⟩ => ⟨_, he, Nat.le_refl _, by omega, hr, hb⟩
theorem RdB.below {w w' : World} {A : Option Addr} {n : Nat} (h : RdB w A n) (hb : Below w.heap.size w w') : RdB w' A n := fun h0 => by
  obtain ⟨b, off, e, hlt, hc⟩ := h h0
  refine ⟨b, off, e, Nat.lt_of_lt_of_le hlt hb.size, fun i hi => ?_⟩
  obtain ⟨z, z0, z1, hz⟩ := hc i hi
  exact ⟨z, z0, z1, (hb.cell (p := ⟨b, off + i, none⟩) hlt).trans hz⟩
theorem far2 {W : World} {b b' o : Nat} {v1 v2 u : Value} (hne : b ≠ b') (h : W.cell? ⟨b, o, none⟩ = some u) : ((W.setCell ⟨b', 0, none⟩ v1).setCell ⟨b', 1, none⟩ v2).cell? ⟨b, o, none⟩ = some u := by
  have e : ∀ (X : World) (k : Nat) (v : Value), (X.setCell ⟨b', k, none⟩ v).cell? ⟨b, o, none⟩ = X.cell? ⟨b, o, none⟩ := fun X k v => World.cell?_of_block (w := X) (a := ⟨b, o, none⟩) (Below.heap_setCell X ⟨b', k, none⟩ v b hne)
  rw [e, e]
  exact h
def DrawWF (w : World) (e : Ending) (w' : World) : Prop :=
  ∃ a h n d : Int, e = .returned (.tuple #[.agg #[.int .i64 a, .int .i64 h], .agg #[.int .i64 n, .int .i64 d]]) ∧ 0 ≤ a ∧ a ≤ 1001 ∧ 0 ≤ h ∧ h ≤ 21 ∧ -1000000000 ≤ n ∧ n ≤ 1000000000 ∧ -1000000000 ≤ d ∧ d ≤ 1000000000 ∧ Below w.heap.size w w'

set_option maxHeartbeats 2000000 in
theorem c_DrawWaterDelta (A : Option Addr) (n c : Nat) (w : World) (h : RdB w A n) (hn : n ≤ 1048576) (hc : n ≤ c) :
    Calls Try.prog 15 #[.slice A n c] w (DrawWF w) := by
  have HB := Lib.hid h
  clear h
  go_enter Try.func15, Try.ntmps15
  go_wp2_with fail
  refine (c_l6OpenG _ _ _ _ ((HB.out.below ((Below.refl _ _).alloc (Nat.le_refl _) _)).below ((Below.refl _ _).alloc (Nat.le_refl _) _)) (by omega) hc).mono ?_
  rintro e w1 ⟨g, rfl, hg0, hg1, hr1, hb1⟩
  have HR1 := Lib.hid hr1
  have J1 := Lib.hid (((blk_new w _ _).alloc _).below hb1 (by simp; omega))
  have K1 := Lib.hid ((blk_new1 w _ _ _).below hb1 (by simp))
  have hB1 : Below w.heap.size w w1 := (show Below w.heap.size w _ from by go_grown).trans (hb1.mono (by simp; omega))
  have hg2 : w.heap.size + 2 ≤ g := by simp at hg0; omega
  clear hr1 hb1 hg0
  go_wp2_with fail
  refine (c_l93Water _ g _ _ (by omega) HR1.out).mono ?_
  rintro e w2 ⟨a, h, rfl, a0, a1, h0, h1, ⟨q, hq, hr⟩, hg⟩
  have HR2 := Lib.hid hr
  have J2 := Lib.hid (J1.out.keep hg (by simp; omega))
  have K2 := Lib.hid (K1.out.keep hg (by simp; omega))
  have hs2 := hg.size
  have hB2 : Below w.heap.size w w2 := hB1.trans (below_of_grown hg hB1.size (fun k hk => by injection hk with hk; omega))
  clear hr hg
  have hn1 : w2.heap.size ≠ w.heap.size := by omega
  have hn2 : w2.heap.size ≠ w.heap.size + 1 := by omega
  obtain ⟨b0, b1, _, _⟩ := (blk_new w2 24 #[.int .i64 a, .int .i64 h]).two
  go_wp2_with fail
  go_region_held3 (fun W => W.cell? ⟨w2.heap.size, 0, none⟩ = some (.int .i64 a) ∧ W.cell? ⟨w2.heap.size, 1, none⟩ = some (.int .i64 h)) (first | exact ⟨b0, b1⟩ | exact ⟨c0, c1⟩ | exact ⟨far2 hn1 c0, far2 hn1 c1⟩ | exact ⟨far2 hn2 (far2 hn1 c0), far2 hn2 (far2 hn1 c1)⟩ | exact ⟨far2 hn2 c0, far2 hn2 c1⟩ | exact ⟨far2 hn1 (far2 hn2 c0), far2 hn1 (far2 hn2 c1)⟩ | go_keep)
    (first | (go_at_call 34; (with_reducible refine (c_l93Ratio _ g q _ (by omega) (HR2.out.below ((Below.refl _ _).alloc (Nat.le_refl _) _ |>.drew))).mono ?_); rintro e w3 ⟨nn, dd, rfl, n0, n1, d0, d1, _, hg⟩; obtain ⟨c0, c1, _, _⟩ := ((blk_new w2 24 #[.int .i64 a, .int .i64 h]).drew.keep hg (by simp; omega)).two; obtain ⟨r0, r1, fr0, fr1⟩ := ((J2.out.alloc _).drew.keep hg (by simp; omega)).two; obtain ⟨s0, s1, fs0, fs1⟩ := ((K2.out.alloc _).drew.keep hg (by simp; omega)).two; have hB3 : Below w.heap.size w w3 := ((hB2.alloc hB2.size _).drew).trans (below_of_grown hg (by have := hB2.size; simp; omega) (fun k hk => by injection hk with hk; omega)); clear hg))
  all_goals
    go_wp2
    refine bodyPost_ret (v := .tuple #[.agg #[.int .i64 a, .int .i64 h], .agg #[.int .i64 nn, .int .i64 dd]]) (by simp [results, Try.results15, go_sem, *]) rfl ⟨a, h, nn, dd, rfl, a0, a1, h0, h1, n0, n1, d0, d1, ?_⟩
    go_grown
end Go.Proofs.Ytbbipieadjggkaa
