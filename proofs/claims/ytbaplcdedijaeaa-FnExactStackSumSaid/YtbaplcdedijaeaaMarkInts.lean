/-
  Contracts of markIntS, markIntSS and heldIntS: numbers are written into rows, and read again.
-/
import Derived.Test.YtbaplcdedijaeaaToRows
namespace Go.Proofs.Ytbaplcdedijaeaa
open Go.RowKit

/-- block g holds at least n cells -/
def Has (w : World) (g n : Nat) : Prop := ∃ cs, Blk w g 3 cs ∧ n ≤ cs.size
theorem Has.lt {w : World} {g n : Nat} (h : Has w g n) : g < w.heap.size := by
  obtain ⟨_, hb, _⟩ := h
  exact hb.lt
theorem Has.set {w : World} {g n : Nat} (h : Has w g n) (g' j : Nat) (u : Value) : Has (w.setCell ⟨g', j, none⟩ u) g n := by
  obtain ⟨cs, hb, hs⟩ := h
  by_cases e : g = g'
  · subst e
    exact ⟨_, hb.put _ _, by simpa using hs⟩
  · exact ⟨cs, hb.away (p := ⟨g', j, none⟩) e _, hs⟩
theorem Has.same {w w' : World} {g n : Nat} (h : Has w g n) (hs : w'.heap[g]? = w.heap[g]?) : Has w' g n := by
  obtain ⟨cs, hb, hz⟩ := h
  exact ⟨cs, hs.trans hb, hz⟩
theorem RowI.has {w : World} {g n : Nat} {l : List Int} (h : RowI w g 3 n l) : Has w g n := by
  obtain ⟨_, cs, hb, hs, _⟩ := h
  exact ⟨cs, hb, hs⟩
theorem RowE.has {w : World} {g : Nat} {l : List Int} (h : RowE w g 3 l) : Has w g l.length := ⟨_, h, by simp [ints]⟩
/-- the marks from k on -/
def mkI (k : Int) (n : Nat) : List Int := (List.range n).map fun (i : Nat) => k + (i : Int)
theorem mkI_len (k : Int) (n : Nat) : (mkI k n).length = n := by simp [mkI]
theorem mkI_ix {k : Int} {n i : Nat} (h : i < n) : ix (mkI k n) i = k + (i : Int) := by
  rw [ix_eq (by rw [mkI_len]; exact h)]
  simp [mkI]
/-- the first j cells of block g are marked -/
def Mkd (w : World) (g n j : Nat) (k : Int) : Prop := ∃ cs, Blk w g 3 cs ∧ n ≤ cs.size ∧ ∀ i, i < j → cs[i]? = some (.int .i64 (ix (mkI k n) i))
theorem Mkd.step {w : World} {g n j : Nat} {k x : Int} (h : Mkd w g n j k) (hj : j < n) (hx : x = k + (j : Int)) : Mkd (w.setCell ⟨g, j, none⟩ (.int .i64 x)) g n (j + 1) k := by
  obtain ⟨cs, hb, hs, hc⟩ := h
  refine ⟨_, hb.put _ _, by simpa using hs, fun i hi => ?_⟩
  rw [Array.getElem?_setIfInBounds]
  by_cases e : j = i
  · subst e
    rw [if_pos rfl, if_pos (by omega), mkI_ix hj, hx]
  · rw [if_neg e]
    exact hc i (by omega)
def MarkI (g n : Nat) (k : Int) (w : World) (e : Ending) (w' : World) : Prop :=
  e = .returned (.int .i64 (k + n)) ∧ (0 < n → RowI w' g 3 n (mkI k n)) ∧ w.grownBy w' (some g) ∧ w'.heap.size = w.heap.size ∧ ∀ g' m, Has w g' m → Has w' g' m
def MarkIRel (g n : Nat) (k : Int) (w : World) (kv i : Value) (wr : World) : Prop :=
  ∃ j : Nat, j ≤ n ∧ i = .int .i64 j ∧ kv = .int .i64 (k + j) ∧ (0 < n → Mkd wr g n j k) ∧ w.grownBy wr (some g) ∧ wr.heap.size = w.heap.size ∧ ∀ g' m, Has w g' m → Has wr g' m

theorem only_put {a w : World} {g : Nat} (h : a.grownBy w (some g)) (j : Nat) (u : Value) : a.grownBy (w.setCell ⟨g, j, none⟩ u) (some g) :=
  ⟨h.os, h.tape, h.output, by simpa [World.setCell] using h.size, fun i hi hne => (Below.heap_setCell w ⟨g, j, none⟩ u i (by
    rintro rfl
    exact hne rfl)).trans (h.block i hi hne)⟩

set_option maxHeartbeats 1000000 in
theorem c_markIntS (A : Option Addr) (g n c : Nat) (k : Int) (w : World) (hn : n ≤ 2000000) (hk0 : 0 ≤ k) (hk1 : k ≤ 1000000000000000) (h : 0 < n → A = some ⟨g, 0, none⟩ ∧ Has w g n) :
    Calls Try.prog 26 #[.slice A n c, .int .i64 k] w (MarkI g n k w) := by
  have HA := Lib.hid (fun h0 => (h h0).1)
  have HB := Lib.hid (show 0 < n → Mkd w g n 0 k from fun h0 => by
    obtain ⟨cs, hb, hs⟩ := (h h0).2
    exact ⟨cs, hb, hs, fun i hi => absurd hi (by omega)⟩)
  clear h
  go_enter Try.func26, Try.ntmps26
  go_wp2
  go_loopw [1, 5] (fun kv i wr => MarkIRel g n k w kv i wr) (fun _ i _ => n - (intOf i).toNat)
  case atStart => exact ⟨0, Nat.zero_le _, rfl, by simp, HB.out, World.grownBy.refl w _, rfl, fun _ _ h => h⟩
  case round =>
    obtain ⟨j, hj, rfl, rfl, hb, hg, hs, hh⟩ := hrel
    have HBJ := Lib.hid hb
    have HG := Lib.hid hg
    have HS := Lib.hid hs
    have HH := Lib.hid hh
    clear hb hg hs hh
    by_cases hlt : j < n
    · have HM := Lib.hid (HBJ.out (by omega))
      obtain ⟨cs, hblk, hsz, _⟩ := HM.out
      obtain rfl := HA.out (by omega)
      obtain ⟨v0, hv0⟩ : ∃ v, wr.cell? ⟨g, j, none⟩ = some v := ⟨cs[j]'(by omega), by rw [hblk.cell, Array.getElem?_eq_getElem]⟩
      have hf0 := hblk.frozen j
      clear hblk hsz HBJ
      go_wp2
      go_roundw
      case rel => exact ⟨j + 1, by omega, by go_num, by go_num, fun _ => HM.out.step hlt rfl, only_put HG.out _ _, by simpa using HS.out, fun g' m h => (HH.out g' m h).set _ _ _⟩
      case measure => simp [intOf]; omega
    · obtain rfl : j = n := by omega
      go_wp2
      go_ret
      exact ⟨rfl, fun h0 => ⟨mkI_len _ _, HBJ.out h0⟩, HG.out, HS.out, HH.out⟩

/-- blocks above lo and below hi alone have turned -/
structure Off (lo hi : Nat) (w w' : World) : Prop where
  below : Below (lo + 1) w w'
  above : ∀ k, hi ≤ k → w'.heap[k]? = w.heap[k]?
  size : w'.heap.size = w.heap.size
theorem Off.refl (lo hi : Nat) (w : World) : Off lo hi w w := ⟨Below.refl _ _, fun _ _ => rfl, rfl⟩
theorem Off.step {lo hi g : Nat} {w a b : World} (h : Off lo hi w a) (hg : a.grownBy b (some g)) (hs : b.heap.size = a.heap.size) (h1 : lo < g) (h2 : g < hi) : Off lo hi w b := by
  refine ⟨⟨hg.os.trans h.below.os, hg.tape.trans h.below.tape, hg.output.trans h.below.output, by rw [hs]; exact h.below.size, fun k hk => ?_⟩, fun k hk => ?_, hs.trans h.size⟩
  · rcases Nat.lt_or_ge k a.heap.size with hl | hl
    · exact (hg.block k hl (by simp; omega)).trans (h.below.block k hk)
    · rw [Array.getElem?_eq_none (by omega), Array.getElem?_eq_none (by rw [← h.size]; omega)]
  · rcases Nat.lt_or_ge k a.heap.size with hl | hl
    · exact (hg.block k hl (by simp; omega)).trans (h.above k hk)
    · rw [Array.getElem?_eq_none (by omega), Array.getElem?_eq_none (by rw [← h.size]; omega)]
/-- each row lies in a block of its own between lo and hi -/
def Rows_ (lo hi : Nat) (w : World) (rs : List RV) : Prop := ∀ i, i < rs.length → ∃ g, (rv rs i).A = some ⟨g, 0, none⟩ ∧ lo < g ∧ g < hi ∧ Has w g (rv rs i).n ∧ (rv rs i).n ≤ 2000000
theorem Home.rows {B : Nat} {w : World} {rs : List RV} (h : Home B w rs) : Rows_ B w.heap.size w rs := fun i hi => by
  obtain ⟨g, e, h1, hR, hl, _, hm⟩ := h _ (rv_mem hi)
  exact ⟨g, e, h1, Blk.lt hR, by rw [← hl]; exact hR.has, hm⟩
theorem Rows_.below {lo hi : Nat} {w w' : World} {rs : List RV} (h : Rows_ lo hi w rs) (hb : Below hi w w') : Rows_ lo hi w' rs := fun i hi' => by
  obtain ⟨g, e, h1, h2, h3, hm⟩ := h i hi'
  exact ⟨g, e, h1, h2, h3.same (hb.block g h2), hm⟩
theorem Rows_.has {lo hi : Nat} {w w' : World} {rs : List RV} (h : Rows_ lo hi w rs) (hh : ∀ g' m, Has w g' m → Has w' g' m) : Rows_ lo hi w' rs := fun i hi' => by
  obtain ⟨g, e, h1, h2, h3, hm⟩ := h i hi'
  exact ⟨g, e, h1, h2, hh _ _ h3, hm⟩
def MarkR (lo hi : Nat) (w : World) (e : Ending) (w' : World) : Prop := ∃ x : Int, e = .returned (.int .i64 x) ∧ 0 ≤ x ∧ Off lo hi w w'

set_option maxHeartbeats 1000000 in
theorem c_markIntSS (lo hi n c : Nat) (rs : List RV) (w : World) (hn : n ≤ 2000000) (h : RdR w (some ⟨lo, 0, none⟩) n rs) (hr : Rows_ lo hi w rs) :
    Calls Try.prog 25 #[.slice (some ⟨lo, 0, none⟩) n c, .int .i64 1] w (MarkR lo hi w) := by
  have HC := Lib.hid (show ∀ i, i < n → w.cell? ⟨lo, 0 + i, none⟩ = some (.slice (rv rs i).A (rv rs i).n (rv rs i).c) from fun i hi => by
    obtain ⟨b, off, e, _, hc⟩ := h.at_ (by omega)
    injection e with e
    injection e with e1 e2
    subst e1 e2
    exact hc i hi)
  have HL := Lib.hid h.len
  have HR := Lib.hid hr
  clear h hr
  go_enter Try.func25, Try.ntmps25
  go_wp2
  go_loopw [1, 5] (fun kv i wr => ∃ (j : Nat) (x : Int), j ≤ n ∧ i = .int .i64 j ∧ kv = .int .i64 x ∧ 0 ≤ x ∧ x ≤ 1 + 2000000 * (j : Int) ∧ Rows_ lo hi wr rs ∧ Off lo hi w wr) (fun _ i _ => n - (intOf i).toNat)
  case atStart => exact ⟨0, 1, Nat.zero_le _, rfl, rfl, by omega, by omega, HR.out, Off.refl _ _ _⟩
  case round =>
    obtain ⟨j, x, hj, rfl, rfl, x0, x1, hR, hO⟩ := hrel
    have HR2 := Lib.hid hR
    have HO := Lib.hid hO
    clear hR hO
    by_cases hlt : j < n
    · have hc := HC.out j hlt
      rw [Nat.zero_add, ← HO.out.below.cell (p := ⟨lo, j, none⟩) (by simp)] at hc
      obtain ⟨g, e, h1, h2, h3, hm⟩ := HR2.out j (by rw [HL.out]; exact hlt)
      rw [e] at hc
      have H3 := Lib.hid h3
      clear h3 e
      go_wp2_with fail
      refine (c_markIntS _ g (rv rs j).n _ x _ hm x0 (by omega) (fun _ => ⟨rfl, H3.out⟩)).mono ?_
      rintro e w2 ⟨rfl, _, hg, hs, hh⟩
      have HR3 := Lib.hid (HR2.out.has hh)
      have HO3 := Lib.hid (HO.out.step hg hs h1 h2)
      clear hg hs hh HR2 HO H3
      go_wp2
      go_roundw
      case rel => exact ⟨j + 1, x + (rv rs j).n, by omega, by go_num, rfl, by omega, by push_cast; omega, HR3.out, HO3.out⟩
      case measure => simp [intOf]; omega
    · obtain rfl : j = n := by omega
      go_wp2
      go_ret
      exact ⟨x, rfl, x0, HO.out⟩

set_option maxHeartbeats 1000000 in
theorem c_heldIntS (A : Option Addr) (n c : Nat) (k : Int) (w : World) (hn : n ≤ 2000000) (hk0 : 0 ≤ k) (hk1 : k ≤ 1000000000000000) (h : RdI w A n (mkI k n)) :
    Calls Try.prog 27 #[.slice A n c, .int .i64 k] w fun e w' => e = .returned (.int .i64 (k + n)) ∧ w = w' := by
  have HA := Lib.hid h.at_
  clear h
  go_enter Try.func27, Try.ntmps27
  go_wp2
  go_loop [1, 5] (fun kv i => ∃ j : Nat, j ≤ n ∧ i = .int .i64 j ∧ kv = .int .i64 (k + j)) (fun _ i => n - (intOf i).toNat)
  case atStart => exact ⟨0, Nat.zero_le _, rfl, by simp⟩
  case round =>
    obtain ⟨j, hj, rfl, rfl⟩ := hrel
    by_cases hlt : j < n
    · obtain ⟨b, off, rfl, hb, hc⟩ := HA.out (by omega)
      have hc0 := hc j hlt
      rw [mkI_ix hlt] at hc0
      clear hc
      have e1 : (k + (j : Int) != k + (j : Int)) = false := by simp
      go_wp2
      go_round
      case rel => exact ⟨j + 1, by omega, by go_num, by go_num⟩
      case measure => simp [intOf]; omega
    · obtain rfl : j = n := by omega
      go_wp2
      go_ret
      exact ⟨rfl, rfl⟩

theorem mark_rdI {w w' : World} {g n : Nat} {A : Option Addr} (h : 0 < n → A = some ⟨g, 0, none⟩ ∧ Has w g n) (h' : 0 < n → RowI w' g 3 n (mkI 1 n)) : RdI w' A n (mkI 1 n) := by
  rcases Nat.eq_zero_or_pos n with h0 | h0
  · subst h0
    exact RdI.nil _ _
  · obtain ⟨rfl, _⟩ := h h0
    exact (h' h0).rd
theorem OwnI.home {w : World} {base : Nat} {A : Option Addr} {n c : Nat} {l : List Int} (h : OwnI w base 3 (.slice A n c) n l) : ∃ g, base ≤ g ∧ (0 < n → A = some ⟨g, 0, none⟩ ∧ Has w g n) := by
  obtain ⟨A', c', hv, _, _, _, hr⟩ := h.form
  injection hv with hv1 hv2
  subst hv1
  rcases Nat.eq_zero_or_pos n with h0 | h0
  · exact ⟨base, Nat.le_refl _, fun h => absurd h (by omega)⟩
  · obtain ⟨g, e, hb, hrow⟩ := hr h0
    exact ⟨g, hb, fun _ => ⟨e, hrow.has⟩⟩
end Go.Proofs.Ytbaplcdedijaeaa
