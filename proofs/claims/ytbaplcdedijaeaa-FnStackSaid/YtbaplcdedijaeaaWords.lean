/-
  Words for memory that all contracts of this seat use: a slice of pairs of integers that reads as a list. No program in sight.
-/
import Derived.WalkKit
import Derived.WalkSpells
import Derived.WalkLawsBesides
import Derived.Lib.Hide
namespace Go.Proofs.Ytbaplcdedijaeaa
open Go.RowKit

/-- The first and the second number of the pair at place i: names that the walk does not open. -/
def px (l : List (Int × Int)) (i : Nat) : Int := (l.getD i (0, 0)).1
def py (l : List (Int × Int)) (i : Nat) : Int := (l.getD i (0, 0)).2
theorem px_eq {l : List (Int × Int)} {i : Nat} (h : i < l.length) : px l i = l[i].1 := by simp [px, h]
theorem py_eq {l : List (Int × Int)} {i : Nat} (h : i < l.length) : py l i = l[i].2 := by simp [py, h]

/-- The slice at A of length n holds the pairs of l, two cells each. -/
structure RdP (w : World) (A : Option Addr) (n : Nat) (l : List (Int × Int)) : Prop where
  len : l.length = n
  at_ : 0 < n → ∃ b off, A = some ⟨b, off, none⟩ ∧ b < w.heap.size ∧ ∀ i, i < n →
    w.cell? ⟨b, off + i * 2, none⟩ = some (.int .i64 (px l i)) ∧ w.cell? ⟨b, off + i * 2 + 1, none⟩ = some (.int .i64 (py l i))

theorem RdP.below {w w' : World} {A : Option Addr} {n : Nat} {l : List (Int × Int)} (h : RdP w A n l) (hb : Below w.heap.size w w') : RdP w' A n l :=
  ⟨h.len, fun hn => by
    obtain ⟨b, off, e, hlt, hc⟩ := h.at_ hn
    refine ⟨b, off, e, Nat.lt_of_lt_of_le hlt hb.size, fun i hi => ?_⟩
    rw [hb.cell (p := ⟨b, off + i * 2, none⟩) hlt, hb.cell (p := ⟨b, off + i * 2 + 1, none⟩) hlt]
    exact hc i hi⟩

theorem RdP.nil (w : World) (A : Option Addr) : RdP w A 0 [] := ⟨rfl, fun h => absurd h (by omega)⟩

theorem RdP.take {w : World} {A : Option Addr} {n : Nat} {l : List (Int × Int)} (h : RdP w A n l) {k : Nat} (hk : k ≤ n) : RdP w A k (l.take k) :=
  ⟨by simp [h.len, hk], fun h0 => by
    obtain ⟨b, off, e, hlt, hc⟩ := h.at_ (by omega)
    refine ⟨b, off, e, hlt, fun i hi => ?_⟩
    have h1 := hc i (by omega)
    have hl := h.len
    rwa [px_eq (by omega), py_eq (by omega), ← List.getElem_take (j := k) (h := by simp; omega), ← px_eq, ← py_eq] at h1⟩
theorem add_none (b off k : Nat) : (⟨b, off, none⟩ : Addr).add k = ⟨b, off + k, none⟩ := by
  unfold Addr.add
  split
  · rename_i h; rw [h]; rfl
  · rfl
theorem RdP.cut {w : World} {A : Option Addr} {n : Nat} {l : List (Int × Int)} (h : RdP w A n l) {k c : Nat} (hk : k ≤ n) (hc : n ≤ c) :
    RdP w (if c = k then A else A.map (·.add (k * 2))) (n - k) (l.drop k) :=
  ⟨by simp [h.len], fun h0 => by
    obtain ⟨b, off, e, hlt, hcl⟩ := h.at_ (by omega)
    rw [if_neg (by omega), e]
    refine ⟨b, off + k * 2, by simp [add_none], hlt, fun i hi => ?_⟩
    have h1 := hcl (k + i) (by omega)
    have hl := h.len
    rw [px_eq (by omega), py_eq (by omega)] at h1
    rw [px_eq (by simp; omega), py_eq (by simp; omega)]
    simp only [List.getElem_drop]
    rw [show off + k * 2 + i * 2 = off + (k + i) * 2 by omega]
    exact h1⟩
theorem RdP.drew {w : World} {A : Option Addr} {n : Nat} {l : List (Int × Int)} (h : RdP w A n l) : RdP w.drew A n l := ⟨h.len, h.at_⟩

/-- Block g is just the cells cs of element type t, none of them frozen. -/
def Blk (w : World) (g : Nat) (t : TypeId) (cs : Array Value) : Prop := w.heap[g]? = some (.cells cs t (0, 0))
theorem Blk.lt {w : World} {g : Nat} {t : TypeId} {cs : Array Value} (h : Blk w g t cs) : g < w.heap.size := (Array.getElem?_eq_some_iff.1 h).1
theorem Blk.cell {w : World} {g : Nat} {t : TypeId} {cs : Array Value} (h : Blk w g t cs) (i : Nat) : w.cell? ⟨g, i, none⟩ = cs[i]? := cell_of_row w g i cs t (0, 0) h
theorem Blk.frozen {w : World} {g : Nat} {t : TypeId} {cs : Array Value} (h : Blk w g t cs) (i : Nat) : w.frozen? ⟨g, i, none⟩ = false := by
  unfold Blk at h
  simp [World.frozen?, h]
theorem Blk.put {w : World} {g : Nat} {t : TypeId} {cs : Array Value} (h : Blk w g t cs) (i : Nat) (u : Value) : Blk (w.setCell ⟨g, i, none⟩ u) g t (cs.setIfInBounds i u) := by
  unfold Blk at h ⊢
  simp [World.setCell, Array.getElem?_modify, h]
theorem Blk.away {w : World} {g : Nat} {t : TypeId} {cs : Array Value} (h : Blk w g t cs) {p : Addr} (hp : g ≠ p.block) (u : Value) : Blk (w.setCell p u) g t cs := (Below.heap_setCell w p u g hp).trans h
theorem Blk.below {w w' : World} {B g : Nat} {t : TypeId} {cs : Array Value} (h : Blk w g t cs) (hb : Below B w w') (hg : g < B) : Blk w' g t cs := (hb.block g hg).trans h
theorem Blk.keep {w w' : World} {g : Nat} {t : TypeId} {cs : Array Value} {row : Option Nat} (h : Blk w g t cs) (hb : w.grownBy w' row) (hg : some g ≠ row) : Blk w' g t cs := (hb.block g h.lt hg).trans h
theorem Blk.of_own {w : World} {base g n cap size : Nat} {t : TypeId} {xs : List Value} (h : w.ownsRow base t size (.slice (some ⟨g, 0, none⟩) n cap) n xs) : ∃ cs, Blk w g t cs ∧ cs.size = cap * size ∧ n ≤ cap ∧ cs.toList.take (n * size) = xs := by
  rcases h.2 with ⟨hv, _⟩ | ⟨g', cap', cur, hv, _, hh, hn, _, hs, ht⟩
  · cases hv
  · injection hv with h1 h2 h3
    injection h1 with h1
    injection h1 with h1
    subst h1 h3
    exact ⟨cur, hh, hs, hn, ht⟩

/-- A row of pairs in a block of its own, from the block's head on. -/
def RowP (w : World) (g : Nat) (t : TypeId) (n : Nat) (l : List (Int × Int)) : Prop :=
  l.length = n ∧ ∃ cs, Blk w g t cs ∧ n * 2 ≤ cs.size ∧ ∀ i, i < n → cs[i * 2]? = some (.int .i64 (px l i)) ∧ cs[i * 2 + 1]? = some (.int .i64 (py l i))
theorem RowP.rd {w : World} {g : Nat} {t : TypeId} {n : Nat} {l : List (Int × Int)} (h : RowP w g t n l) : RdP w (some ⟨g, 0, none⟩) n l := by
  obtain ⟨hl, cs, hb, _, hc⟩ := h
  refine ⟨hl, fun _ => ⟨g, 0, rfl, hb.lt, fun i hi => ?_⟩⟩
  rw [Nat.zero_add, hb.cell, hb.cell]
  exact hc i hi
theorem RowP.below {w w' : World} {g : Nat} {t : TypeId} {n : Nat} {l : List (Int × Int)} (h : RowP w g t n l) (hb : Below w.heap.size w w') : RowP w' g t n l := by
  obtain ⟨hl, cs, hg, hr⟩ := h
  exact ⟨hl, cs, hg.below hb hg.lt, hr⟩

/-- Two numbers in a range: a Bool that the walk does not open. -/
def inB (n lo hi : Int) : Bool := decide (lo ≤ n ∧ n ≤ hi)
theorem inB_true {n lo hi : Int} (h : inB n lo hi = true) : lo ≤ n ∧ n ≤ hi := by simpa [inB] using h
theorem inB_false {n lo hi : Int} (h : inB n lo hi = false) : n < lo ∨ hi < n := by
  have := of_decide_eq_false h
  omega
theorem inB_of {n lo hi : Int} (h1 : lo ≤ n) (h2 : n ≤ hi) : inB n lo hi = true := by simp [inB, h1, h2]
theorem inB_not {n lo hi : Int} (h : n < lo ∨ hi < n) : inB n lo hi = false := by
  unfold inB; rw [decide_eq_false_iff_not]; omega

theorem ret_int {k : IntKind} {a b : Int} (h : a = b) : Ending.returned (.int k a) = .returned (.int k b) := by rw [h]
theorem ret_bool {a b : Bool} (h : a = b) : Ending.returned (.bool a) = .returned (.bool b) := by rw [h]

end Go.Proofs.Ytbaplcdedijaeaa
