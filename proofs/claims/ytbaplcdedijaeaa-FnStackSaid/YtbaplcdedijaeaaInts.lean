/-
  Words for memory: slices of integers, and slices of such slices, as lists. No program in sight.
-/
import Derived.Test.YtbaplcdedijaeaaWords
import Derived.OwnWalk
import Derived.WalkSmall
import Derived.Laws.OwnMore
namespace Go.Proofs.Ytbaplcdedijaeaa
open Go.RowKit

/-- The number at place i: a name that the walk does not open. -/
def ix (l : List Int) (i : Nat) : Int := l.getD i 0
theorem ix_eq {l : List Int} {i : Nat} (h : i < l.length) : ix l i = l[i] := by simp [ix, h]

/-- The slice at A of length n holds the numbers of l. -/
structure RdI (w : World) (A : Option Addr) (n : Nat) (l : List Int) : Prop where
  len : l.length = n
  at_ : 0 < n → ∃ b off, A = some ⟨b, off, none⟩ ∧ b < w.heap.size ∧ ∀ i, i < n → w.cell? ⟨b, off + i, none⟩ = some (.int .i64 (ix l i))
theorem RdI.keep {w w' : World} {A : Option Addr} {n : Nat} {l : List Int} (h : RdI w A n l) (hs : w.heap.size ≤ w'.heap.size) (hk : ∀ b, b < w.heap.size → w'.heap[b]? = w.heap[b]?) : RdI w' A n l :=
  ⟨h.len, fun hn => by
    obtain ⟨b, off, e, hlt, hc⟩ := h.at_ hn
    refine ⟨b, off, e, Nat.lt_of_lt_of_le hlt hs, fun i hi => ?_⟩
    exact (World.cell?_of_block (w := w) (hk b hlt)).trans (hc i hi)⟩
theorem RdI.below {w w' : World} {A : Option Addr} {n : Nat} {l : List Int} (h : RdI w A n l) (hb : Below w.heap.size w w') : RdI w' A n l := h.keep hb.size hb.block
theorem RdI.nil (w : World) (A : Option Addr) : RdI w A 0 [] := ⟨rfl, fun h => absurd h (by omega)⟩
theorem RdI.drew {w : World} {A : Option Addr} {n : Nat} {l : List Int} (h : RdI w A n l) : RdI w.drew A n l := ⟨h.len, h.at_⟩

def ints (l : List Int) : List Value := l.map fun x => .int .i64 x
theorem ints_app (l m : List Int) : ints (l ++ m) = ints l ++ ints m := by simp [ints]
theorem ints_len (l : List Int) : (ints l).length = l.length := by simp [ints]
theorem ints_at (l : List Int) (k : Nat) (hk : k < l.length) : (ints l)[k]? = some (.int .i64 (ix l k)) := by simp [ints, ix_eq hk, hk]
theorem ints_one (l : List Int) : ∀ u ∈ ints l, u.oneCell' = true := by
  intro u hu
  simp only [ints, List.mem_map] at hu
  obtain ⟨p, _, rfl⟩ := hu
  rfl

/-- The slice value v of length n is a row of the call's own (blocks from base on) that reads l. -/
structure OwnI (w : World) (base : Nat) (t : TypeId) (v : Value) (n : Nat) (l : List Int) : Prop where
  own : w.ownsRow base t 1 v n (ints l)
  len : l.length = n
/-- a row of numbers in a block of its own -/
def RowI (w : World) (g : Nat) (t : TypeId) (n : Nat) (l : List Int) : Prop :=
  l.length = n ∧ ∃ cs, Blk w g t cs ∧ n ≤ cs.size ∧ ∀ i, i < n → cs[i]? = some (.int .i64 (ix l i))
theorem RowI.rd {w : World} {g : Nat} {t : TypeId} {n : Nat} {l : List Int} (h : RowI w g t n l) : RdI w (some ⟨g, 0, none⟩) n l := by
  obtain ⟨hl, cs, hb, _, hc⟩ := h
  refine ⟨hl, fun _ => ⟨g, 0, rfl, hb.lt, fun i hi => ?_⟩⟩
  rw [Nat.zero_add, hb.cell]
  exact hc i hi
theorem RowI.below {w w' : World} {g : Nat} {t : TypeId} {n : Nat} {l : List Int} (h : RowI w g t n l) (hb : Below w.heap.size w w') : RowI w' g t n l := by
  obtain ⟨hl, cs, hg, hr⟩ := h
  exact ⟨hl, cs, hg.below hb hg.lt, hr⟩
theorem OwnI.form {w : World} {base : Nat} {t : TypeId} {v : Value} {n : Nat} {l : List Int} (h : OwnI w base t v n l) :
    ∃ A c, v = .slice A n c ∧ n ≤ c ∧ c ≤ maxLen ∧ RdI w A n l ∧ (0 < n → ∃ g, A = some ⟨g, 0, none⟩ ∧ base ≤ g ∧ RowI w g t n l) := by
  obtain ⟨ho, hl⟩ := h
  rcases ho.2 with ⟨rfl, rfl⟩ | ⟨g, cap, cur, rfl, hb, hh, hn, hc, hs, ht⟩
  · obtain rfl : l = [] := List.eq_nil_of_length_eq_zero hl
    exact ⟨none, 0, rfl, Nat.le_refl _, Nat.zero_le _, RdI.nil _ _, fun h => absurd h (by omega)⟩
  · have hr : RowI w g t n l := by
      have hsz : n ≤ cur.size := by rw [hs]; omega
      refine ⟨hl, cur, hh, hsz, fun i hi => ?_⟩
      have := ints_at l i (by omega)
      rw [← ht, List.getElem?_take, if_pos (by omega)] at this
      simpa using this
    exact ⟨_, _, rfl, hn, hc, hr.rd, fun _ => ⟨g, rfl, hb, hr⟩⟩
theorem OwnI.empty (w : World) (t : TypeId) {base : Nat} (hb : base ≤ w.heap.size) : OwnI (w.alloc (.cells #[] t)) base t (.slice (some ⟨w.heap.size, 0, none⟩) 0 0) 0 [] :=
  ⟨⟨rfl, .inr ⟨w.heap.size, 0, #[], rfl, hb, heap_alloc_new w _, Nat.le_refl _, Nat.zero_le _, rfl, rfl⟩⟩, rfl⟩
theorem OwnI.nil (w : World) (t : TypeId) (base : Nat) : OwnI w base t (.slice none 0 0) 0 [] := ⟨⟨rfl, .inl ⟨rfl, rfl⟩⟩, rfl⟩
theorem OwnI.of_same {w w' : World} {base : Nat} {t : TypeId} {v : Value} {n : Nat} {l : List Int} (h : OwnI w base t v n l) (hs : ∀ k, base ≤ k → k < w.heap.size → w'.heap[k]? = w.heap[k]?) : OwnI w' base t v n l := by
  obtain ⟨⟨h1, h2⟩, hl⟩ := h
  refine ⟨⟨h1, ?_⟩, hl⟩
  rcases h2 with h2 | ⟨g, cap, cur, rfl, hb, hh, hr⟩
  · exact .inl h2
  · have hlt : g < w.heap.size := by
      rcases Nat.lt_or_ge g w.heap.size with h | h
      · exact h
      · rw [Array.getElem?_eq_none h] at hh; cases hh
    exact .inr ⟨g, cap, cur, rfl, hb, (hs g hb hlt).trans hh, hr⟩
theorem OwnI.grown {w w' : World} {base : Nat} {t : TypeId} {v : Value} {n : Nat} {l : List Int} (h : OwnI w base t v n l) {g : Nat} (hg : w.grownBy w' (some g)) (hlt : g < base) : OwnI w' base t v n l :=
  h.of_same fun k hk hk2 => hg.block k hk2 (by simp; omega)
theorem OwnI.alloc {w : World} {base : Nat} {t : TypeId} {v : Value} {n : Nat} {l : List Int} (h : OwnI w base t v n l) (o : Obj) : OwnI (w.alloc o) base t v n l :=
  h.of_same fun k _ hk2 => Below.heap_alloc w o k hk2
theorem OwnI.below {w w' : World} {base : Nat} {t : TypeId} {v : Value} {n : Nat} {l : List Int} (h : OwnI w base t v n l) (hb : Below w.heap.size w w') : OwnI w' base t v n l :=
  h.of_same fun k _ hk2 => hb.block k hk2
theorem OwnI.block {w : World} {base : Nat} {t : TypeId} {v : Value} {n : Nat} {l : List Int} (h : OwnI w base t v n l) {g : Nat} (hg : v.ownBlock = some g) : base ≤ g := by
  rcases h.own.2 with ⟨rfl, _⟩ | ⟨g', cap, cur, rfl, hb, _⟩
  · cases hg
  · have : g' = g := by simpa [Value.ownBlock] using hg
    omega

/-- a row among rows: its slice and what it reads -/
structure RV where
  A : Option Addr
  n : Nat
  c : Nat
  l : List Int
def rv (rs : List RV) (i : Nat) : RV := rs.getD i ⟨none, 0, 0, []⟩
theorem rv_eq {rs : List RV} {i : Nat} (h : i < rs.length) : rv rs i = rs[i] := by simp [rv, h]
theorem rv_mem {rs : List RV} {i : Nat} (h : i < rs.length) : rv rs i ∈ rs := by rw [rv_eq h]; exact List.getElem_mem h
/-- what the rows read -/
def vals (rs : List RV) : List (List Int) := rs.map (·.l)
/-- each row reads its numbers -/
def RdAll (w : World) (rs : List RV) : Prop := ∀ r ∈ rs, RdI w r.A r.n r.l ∧ r.n ≤ r.c
/-- The slice at A of length n holds the rows rs. -/
structure RdR (w : World) (A : Option Addr) (n : Nat) (rs : List RV) : Prop where
  len : rs.length = n
  at_ : 0 < n → ∃ b off, A = some ⟨b, off, none⟩ ∧ b < w.heap.size ∧ ∀ i, i < n → w.cell? ⟨b, off + i, none⟩ = some (.slice (rv rs i).A (rv rs i).n (rv rs i).c)
  rows : RdAll w rs
theorem RdAll.below {w w' : World} {rs : List RV} (h : RdAll w rs) (hb : Below w.heap.size w w') : RdAll w' rs := fun r hr => ⟨(h r hr).1.below hb, (h r hr).2⟩
theorem RdR.below {w w' : World} {A : Option Addr} {n : Nat} {rs : List RV} (h : RdR w A n rs) (hb : Below w.heap.size w w') : RdR w' A n rs :=
  ⟨h.len, fun hn => by
    obtain ⟨b, off, e, hlt, hc⟩ := h.at_ hn
    refine ⟨b, off, e, Nat.lt_of_lt_of_le hlt hb.size, fun i hi => ?_⟩
    rw [hb.cell (p := ⟨b, off + i, none⟩) hlt]
    exact hc i hi, h.rows.below hb⟩
theorem RdR.row {w : World} {A : Option Addr} {n : Nat} {rs : List RV} (h : RdR w A n rs) {i : Nat} (hi : i < n) : RdI w (rv rs i).A (rv rs i).n (rv rs i).l ∧ (rv rs i).n ≤ (rv rs i).c :=
  h.rows _ (rv_mem (by have := h.len; omega))
theorem vals_len (rs : List RV) : (vals rs).length = rs.length := by simp [vals]
theorem vals_at {rs : List RV} {i : Nat} (h : i < rs.length) : (vals rs)[i]'(by simpa [vals] using h) = (rv rs i).l := by simp [vals, rv_eq h]
end Go.Proofs.Ytbaplcdedijaeaa
