/-
  Rows of pairs that a call itself makes and appends to: how they read as lists. No program in sight.
-/
import Derived.Test.YtbaplcdedijaeaaWords
import Derived.OwnWalk
import Derived.WalkSmall
import Derived.Laws.OwnMore
namespace Go.Proofs.Ytbaplcdedijaeaa
open Go.RowKit

def flat (l : List (Int × Int)) : List Value := l.flatMap fun p => [.int .i64 p.1, .int .i64 p.2]
theorem flat_nil : flat [] = [] := rfl
theorem flat_cons (p : Int × Int) (l : List (Int × Int)) : flat (p :: l) = .int .i64 p.1 :: .int .i64 p.2 :: flat l := rfl
theorem flat_app (l m : List (Int × Int)) : flat (l ++ m) = flat l ++ flat m := by simp [flat]
theorem flat_len (l : List (Int × Int)) : (flat l).length = l.length * 2 := by
  induction l with
  | nil => rfl
  | cons p l ih => rw [flat_cons]; simp [ih]; omega
theorem flat_at (l : List (Int × Int)) (k : Nat) (hk : k < l.length) : (flat l)[k * 2]? = some (.int .i64 (px l k)) ∧ (flat l)[k * 2 + 1]? = some (.int .i64 (py l k)) := by
  induction l generalizing k with
  | nil => simp at hk
  | cons p l ih =>
    cases k with
    | zero => simp [flat_cons, px, py]
    | succ k =>
      have := ih k (by simpa using hk)
      rw [flat_cons, show (k + 1) * 2 = k * 2 + 1 + 1 by omega]
      simpa [px, py] using this
theorem flat_one (l : List (Int × Int)) : ∀ u ∈ flat l, u.oneCell' = true := by
  intro u hu
  simp only [flat, List.mem_flatMap, List.mem_cons, List.not_mem_nil, or_false] at hu
  obtain ⟨p, _, rfl | rfl⟩ := hu <;> rfl
theorem one_two (x y : Int) : ∀ u ∈ [Value.int .i64 x, Value.int .i64 y], u.oneCell' = true := by
  intro u hu
  simp only [List.mem_cons, List.not_mem_nil, or_false] at hu
  rcases hu with rfl | rfl <;> rfl

/-- The slice value v of length n is a row of the call's own (blocks from base on) that reads l. -/
structure OwnP (w : World) (base : Nat) (t : TypeId) (v : Value) (n : Nat) (l : List (Int × Int)) : Prop where
  own : w.ownsRow base t 2 v n (flat l)
  len : l.length = n

theorem OwnP.push {w w' : World} {base : Nat} {t : TypeId} {v v' : Value} {n : Nat} {l : List (Int × Int)} (h : OwnP w base t v n l) {x y : Int} (h' : w'.ownsRow base t 2 v' (n + 1) (flat l ++ [.int .i64 x, .int .i64 y])) : OwnP w' base t v' (n + 1) (l ++ [(x, y)]) :=
  ⟨by rw [flat_app]; exact h', by simp [h.len]⟩
theorem OwnP.form {w : World} {base : Nat} {t : TypeId} {v : Value} {n : Nat} {l : List (Int × Int)} (h : OwnP w base t v n l) :
    ∃ A c, v = .slice A n c ∧ n ≤ c ∧ c ≤ maxLen ∧ RdP w A n l ∧ (0 < n → ∃ g, A = some ⟨g, 0, none⟩ ∧ base ≤ g ∧ RowP w g t n l) := by
  obtain ⟨ho, hl⟩ := h
  rcases ho.2 with ⟨rfl, rfl⟩ | ⟨g, cap, cur, rfl, hb, hh, hn, hc, hs, ht⟩
  · obtain rfl : l = [] := List.eq_nil_of_length_eq_zero hl
    exact ⟨none, 0, rfl, Nat.le_refl _, Nat.zero_le _, RdP.nil _ _, fun h => absurd h (by omega)⟩
  · have hr : RowP w g t n l := by
      have hsz : n * 2 ≤ cur.size := by rw [hs]; exact Nat.mul_le_mul_right 2 hn
      refine ⟨hl, cur, hh, hsz, fun i hi => ?_⟩
      have := flat_at l i (by omega)
      rw [← ht, List.getElem?_take, List.getElem?_take, if_pos (by omega), if_pos (by omega)] at this
      simpa using this
    exact ⟨_, _, rfl, hn, hc, hr.rd, fun _ => ⟨g, rfl, hb, hr⟩⟩
theorem OwnP.empty (w : World) (t : TypeId) {base : Nat} (hb : base ≤ w.heap.size) : OwnP (w.alloc (.cells #[] t)) base t (.slice (some ⟨w.heap.size, 0, none⟩) 0 0) 0 [] :=
  ⟨⟨rfl, .inr ⟨w.heap.size, 0, #[], rfl, hb, heap_alloc_new w _, Nat.le_refl _, Nat.zero_le _, rfl, rfl⟩⟩, rfl⟩
theorem OwnP.nil (w : World) (t : TypeId) (base : Nat) : OwnP w base t (.slice none 0 0) 0 [] := ⟨⟨rfl, .inl ⟨rfl, rfl⟩⟩, rfl⟩
/-- a row stays over whatever turns blocks below base alone -/
theorem OwnP.of_same {w w' : World} {base : Nat} {t : TypeId} {v : Value} {n : Nat} {l : List (Int × Int)} (h : OwnP w base t v n l) (hs : ∀ k, base ≤ k → k < w.heap.size → w'.heap[k]? = w.heap[k]?) : OwnP w' base t v n l := by
  obtain ⟨⟨h1, h2⟩, hl⟩ := h
  refine ⟨⟨h1, ?_⟩, hl⟩
  rcases h2 with h2 | ⟨g, cap, cur, rfl, hb, hh, hr⟩
  · exact .inl h2
  · have hlt : g < w.heap.size := by
      rcases Nat.lt_or_ge g w.heap.size with h | h
      · exact h
      · rw [Array.getElem?_eq_none h] at hh; cases hh
    exact .inr ⟨g, cap, cur, rfl, hb, (hs g hb hlt).trans hh, hr⟩
theorem OwnP.grown {w w' : World} {base : Nat} {t : TypeId} {v : Value} {n : Nat} {l : List (Int × Int)} (h : OwnP w base t v n l) {g : Nat} (hg : w.grownBy w' (some g)) (hlt : g < base) : OwnP w' base t v n l :=
  h.of_same fun k hk hk2 => hg.block k hk2 (by simp; omega)
theorem OwnP.alloc {w : World} {base : Nat} {t : TypeId} {v : Value} {n : Nat} {l : List (Int × Int)} (h : OwnP w base t v n l) (o : Obj) : OwnP (w.alloc o) base t v n l :=
  h.of_same fun k _ hk2 => Below.heap_alloc w o k hk2
theorem OwnP.below {w w' : World} {base : Nat} {t : TypeId} {v : Value} {n : Nat} {l : List (Int × Int)} (h : OwnP w base t v n l) (hb : Below w.heap.size w w') : OwnP w' base t v n l :=
  h.of_same fun k _ hk2 => hb.block k hk2
theorem OwnP.block {w : World} {base : Nat} {t : TypeId} {v : Value} {n : Nat} {l : List (Int × Int)} (h : OwnP w base t v n l) {g : Nat} (hg : v.ownBlock = some g) : base ≤ g := by
  rcases h.own.2 with ⟨rfl, _⟩ | ⟨g', cap, cur, rfl, hb, _⟩
  · cases hg
  · have : g' = g := by simpa [Value.ownBlock] using hg
    omega

/-- one number of a row is turned: the row reads another list -/
theorem RowP.put {w : World} {g : Nat} {t : TypeId} {n : Nat} {l : List (Int × Int)} (h : RowP w g t n l) (j : Nat) (x : Int) : ∃ l', RowP (w.setCell ⟨g, j, none⟩ (.int .i64 x)) g t n l' ∧ l'.length = n := by
  obtain ⟨hl, cs, hb, hs, hc⟩ := h
  refine ⟨(List.range n).map fun i => (if i * 2 = j then x else px l i, if i * 2 + 1 = j then x else py l i), ⟨by simp, _, hb.put _ _, by simpa using hs, fun i hi => ?_⟩, by simp⟩
  obtain ⟨h0, h1⟩ := hc i hi
  rw [px_eq (by simpa using hi), py_eq (by simpa using hi)]
  simp only [Array.getElem?_setIfInBounds, List.getElem_map, List.getElem_range]
  constructor
  · by_cases e : j = i * 2
    · rw [if_pos e, if_pos (by omega), if_pos e.symm]
    · rw [if_neg e, if_neg (by omega)]; exact h0
  · by_cases e : j = i * 2 + 1
    · rw [if_pos e, if_pos (by omega), if_pos e.symm]
    · rw [if_neg e, if_neg (by omega)]; exact h1
theorem RowP.cell0 {w : World} {g : Nat} {t : TypeId} {n : Nat} {l : List (Int × Int)} (h : RowP w g t n l) (j : Nat) (hj : j < n * 2) : (∃ u, w.cell? ⟨g, j, none⟩ = some (.int .i64 u)) ∧ w.frozen? ⟨g, j, none⟩ = false := by
  obtain ⟨hl, cs, hb, hs, hc⟩ := h
  refine ⟨?_, hb.frozen _⟩
  rw [hb.cell]
  obtain ⟨h0, h1⟩ := hc (j / 2) (by omega)
  rcases Nat.mod_two_eq_zero_or_one j with e | e
  · rw [show j / 2 * 2 = j by omega] at h0; exact ⟨_, h0⟩
  · rw [show j / 2 * 2 + 1 = j by omega] at h1; exact ⟨_, h1⟩

/-- grownBy, step by step -/
theorem only_alloc {a w : World} {row : Option Nat} (h : a.grownBy w row) (o : Obj) : a.grownBy (w.alloc o) row :=
  ⟨h.os, h.tape, h.output, Nat.le_trans h.size (by simp), fun i hi hne => (Below.heap_alloc w o i (Nat.lt_of_lt_of_le hi h.size)).trans (h.block i hi hne)⟩
theorem only_setCell {a w : World} {g : Nat} (h : a.grownBy w (some g)) {p : Addr} (hp : p.block = g ∨ a.heap.size ≤ p.block) (u : Value) : a.grownBy (w.setCell p u) (some g) :=
  ⟨h.os, h.tape, h.output, by simpa [World.setCell] using h.size, fun i hi hne => (Below.heap_setCell w p u i (by
    rintro rfl
    rcases hp with hp | hp
    · exact hne (by rw [hp])
    · omega)).trans (h.block i hi hne)⟩
theorem only_below {a w w' : World} {row : Option Nat} (h : a.grownBy w row) (hb : Below w.heap.size w w') : a.grownBy w' row :=
  ⟨hb.os.trans h.os, hb.tape.trans h.tape, hb.output.trans h.output, Nat.le_trans h.size hb.size, fun i hi hne => (hb.block i (Nat.lt_of_lt_of_le hi h.size)).trans (h.block i hi hne)⟩
theorem only_same {a w w' : World} {g : Nat} (h : a.grownBy w (some g)) (hb : w.grownBy w' (some g)) : a.grownBy w' (some g) :=
  ⟨hb.os.trans h.os, hb.tape.trans h.tape, hb.output.trans h.output, Nat.le_trans h.size hb.size, fun i hi hne => (hb.block i (Nat.lt_of_lt_of_le hi h.size) hne).trans (h.block i hi hne)⟩
/-- a step that turns a row of the call's own -/
theorem only_own {a w w' : World} {g : Nat} {row : Option Nat} (h : a.grownBy w (some g)) (hb : w.grownBy w' row) (hr : ∀ k, row = some k → a.heap.size ≤ k) : a.grownBy w' (some g) :=
  ⟨hb.os.trans h.os, hb.tape.trans h.tape, hb.output.trans h.output, Nat.le_trans h.size hb.size, fun i hi hne => (hb.block i (Nat.lt_of_lt_of_le hi h.size) (fun e => by have := hr _ e.symm; omega)).trans (h.block i hi hne)⟩
/-- from 'only block g' to Below, g being new -/
theorem only_to_below {a b w : World} {g B : Nat} (h : b.grownBy w (some g)) (hab : Below B a b) (hg : B ≤ g) (hB : B ≤ b.heap.size) : Below B a w :=
  ⟨h.os.trans hab.os, h.tape.trans hab.tape, h.output.trans hab.output, Nat.le_trans hab.size h.size, fun i hi => (h.block i (by omega) (by simp; omega)).trans (hab.block i hi)⟩
theorem flat_set (l : List (Int × Int)) (j : Nat) (x : Int) : ∃ l', flat l' = (flat l).set j (.int .i64 x) ∧ l'.length = l.length := by
  induction l generalizing j with
  | nil => exact ⟨[], rfl, rfl⟩
  | cons p l ih =>
    match j with
    | 0 => exact ⟨(x, p.2) :: l, by simp [flat_cons], by simp⟩
    | 1 => exact ⟨(p.1, x) :: l, by simp [flat_cons], by simp⟩
    | j + 2 =>
      obtain ⟨l', h1, h2⟩ := ih j
      exact ⟨p :: l', by simp [flat_cons, h1], by simp [h2]⟩
theorem OwnP.put {w : World} {base : Nat} {t : TypeId} {g n c : Nat} {l : List (Int × Int)} (h : OwnP w base t (.slice (some ⟨g, 0, none⟩) n c) n l) (j : Nat) (x : Int) :
    ∃ l', OwnP (w.setCell ⟨g, j, none⟩ (.int .i64 x)) base t (.slice (some ⟨g, 0, none⟩) n c) n l' := by
  obtain ⟨⟨h1, h2⟩, hl⟩ := h
  obtain ⟨l', e1, e2⟩ := flat_set l j x
  refine ⟨l', ⟨⟨by rw [flat_len, e2, hl], ?_⟩, by omega⟩⟩
  rcases h2 with ⟨h2, _⟩ | ⟨g', cap, cur, hv, hb, hh, hn, hc, hs, ht⟩
  · cases h2
  · injection hv with hv1 hv2 hv3
    injection hv1 with hv1
    injection hv1 with hv1
    subst hv1 hv3
    have hb2 : Blk (w.setCell ⟨g, j, none⟩ (.int .i64 x)) g t (cur.setIfInBounds j (.int .i64 x)) := Blk.put hh _ _
    refine .inr ⟨g, c, _, rfl, hb, hb2, hn, hc, by simpa using hs, ?_⟩
    rw [e1, ← ht, Array.toList_setIfInBounds, List.take_set]
theorem OwnP.cell0 {w : World} {base : Nat} {t : TypeId} {g n c : Nat} {l : List (Int × Int)} (h : OwnP w base t (.slice (some ⟨g, 0, none⟩) n c) n l) (j : Nat) (hj : j < n * 2) :
    (∃ u, w.cell? ⟨g, j, none⟩ = some (.int .i64 u)) ∧ w.frozen? ⟨g, j, none⟩ = false := by
  obtain ⟨A, c', hv, _, _, _, hr⟩ := h.form
  obtain ⟨g', rfl, _, hr⟩ := hr (by omega)
  injection hv with hv1
  injection hv1 with hv1
  injection hv1 with hv1
  subst hv1
  exact hr.cell0 j hj
/-- a literal list of two, behind a call that turns block g alone -/
theorem lit2 {w w' : World} {g : Nat} {t : TypeId} {a b : Value} (hg : (w.alloc (.cells #[a, b] t)).grownBy w' (some g)) (hlt : g < w.heap.size) :
    w'.cell? ⟨w.heap.size, 0, none⟩ = some a ∧ w'.cell? ⟨w.heap.size, 0 + 1, none⟩ = some b := by
  have h : w'.heap[w.heap.size]? = some (.cells #[a, b] t (0, 0)) := (hg.block w.heap.size (by simp) (by simp; omega)).trans (heap_alloc_new w _)
  have hb : Blk w' w.heap.size t #[a, b] := h
  rw [hb.cell, hb.cell]
  exact ⟨rfl, rfl⟩
theorem below_of_grown {base : Nat} {w w' : World} {row : Option Nat} (hg : w.grownBy w' row) (hb : base ≤ w.heap.size) (hr : ∀ k, row = some k → base ≤ k) : Below base w w' :=
  (Below.refl _ _).grown hg hb hr
theorem only_belowAt {a w w' : World} {base : Nat} {row : Option Nat} (h : a.grownBy w row) (hb : Below base w w') (hs : a.heap.size ≤ base) : a.grownBy w' row :=
  ⟨hb.os.trans h.os, hb.tape.trans h.tape, hb.output.trans h.output, Nat.le_trans h.size hb.size, fun i hi hne => (hb.block i (by omega)).trans (h.block i hi hne)⟩
theorem below_two {w w4 w5 : World} {o1 o2 : Obj} (h4 : Below w.heap.size (w.alloc o1) w4) (h5 : Below w.heap.size (w4.alloc o2) w5) : Below w.heap.size w w5 := by
  have hs := h4.size
  simp at hs
  exact (((Below.refl _ _).alloc (Nat.le_refl _) _).trans h4).trans (((Below.refl _ _).alloc (by omega) _).trans h5)
theorem OwnP.one (w : World) (t : TypeId) (x y : Int) : OwnP (w.alloc (.cells #[.int .i64 x, .int .i64 y] t)) w.heap.size t (.slice (some ⟨w.heap.size, 0, none⟩) 1 1) 1 [(x, y)] :=
  ⟨⟨rfl, .inr ⟨w.heap.size, 1, _, rfl, Nat.le_refl _, heap_alloc_new w _, Nat.le_refl _, by unfold maxLen; omega, rfl, rfl⟩⟩, rfl⟩
theorem OwnP.rd {w : World} {base : Nat} {t : TypeId} {A : Option Addr} {n c : Nat} {l : List (Int × Int)} (h : OwnP w base t (.slice A n c) n l) : RdP w A n l := by
  obtain ⟨_, _, hv, _, _, hrd, _⟩ := h.form
  injection hv with hv1 hv2
  subst hv1
  exact hrd
/-- an operation that is wanted, guarded or not -/
theorem wpList_wanted {P : Program} {w : World} {ops : Array Oper} {rest : List Oper} {o : Oper} {a : Act} {Q : Exit → Act → World → Prop} (hw : Region.wanted o (yielded ops a.tmps) = true)
    (h : ∀ K : Act → World → Prop, (∀ a w, wpList P ops Q rest a w → K a w) → o.wp P a w K Q) : wpList P ops Q (o :: rest) a w :=
  wpList_step fun K hK => by rw [if_pos hw]; exact h K hK
/-- one pair is appended to a row of the call's own -/
theorem wpList_appendP {P : Program} {w : World} {ops : Array Oper} {rest : List Oper} {o : Oper} {a : Act} {Q : Exit → Act → World → Prop} (hgd : Region.wanted o (yielded ops a.tmps) = true) (s x : Operand) (t : TypeId)
    (ho : o.op = .call { callee := .builtin .append, args := #[s, x], argTypes := #[t, t] })
    (base : Nat) (e : TypeId) (i : TypeInfo) (z : Value) (ht : P.underlying t = some (.slice e)) (hi : P.info? e = some i) (hz : i.zero = some z)
    (hsize : i.size = 2) (hby : i.bytes = 16) (hzs : z.cells.size = 2)
    (v : Value) (n : Nat) (l : List (Int × Int)) (hs : a.eval s = v) (hO : OwnP w base e v n l)
    (ad : Addr) (x1 x2 : Int) (hx : a.eval x = .slice (some ad) 1 1) (hnews : ∀ j u, [Value.int .i64 x1, Value.int .i64 x2][j]? = some u → w.cell? (ad.add j) = some u)
    (hn : n ≤ 1000000) (hbase : base ≤ w.heap.size)
    (h : ∀ v' w', OwnP w' base e v' (n + 1) (l ++ [(x1, x2)]) → Below base w w' → wpList P ops Q rest (a.put o.dst v') w') : wpList P ops Q (o :: rest) a w :=
  wpList_wanted hgd fun _ hK => wp_append_own w s x t ho base e i z 2 16 ht hi hz hsize hby hzs (by decide) v n (flat l) hs hO.own ad 1 1 _ hx rfl hnews (one_two _ _) (by unfold maxLen; omega) (by omega) hbase
    fun v' w' h2 h3 _ => hK _ _ (h v' w' (hO.push h2) (below_of_grown h3 hbase fun _ hk => hO.block hk))
theorem run_append_nil {P : Program} {w : World} {base : Nat} {t ty e : TypeId} {i : TypeInfo} (ht : P.underlying t = some (.slice e)) (hi : P.info? e = some i)
    {v : Value} {n : Nat} {l : List (Int × Int)} (hO : OwnP w base e v n l) (c : Nat) : (Builtin.append_ #[t, t] ty #[v, .slice none 0 c]).run P w = .ok v w := by
  rcases hO.own.2 with ⟨rfl, rfl⟩ | ⟨g, cap, cur, rfl, _, _, hnc, _⟩
  · simp [Builtin.append_, run_underlying ht, sizeOf, typeInfo, hi, Builtin.lenOf, Builtin.firstCells]
  · simp [Builtin.append_, run_underlying ht, sizeOf, typeInfo, hi, Builtin.lenOf, Builtin.firstCells, hnc, storeCells]
theorem flat_cells {w : World} {b off n : Nat} {l : List (Int × Int)} (hl : l.length = n) (hc : ∀ i, i < n → w.cell? ⟨b, off + i * 2, none⟩ = some (.int .i64 (px l i)) ∧ w.cell? ⟨b, off + i * 2 + 1, none⟩ = some (.int .i64 (py l i))) :
    ∀ j u, (flat l)[j]? = some u → w.cell? ((⟨b, off, none⟩ : Addr).add j) = some u := by
  intro j u hu
  have hj : j < n * 2 := by
    have := (List.getElem?_eq_some_iff.1 hu).1
    rw [flat_len, hl] at this
    exact this
  obtain ⟨h0, h1⟩ := hc (j / 2) (by omega)
  obtain ⟨f0, f1⟩ := flat_at l (j / 2) (by omega)
  rw [add_none]
  rcases Nat.mod_two_eq_zero_or_one j with e | e
  · rw [show j / 2 * 2 = j by omega] at h0 f0
    rw [f0] at hu
    rw [h0, ← hu]
  · rw [show j / 2 * 2 + 1 = j by omega] at f1
    rw [show off + j / 2 * 2 + 1 = off + j by omega] at h1
    rw [f1] at hu
    rw [h1, ← hu]
/-- a whole list is appended to a row of the call's own -/
theorem wpList_appendL {P : Program} {w : World} {ops : Array Oper} {rest : List Oper} {o : Oper} {a : Act} {Q : Exit → Act → World → Prop} (hgd : Region.wanted o (yielded ops a.tmps) = true) (s x : Operand) (t : TypeId)
    (ho : o.op = .call { callee := .builtin .append, args := #[s, x], argTypes := #[t, t] })
    (base : Nat) (e : TypeId) (i : TypeInfo) (z : Value) (ht : P.underlying t = some (.slice e)) (hi : P.info? e = some i) (hz : i.zero = some z)
    (hsize : i.size = 2) (hby : i.bytes = 16) (hzs : z.cells.size = 2)
    (v : Value) (n : Nat) (l : List (Int × Int)) (hs : a.eval s = v) (hO : OwnP w base e v n l)
    (A : Option Addr) (m c : Nat) (k : List (Int × Int)) (hx : a.eval x = .slice A m c) (hr : RdP w A m k)
    (hn : n + m ≤ 1000000) (hbase : base ≤ w.heap.size)
    (h : ∀ v' w', OwnP w' base e v' (n + m) (l ++ k) → Below base w w' → wpList P ops Q rest (a.put o.dst v') w') : wpList P ops Q (o :: rest) a w := by
  refine wpList_wanted hgd fun K hK => ?_
  rcases A with _ | ad
  · have hm : m = 0 := by
      rcases Nat.eq_zero_or_pos m with h0 | h0
      · exact h0
      · obtain ⟨b, off, he, _⟩ := hr.at_ h0
        cases he
    subst hm
    obtain rfl : k = [] := List.eq_nil_of_length_eq_zero hr.len
    have hrun := run_append_nil (ty := o.type) ht hi hO c
    unfold Oper.wp execOp
    simp only [ho, resolve, invoke, builtin, Sem.run_bind, Sem.run_pure, Result.andThen_ok, List.map_toArray, List.map_cons, List.map_nil, hs, hx, hrun]
    exact hK _ _ (h v w (by simpa using hO) (Below.refl _ _))
  · have hcells : ∀ j u, (flat k)[j]? = some u → w.cell? (ad.add j) = some u := by
      rcases Nat.eq_zero_or_pos m with h0 | h0
      · subst h0
        obtain rfl : k = [] := List.eq_nil_of_length_eq_zero hr.len
        intro j u hu
        simp [flat] at hu
      · obtain ⟨b, off, he, _, hc⟩ := hr.at_ h0
        injection he with he
        subst he
        exact flat_cells hr.len hc
    refine wp_append_own w s x t ho base e i z 2 16 ht hi hz hsize hby hzs (by decide) v n (flat l) hs hO.own ad m c (flat k) hx (by rw [flat_len, hr.len]) hcells (flat_one _) (by unfold maxLen; omega) (by omega) hbase ?_
    intro v' w' h2 h3 _
    refine hK _ _ (h v' w' ⟨by rw [flat_app]; exact h2, by simp [hO.len, hr.len]⟩ (below_of_grown h3 hbase fun _ hk => hO.block hk))
end Go.Proofs.Ytbaplcdedijaeaa
