/-
  Appending to rows of integers and to lists of rows that a call makes itself; a row that is written number by number. No function of the program in sight.
-/
import Derived.Test.YtbaplcdedijaeaaStackMath
import Derived.WalkKit
import Derived.WalkLawsBesides
namespace Go.Proofs.Ytbaplcdedijaeaa
open Go.RowKit

theorem one_one (x : Value) (hx : x.oneCell' = true) : ∀ u ∈ [x], u.oneCell' = true := by
  intro u hu
  simp only [List.mem_cons, List.not_mem_nil, or_false] at hu
  rw [hu]; exact hx
theorem OwnI.push {w w' : World} {base : Nat} {t : TypeId} {v v' : Value} {n : Nat} {l : List Int} (h : OwnI w base t v n l) {x : Int} (h' : w'.ownsRow base t 1 v' (n + 1) (ints l ++ [.int .i64 x])) : OwnI w' base t v' (n + 1) (l ++ [x]) :=
  ⟨by rw [ints_app]; exact h', by simp [h.len]⟩
theorem OwnI.rd {w : World} {base : Nat} {t : TypeId} {A : Option Addr} {n c : Nat} {l : List Int} (h : OwnI w base t (.slice A n c) n l) : RdI w A n l := by
  obtain ⟨_, _, hv, _, _, hrd, _⟩ := h.form
  injection hv with hv1 hv2
  subst hv1
  exact hrd
theorem wantedL {P : Program} {w : World} {ops : Array Oper} {rest : List Oper} {o : Oper} {a : Act} {Q : Exit → Act → World → Prop} (hw : Region.wanted o (yielded ops a.tmps) = true)
    (h : ∀ K : Act → World → Prop, (∀ a w, wpList P ops Q rest a w → K a w) → o.wp P a w K Q) : wpList P ops Q (o :: rest) a w :=
  wpList_step fun K hK => by rw [if_pos hw]; exact h K hK
theorem below_grown {base : Nat} {w w' : World} {row : Option Nat} (hg : w.grownBy w' row) (hb : base ≤ w.heap.size) (hr : ∀ k, row = some k → base ≤ k) : Below base w w' :=
  (Below.refl _ _).grown hg hb hr
/-- one number is appended to a row of the call's own -/
theorem wpList_appendI {P : Program} {w : World} {ops : Array Oper} {rest : List Oper} {o : Oper} {a : Act} {Q : Exit → Act → World → Prop} (hgd : Region.wanted o (yielded ops a.tmps) = true) (s x : Operand) (t : TypeId)
    (ho : o.op = .call { callee := .builtin .append, args := #[s, x], argTypes := #[t, t] })
    (base : Nat) (e : TypeId) (i : TypeInfo) (z : Value) (ht : P.underlying t = some (.slice e)) (hi : P.info? e = some i) (hz : i.zero = some z)
    (hsize : i.size = 1) (hby : i.bytes = 8) (hzs : z.cells.size = 1)
    (v : Value) (n : Nat) (l : List Int) (hs : a.eval s = v) (hO : OwnI w base e v n l)
    (ad : Addr) (x1 : Int) (hx : a.eval x = .slice (some ad) 1 1) (hnews : ∀ j u, [Value.int .i64 x1][j]? = some u → w.cell? (ad.add j) = some u)
    (hn : n ≤ 4000000) (hbase : base ≤ w.heap.size)
    (h : ∀ v' w', OwnI w' base e v' (n + 1) (l ++ [x1]) → Below base w w' → wpList P ops Q rest (a.put o.dst v') w') : wpList P ops Q (o :: rest) a w :=
  wantedL hgd fun _ hK => wp_append_own w s x t ho base e i z 1 8 ht hi hz hsize hby hzs (by decide) v n (ints l) hs hO.own ad 1 1 _ hx rfl hnews (one_one _ rfl) (by unfold maxLen; omega) (by omega) hbase
    fun v' w' h2 h3 _ => hK _ _ (h v' w' (hO.push h2) (below_grown h3 hbase fun _ hk => hO.block hk))
theorem ints_cells {w : World} {b off n : Nat} {l : List Int} (hl : l.length = n) (hc : ∀ i, i < n → w.cell? ⟨b, off + i, none⟩ = some (.int .i64 (ix l i))) :
    ∀ j u, (ints l)[j]? = some u → w.cell? ((⟨b, off, none⟩ : Addr).add j) = some u := by
  intro j u hu
  have hj : j < n := by
    have := (List.getElem?_eq_some_iff.1 hu).1
    rw [ints_len, hl] at this
    exact this
  rw [ints_at l j (by omega)] at hu
  injection hu with hu
  rw [add_none, hc j hj, hu]
theorem run_append_nilI {P : Program} {w : World} {base : Nat} {t ty e : TypeId} {i : TypeInfo} (ht : P.underlying t = some (.slice e)) (hi : P.info? e = some i)
    {v : Value} {n size : Nat} {xs : List Value} (hO : w.ownsRow base e size v n xs) (c : Nat) : (Builtin.append_ #[t, t] ty #[v, .slice none 0 c]).run P w = .ok v w := by
  rcases hO.2 with ⟨rfl, rfl⟩ | ⟨g, cap, cur, rfl, _, _, hnc, _⟩
  · simp [Builtin.append_, run_underlying ht, sizeOf, typeInfo, hi, Builtin.lenOf, Builtin.firstCells]
  · simp [Builtin.append_, run_underlying ht, sizeOf, typeInfo, hi, Builtin.lenOf, Builtin.firstCells, hnc, storeCells]
/-- a whole row is appended to a row of the call's own -/
theorem wpList_appendJ {P : Program} {w : World} {ops : Array Oper} {rest : List Oper} {o : Oper} {a : Act} {Q : Exit → Act → World → Prop} (hgd : Region.wanted o (yielded ops a.tmps) = true) (s x : Operand) (t : TypeId)
    (ho : o.op = .call { callee := .builtin .append, args := #[s, x], argTypes := #[t, t] })
    (base : Nat) (e : TypeId) (i : TypeInfo) (z : Value) (ht : P.underlying t = some (.slice e)) (hi : P.info? e = some i) (hz : i.zero = some z)
    (hsize : i.size = 1) (hby : i.bytes = 8) (hzs : z.cells.size = 1)
    (v : Value) (n : Nat) (l : List Int) (hs : a.eval s = v) (hO : OwnI w base e v n l)
    (A : Option Addr) (m c : Nat) (k : List Int) (hx : a.eval x = .slice A m c) (hr : RdI w A m k)
    (hn : n + m ≤ 4000000) (hbase : base ≤ w.heap.size)
    (h : ∀ v' w', OwnI w' base e v' (n + m) (l ++ k) → Below base w w' → wpList P ops Q rest (a.put o.dst v') w') : wpList P ops Q (o :: rest) a w := by
  refine wantedL hgd fun K hK => ?_
  rcases A with _ | ad
  · have hm : m = 0 := by
      rcases Nat.eq_zero_or_pos m with h0 | h0
      · exact h0
      · obtain ⟨b, off, he, _⟩ := hr.at_ h0
        cases he
    subst hm
    obtain rfl : k = [] := List.eq_nil_of_length_eq_zero hr.len
    have hrun := run_append_nilI (ty := o.type) ht hi hO.own c
    unfold Oper.wp execOp
    simp only [ho, resolve, invoke, builtin, Sem.run_bind, Sem.run_pure, Result.andThen_ok, List.map_toArray, List.map_cons, List.map_nil, hs, hx, hrun]
    exact hK _ _ (h v w (by simpa using hO) (Below.refl _ _))
  · have hcells : ∀ j u, (ints k)[j]? = some u → w.cell? (ad.add j) = some u := by
      rcases Nat.eq_zero_or_pos m with h0 | h0
      · subst h0
        obtain rfl : k = [] := List.eq_nil_of_length_eq_zero hr.len
        intro j u hu
        simp [ints] at hu
      · obtain ⟨b, off, he, _, hc⟩ := hr.at_ h0
        injection he with he
        subst he
        exact ints_cells hr.len hc
    refine wp_append_own w s x t ho base e i z 1 8 ht hi hz hsize hby hzs (by decide) v n (ints l) hs hO.own ad m c (ints k) hx (by rw [ints_len, hr.len, Nat.mul_one]) hcells (ints_one _) (by unfold maxLen; omega) (by omega) hbase ?_
    intro v' w' h2 h3 _
    refine hK _ _ (h v' w' ⟨by rw [ints_app]; exact h2, by simp [hO.len, hr.len]⟩ (below_grown h3 hbase fun _ hk => hO.block hk))

/-- the slices of rows as values -/
def slv (r : RV) : Value := .slice r.A r.n r.c
def slvs (rs : List RV) : List Value := rs.map slv
theorem slvs_app (l m : List RV) : slvs (l ++ m) = slvs l ++ slvs m := by simp [slvs]
theorem slvs_len (l : List RV) : (slvs l).length = l.length := by simp [slvs]
theorem slvs_at {l : List RV} {k : Nat} (hk : k < l.length) : (slvs l)[k]? = some (.slice (rv l k).A (rv l k).n (rv l k).c) := by simp [slvs, slv, rv_eq hk, hk]
theorem slvs_one (l : List RV) : ∀ u ∈ slvs l, u.oneCell' = true := by
  intro u hu
  simp only [slvs, List.mem_map] at hu
  obtain ⟨p, _, rfl⟩ := hu
  rfl
/-- The slice value v of length n is a list of rows in a block of the call's own; the rows read their numbers. -/
structure OwnR (w : World) (base : Nat) (t : TypeId) (v : Value) (n : Nat) (rs : List RV) : Prop where
  own : w.ownsRow base t 1 v n (slvs rs)
  len : rs.length = n
  rows : RdAll w rs
theorem OwnR.block {w : World} {base : Nat} {t : TypeId} {v : Value} {n : Nat} {rs : List RV} (h : OwnR w base t v n rs) {g : Nat} (hg : v.ownBlock = some g) : base ≤ g := by
  rcases h.own.2 with ⟨rfl, _⟩ | ⟨g', cap, cur, rfl, hb, _⟩
  · cases hg
  · have : g' = g := by simpa [Value.ownBlock] using hg
    omega
theorem OwnR.form {w : World} {base : Nat} {t : TypeId} {v : Value} {n : Nat} {rs : List RV} (h : OwnR w base t v n rs) :
    ∃ A c, v = .slice A n c ∧ n ≤ c ∧ c ≤ maxLen ∧ RdR w A n rs ∧ (0 < n → ∃ g, A = some ⟨g, 0, none⟩ ∧ base ≤ g) := by
  obtain ⟨ho, hl, hrows⟩ := h
  rcases ho.2 with ⟨rfl, rfl⟩ | ⟨g, cap, cur, rfl, hb, hh, hn, hc, hs, ht⟩
  · obtain rfl : rs = [] := List.eq_nil_of_length_eq_zero hl
    exact ⟨none, 0, rfl, Nat.le_refl _, Nat.zero_le _, ⟨rfl, fun h => absurd h (by omega), hrows⟩, fun h => absurd h (by omega)⟩
  · refine ⟨_, _, rfl, hn, hc, ⟨hl, fun _ => ⟨g, 0, rfl, Blk.lt hh, fun i hi => ?_⟩, hrows⟩, fun _ => ⟨g, rfl, hb⟩⟩
    have h1 := slvs_at (l := rs) (k := i) (by omega)
    rw [← ht, List.getElem?_take, if_pos (by omega)] at h1
    rw [Nat.zero_add, Blk.cell hh]
    simpa using h1
theorem OwnR.empty (w : World) (t : TypeId) {base : Nat} (hb : base ≤ w.heap.size) : OwnR (w.alloc (.cells #[] t)) base t (.slice (some ⟨w.heap.size, 0, none⟩) 0 0) 0 [] :=
  ⟨⟨rfl, .inr ⟨w.heap.size, 0, #[], rfl, hb, heap_alloc_new w _, Nat.le_refl _, Nat.zero_le _, rfl, rfl⟩⟩, rfl, fun r hr => by cases hr⟩
theorem OwnR.nil (w : World) (t : TypeId) (base : Nat) : OwnR w base t (.slice none 0 0) 0 [] := ⟨⟨rfl, .inl ⟨rfl, rfl⟩⟩, rfl, fun r hr => by cases hr⟩
theorem RdAll.keep {w w' : World} {rs : List RV} (h : RdAll w rs) (hs : w.heap.size ≤ w'.heap.size) (hk : ∀ b, b < w.heap.size → w'.heap[b]? = w.heap[b]?) : RdAll w' rs := fun r hr => ⟨(h r hr).1.keep hs hk, (h r hr).2⟩
theorem OwnR.below {w w' : World} {base : Nat} {t : TypeId} {v : Value} {n : Nat} {rs : List RV} (h : OwnR w base t v n rs) (hb : Below w.heap.size w w') : OwnR w' base t v n rs := by
  obtain ⟨⟨h1, h2⟩, hl, hrows⟩ := h
  refine ⟨⟨h1, ?_⟩, hl, hrows.below hb⟩
  rcases h2 with h2 | ⟨g, cap, cur, rfl, hb0, hh, hr⟩
  · exact .inl h2
  · exact .inr ⟨g, cap, cur, rfl, hb0, (hb.block g (Blk.lt hh)).trans hh, hr⟩
theorem OwnR.drewN {w : World} {base : Nat} {t : TypeId} {v : Value} {n : Nat} {rs : List RV} (h : OwnR w base t v n rs) (m : Nat) : OwnR (w.drewN m) base t v n rs :=
  ⟨h.own, h.len, fun r hr => ⟨⟨(h.rows r hr).1.len, (h.rows r hr).1.at_⟩, (h.rows r hr).2⟩⟩
/-- one row is appended to a list of rows of the call's own; no row lies in the list's block -/
theorem wpList_appendR {P : Program} {w : World} {ops : Array Oper} {rest : List Oper} {o : Oper} {a : Act} {Q : Exit → Act → World → Prop} (hgd : Region.wanted o (yielded ops a.tmps) = true) (s x : Operand) (t : TypeId)
    (ho : o.op = .call { callee := .builtin .append, args := #[s, x], argTypes := #[t, t] })
    (base : Nat) (e : TypeId) (i : TypeInfo) (z : Value) (ht : P.underlying t = some (.slice e)) (hi : P.info? e = some i) (hz : i.zero = some z)
    (hsize : i.size = 1) (hby : i.bytes = 24) (hzs : z.cells.size = 1)
    (v : Value) (n : Nat) (rs : List RV) (hs : a.eval s = v) (hO : OwnR w base e v n rs)
    (ad : Addr) (r : RV) (hx : a.eval x = .slice (some ad) 1 1) (hnews : ∀ j u, [Value.slice r.A r.n r.c][j]? = some u → w.cell? (ad.add j) = some u)
    (hr : ∀ w', (∀ k, k < w.heap.size → v.ownBlock ≠ some k → w'.heap[k]? = w.heap[k]?) → w.heap.size ≤ w'.heap.size → RdAll w' (rs ++ [r]))
    (hn : n ≤ 1000000) (hbase : base ≤ w.heap.size)
    (h : ∀ v' w', OwnR w' base e v' (n + 1) (rs ++ [r]) → Below base w w' → w.grownBy w' v.ownBlock → wpList P ops Q rest (a.put o.dst v') w') : wpList P ops Q (o :: rest) a w :=
  wantedL hgd fun _ hK => wp_append_own w s x t ho base e i z 1 24 ht hi hz hsize hby hzs (by decide) v n (slvs rs) hs hO.own ad 1 1 _ hx rfl hnews (one_one _ rfl) (by unfold maxLen; omega) (by omega) hbase
    fun v' w' h2 h3 _ => hK _ _ (h v' w' ⟨by rw [slvs_app]; exact h2, by simp [hO.len], hr w' (fun k hk hne => h3.block k hk (Ne.symm hne)) h3.size⟩ (below_grown h3 hbase fun _ hk => hO.block hk) h3)

/-- a row that is written at one place -/
theorem RowI.put {w : World} {g : Nat} {t : TypeId} {n : Nat} {l : List Int} (h : RowI w g t n l) {j : Nat} (hj : j < n) (x : Int) : RowI (w.setCell ⟨g, j, none⟩ (.int .i64 x)) g t n (l.set j x) := by
  obtain ⟨hl, cs, hb, hs, hc⟩ := h
  refine ⟨by simp [hl], _, hb.put _ _, by simpa using hs, fun i hi => ?_⟩
  rw [Array.getElem?_setIfInBounds]
  by_cases e : j = i
  · subst e
    rw [if_pos rfl, if_pos (by omega), ix_eq (by simp; omega)]
    simp
  · have h2 : ix (l.set j x) i = ix l i := by simp [ix, e]
    rw [if_neg e, hc i hi, h2]
theorem RowI.cell {w : World} {g : Nat} {t : TypeId} {n : Nat} {l : List Int} (h : RowI w g t n l) {j : Nat} (hj : j < n) : w.cell? ⟨g, j, none⟩ = some (.int .i64 (ix l j)) ∧ w.frozen? ⟨g, j, none⟩ = false := by
  obtain ⟨hl, cs, hb, hs, hc⟩ := h
  exact ⟨by rw [hb.cell]; exact hc j hj, hb.frozen _⟩
theorem RowI.lt {w : World} {g : Nat} {t : TypeId} {n : Nat} {l : List Int} (h : RowI w g t n l) : g < w.heap.size := by
  obtain ⟨_, cs, hb, _⟩ := h
  exact hb.lt
/-- the row that make gives -/
theorem RowI.made {w : World} {base g n : Nat} {t : TypeId} (h : w.ownsRow base t 1 (.slice (some ⟨g, 0, none⟩) n n) n (madeCells (Value.int .i64 0).cells (n * 1)).toList) : RowI w g t n (List.replicate n 0) := by
  obtain ⟨cs, hb, hs, _, ht⟩ := Blk.of_own h
  refine ⟨by simp, cs, hb, by omega, fun i hi => ?_⟩
  have e : (madeCells (Value.int .i64 0).cells (n * 1)).toList = List.replicate n (.int .i64 0) := by
    rw [Nat.mul_one]
    exact toList_madeCells_one _ _
  rw [e] at ht
  have h1 : (cs.toList.take (n * 1))[i]? = (List.replicate n (Value.int .i64 0))[i]? := by rw [ht]
  rw [List.getElem?_take, if_pos (by omega), List.getElem?_replicate, if_pos hi] at h1
  rw [ix_eq (by simp; omega)]
  simpa using h1
theorem RowI.own {w : World} {base g n : Nat} {t : TypeId} {l : List Int} (h : RowI w g t n l) (hb : base ≤ g) (hn : n ≤ maxLen) (hs : ∃ cs : Array Value, Blk w g t cs ∧ cs.size = n) : OwnI w base t (.slice (some ⟨g, 0, none⟩) n n) n l := by
  obtain ⟨hl, cs, hbk, hsz, hc⟩ := h
  obtain ⟨cs', hbk', hs'⟩ := hs
  obtain rfl : cs = cs' := by
    have := hbk.symm.trans hbk'
    injection this with this
    injection this
  refine ⟨⟨by rw [ints_len, hl, Nat.mul_one], .inr ⟨g, n, cs, rfl, hb, hbk, Nat.le_refl _, hn, by omega, ?_⟩⟩, hl⟩
  refine List.ext_getElem? fun i => ?_
  rw [Nat.mul_one, List.take_of_length_le (by simp; omega)]
  by_cases hi : i < n
  · rw [ints_at l i (by omega)]
    simpa using hc i hi
  · rw [List.getElem?_eq_none (by simp; omega), List.getElem?_eq_none (by rw [ints_len]; omega)]
end Go.Proofs.Ytbaplcdedijaeaa
