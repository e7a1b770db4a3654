/-
  Lists of rows that a call makes itself, where each row begins at the head of its block: rows are appended, one or many. No function of the program in sight.
-/
import Derived.Test.YtbaplcdedijaeaaIntsOwn
import Derived.Test.YtbaplcdedijaeaaStackRows
namespace Go.Proofs.Ytbaplcdedijaeaa
open Go.RowKit

/-- each row that holds a number begins at the head of a block -/
def Heads (rs : List RV) : Prop := ∀ r ∈ rs, 0 < r.n → ∃ g, r.A = some ⟨g, 0, none⟩
theorem Heads.nil : Heads [] := fun r hr => by cases hr
theorem Heads.app {l m : List RV} (h : Heads l) (h' : Heads m) : Heads (l ++ m) := fun r hr => by
  rcases List.mem_append.1 hr with hr | hr
  · exact h r hr
  · exact h' r hr
theorem Heads.one {r : RV} (h : 0 < r.n → ∃ g, r.A = some ⟨g, 0, none⟩) : Heads [r] := fun x hx => by
  obtain rfl : x = r := by simpa using hx
  exact h
theorem Heads.sub {l m : List RV} (h : Heads m) (hs : ∀ r ∈ l, r ∈ m) : Heads l := fun r hr => h r (hs r hr)
/-- no row lies in the block of the slice v -/
def Apart (v : Value) (rs : List RV) : Prop := ∀ r ∈ rs, 0 < r.n → ∃ g, r.A = some ⟨g, 0, none⟩ ∧ v.ownBlock ≠ some g
theorem int_not_slice {x : Int} {A : Option Addr} {n c : Nat} (h : some (Value.int .i64 x) = some (Value.slice A n c)) : False := by
  injection h with h
  cases h
/-- a list that holds a row has no row in its own block -/
theorem OwnR.apart {w : World} {base : Nat} {t : TypeId} {v : Value} {n : Nat} {rs ks : List RV} (h : OwnR w base t v n rs) (hn : 0 < n) (hr : RdAll w ks) (hz : Heads ks) : Apart v ks := by
  intro r hr' h0
  obtain ⟨g, e⟩ := hz r hr' h0
  refine ⟨g, e, fun hv => ?_⟩
  rcases h.own.2 with ⟨rfl, _⟩ | ⟨g', cap, cur, rfl, _, hh, hnc, _, hs, ht⟩
  · cases hv
  · have hg : g' = g := by simpa [Value.ownBlock] using hv
    subst hg
    obtain ⟨b, off, e2, _, hc⟩ := (hr r hr').1.at_ h0
    rw [e] at e2
    injection e2 with e2
    injection e2 with e3 e4
    subst e3 e4
    have h1 := hc 0 h0
    rw [Nat.add_zero, Blk.cell hh] at h1
    have h2 := slvs_at (l := rs) (k := 0) (by have := h.len; omega)
    rw [← ht, List.getElem?_take, if_pos (by omega)] at h2
    simp only [Array.getElem?_toList] at h2
    rw [h1] at h2
    exact int_not_slice h2
theorem rdall_off {w w' : World} {v : Value} {rs : List RV} (h : RdAll w rs) (ha : Apart v rs) (hs : w.heap.size ≤ w'.heap.size) (hk : ∀ k, k < w.heap.size → v.ownBlock ≠ some k → w'.heap[k]? = w.heap[k]?) : RdAll w' rs := fun r hr => by
  obtain ⟨h1, h2⟩ := h r hr
  refine ⟨⟨h1.len, fun h0 => ?_⟩, h2⟩
  obtain ⟨g, e, hne⟩ := ha r hr h0
  obtain ⟨b, off, e2, hlt, hc⟩ := h1.at_ h0
  rw [e] at e2
  injection e2 with e2
  injection e2 with e3 e4
  subst e3 e4
  refine ⟨g, 0, e, Nat.lt_of_lt_of_le hlt hs, fun i hi => ?_⟩
  exact (World.cell?_of_block (w := w) (a := ⟨g, 0 + i, none⟩) (hk g hlt hne)).trans (hc i hi)
theorem RdAll.app {w : World} {l m : List RV} (h : RdAll w l) (h' : RdAll w m) : RdAll w (l ++ m) := fun r hr => by
  rcases List.mem_append.1 hr with hr | hr
  · exact h r hr
  · exact h' r hr
theorem RdAll.sub {w : World} {l m : List RV} (h : RdAll w m) (hs : ∀ r ∈ l, r ∈ m) : RdAll w l := fun r hr => h r (hs r hr)
theorem RdAll.one {w : World} {r : RV} (h : RdI w r.A r.n r.l) (hc : r.n ≤ r.c) : RdAll w [r] := fun x hx => by
  obtain rfl : x = r := by simpa using hx
  exact ⟨h, hc⟩
/-- rows are appended to a list of rows of the call's own -/
theorem wpList_appendRR {P : Program} {w : World} {ops : Array Oper} {rest : List Oper} {o : Oper} {a : Act} {Q : Exit → Act → World → Prop} (hgd : Region.wanted o (yielded ops a.tmps) = true) (s x : Operand) (t : TypeId)
    (ho : o.op = .call { callee := .builtin .append, args := #[s, x], argTypes := #[t, t] })
    (base : Nat) (e : TypeId) (i : TypeInfo) (z : Value) (ht : P.underlying t = some (.slice e)) (hi : P.info? e = some i) (hz : i.zero = some z)
    (hsize : i.size = 1) (hby : i.bytes = 24) (hzs : z.cells.size = 1)
    (v : Value) (n : Nat) (rs : List RV) (hs : a.eval s = v) (hO : OwnR w base e v n rs) (hH : Heads rs)
    (A : Option Addr) (m c : Nat) (ks : List RV) (hx : a.eval x = .slice A m c) (hm : ks.length = m)
    (hcell : 0 < m → ∃ b off, A = some ⟨b, off, none⟩ ∧ ∀ i, i < m → w.cell? ⟨b, off + i, none⟩ = some (.slice (rv ks i).A (rv ks i).n (rv ks i).c))
    (hK : RdAll w ks) (hKH : Heads ks) (hA : n = 0 → Apart v ks)
    (hn : n + m ≤ 2000000) (hbase : base ≤ w.heap.size)
    (h : ∀ v' w', OwnR w' base e v' (n + m) (rs ++ ks) → Below base w w' → w.grownBy w' v.ownBlock → wpList P ops Q rest (a.put o.dst v') w') : wpList P ops Q (o :: rest) a w := by
  have hap : Apart v (rs ++ ks) := by
    rcases Nat.eq_zero_or_pos n with h0 | h0
    · have : rs = [] := List.eq_nil_of_length_eq_zero (by rw [hO.len, h0])
      subst this
      exact hA h0
    · exact hO.apart h0 (hO.rows.app hK) (hH.app hKH)
  refine wantedL hgd fun K hK' => ?_
  rcases A with _ | ad
  · have h0 : m = 0 := by
      rcases Nat.eq_zero_or_pos m with h0 | h0
      · exact h0
      · obtain ⟨b, off, he, _⟩ := hcell h0
        cases he
    subst h0
    obtain rfl : ks = [] := List.eq_nil_of_length_eq_zero hm
    have hrun := run_append_nilI (ty := o.type) ht hi hO.own c
    unfold Oper.wp execOp
    simp only [ho, resolve, invoke, builtin, Sem.run_bind, Sem.run_pure, Result.andThen_ok, List.map_toArray, List.map_cons, List.map_nil, hs, hx, hrun]
    exact hK' _ _ (h v w (by simpa using hO) (Below.refl _ _) (World.grownBy.refl w _))
  · have hcells : ∀ j u, (slvs ks)[j]? = some u → w.cell? (ad.add j) = some u := by
      intro j u hu
      have hj : j < m := by
        have := (List.getElem?_eq_some_iff.1 hu).1
        rw [slvs_len, hm] at this
        exact this
      obtain ⟨b, off, he, hc⟩ := hcell (by omega)
      injection he with he
      subst he
      rw [slvs_at (by omega)] at hu
      injection hu with hu
      rw [add_none, hc j hj, hu]
    refine wp_append_own w s x t ho base e i z 1 24 ht hi hz hsize hby hzs (by decide) v n (slvs rs) hs hO.own ad m c (slvs ks) hx (by rw [slvs_len, hm, Nat.mul_one]) hcells (slvs_one _) (by unfold maxLen; omega) (by omega) hbase ?_
    intro v' w' h2 h3 _
    exact hK' _ _ (h v' w' ⟨by rw [slvs_app]; exact h2, by simp [hO.len, hm], rdall_off (hO.rows.app hK) hap h3.size (fun k hk hne => h3.block k hk (Ne.symm hne))⟩ (below_grown h3 hbase fun _ hk => hO.block hk) h3)
/-- one row is appended to a list of rows of the call's own -/
theorem wpList_appendR1 {P : Program} {w : World} {ops : Array Oper} {rest : List Oper} {o : Oper} {a : Act} {Q : Exit → Act → World → Prop} (hgd : Region.wanted o (yielded ops a.tmps) = true) (s x : Operand) (t : TypeId)
    (ho : o.op = .call { callee := .builtin .append, args := #[s, x], argTypes := #[t, t] })
    (base : Nat) (e : TypeId) (i : TypeInfo) (z : Value) (ht : P.underlying t = some (.slice e)) (hi : P.info? e = some i) (hz : i.zero = some z)
    (hsize : i.size = 1) (hby : i.bytes = 24) (hzs : z.cells.size = 1)
    (v : Value) (n : Nat) (rs : List RV) (hs : a.eval s = v) (hO : OwnR w base e v n rs) (hH : Heads rs)
    (b : Nat) (r : RV) (hx : a.eval x = .slice (some ⟨b, 0, none⟩) 1 1) (hcell : w.cell? ⟨b, 0, none⟩ = some (.slice r.A r.n r.c))
    (hr : RdI w r.A r.n r.l) (hrc : r.n ≤ r.c) (hrh : 0 < r.n → ∃ g, r.A = some ⟨g, 0, none⟩ ∧ (n = 0 → v.ownBlock ≠ some g))
    (hn : n ≤ 1000000) (hbase : base ≤ w.heap.size)
    (h : ∀ v' w', OwnR w' base e v' (n + 1) (rs ++ [r]) → Heads (rs ++ [r]) → Below base w w' → w.grownBy w' v.ownBlock → wpList P ops Q rest (a.put o.dst v') w') : wpList P ops Q (o :: rest) a w := by
  have hh : Heads [r] := Heads.one fun h0 => by obtain ⟨g, e, _⟩ := hrh h0; exact ⟨g, e⟩
  refine wpList_appendRR hgd s x t ho base e i z ht hi hz hsize hby hzs v n rs hs hO hH _ 1 1 [r] hx rfl (fun _ => ⟨b, 0, rfl, fun i hi => ?_⟩) (RdAll.one hr hrc) hh (fun h0 x hx' h1 => ?_) (by omega) hbase (fun v' w' a1 a2 a3 => h v' w' a1 (hH.app hh) a2 a3)
  · obtain rfl : i = 0 := by omega
    exact hcell
  · obtain rfl : x = r := by simpa using hx'
    obtain ⟨g, e, h2⟩ := hrh h1
    exact ⟨g, e, h2 h0⟩
theorem OwnR.lt {w : World} {base : Nat} {t : TypeId} {v : Value} {n : Nat} {rs : List RV} (h : OwnR w base t v n rs) {g : Nat} (hg : v.ownBlock = some g) : g < w.heap.size := by
  rcases h.own.2 with ⟨rfl, _⟩ | ⟨g', cap, cur, rfl, _, hh, _⟩
  · cases hg
  · have : g' = g := by simpa [Value.ownBlock] using hg
    subst this
    exact Blk.lt hh
theorem OwnR.same {w w' : World} {base : Nat} {t : TypeId} {v : Value} {n : Nat} {rs : List RV} (h : OwnR w base t v n rs) (hr : RdAll w' rs) (hs : ∀ k, base ≤ k → k < w.heap.size → w'.heap[k]? = w.heap[k]?) : OwnR w' base t v n rs := by
  obtain ⟨⟨h1, h2⟩, hl, _⟩ := h
  refine ⟨⟨h1, ?_⟩, hl, hr⟩
  rcases h2 with h2 | ⟨g, cap, cur, rfl, hb0, hh, hr⟩
  · exact .inl h2
  · exact .inr ⟨g, cap, cur, rfl, hb0, (hs g hb0 (Blk.lt hh)).trans hh, hr⟩
/-- ... over a call that turns block g alone, in which no row lies -/
theorem OwnR.grown {w w' : World} {base : Nat} {t : TypeId} {v : Value} {n : Nat} {rs : List RV} (h : OwnR w base t v n rs) {g : Nat} (hg : w.grownBy w' (some g)) (hlt : g < base) (hr : ∀ r ∈ rs, 0 < r.n → ∃ k, r.A = some ⟨k, 0, none⟩ ∧ k ≠ g) : OwnR w' base t v n rs := by
  refine h.same (fun r hr' => ⟨⟨(h.rows r hr').1.len, fun h0 => ?_⟩, (h.rows r hr').2⟩) fun k hk hk2 => hg.block k hk2 (by simp; omega)
  obtain ⟨k, e, hne⟩ := hr r hr' h0
  obtain ⟨b, off, e2, hlt2, hc⟩ := (h.rows r hr').1.at_ h0
  rw [e] at e2
  injection e2 with e2
  injection e2 with e3 e4
  subst e3 e4
  refine ⟨k, 0, e, Nat.lt_of_lt_of_le hlt2 hg.size, fun i hi => ?_⟩
  exact (World.cell?_of_block (w := w) (a := ⟨k, 0 + i, none⟩) (hg.block k hlt2 (by simpa using hne))).trans (hc i hi)
end Go.Proofs.Ytbaplcdedijaeaa
