/-
  Rows of numbers in blocks of the call's own, in a list of rows of the call's own: blocks of two types never meet. No function of the program in sight.
-/
import Derived.Test.YtbaplcdedijaeaaRowsOwn
import Derived.Test.YtbaplcdedijaeaaStackSum
namespace Go.Proofs.Ytbaplcdedijaeaa
open Go.RowKit

theorem own_cells {w : World} {base size n g : Nat} {t : TypeId} {v : Value} {xs : List Value} (h : w.ownsRow base t size v n xs) (hg : v.ownBlock = some g) : ∃ cs, w.heap[g]? = some (.cells cs t (0, 0)) := by
  rcases h.2 with ⟨rfl, _⟩ | ⟨g', cap, cur, rfl, _, hh, _⟩
  · cases hg
  · have : g' = g := by simpa [Value.ownBlock] using hg
    subst this
    exact ⟨cur, hh⟩
theorem own_apart {w : World} {base base' size size' n n' g : Nat} {t t' : TypeId} {v v' : Value} {xs xs' : List Value} (ht : t ≠ t') (h : w.ownsRow base t size v n xs) (h' : w.ownsRow base' t' size' v' n' xs') (hg : v.ownBlock = some g) : v'.ownBlock ≠ some g := fun hg' => by
  obtain ⟨cs, e⟩ := own_cells h hg
  obtain ⟨cs', e'⟩ := own_cells h' hg'
  rw [e] at e'
  injection e' with e'
  injection e' with e1 e2
  exact ht e2
theorem own_keep {w w' : World} {base size n : Nat} {t : TypeId} {v : Value} {xs : List Value} (h : w.ownsRow base t size v n xs) (hk : ∀ g, v.ownBlock = some g → w'.heap[g]? = w.heap[g]?) : w'.ownsRow base t size v n xs := by
  refine ⟨h.1, ?_⟩
  rcases h.2 with h2 | ⟨g, cap, cur, rfl, hb, hh, hr⟩
  · exact .inl h2
  · exact .inr ⟨g, cap, cur, rfl, hb, (hk g rfl).trans hh, hr⟩
theorem own_lt {w : World} {base size n g : Nat} {t : TypeId} {v : Value} {xs : List Value} (h : w.ownsRow base t size v n xs) (hg : v.ownBlock = some g) : g < w.heap.size := by
  obtain ⟨cs, e⟩ := own_cells h hg
  exact (Array.getElem?_eq_some_iff.1 e).1
theorem own_base {w : World} {base size n g : Nat} {t : TypeId} {v : Value} {xs : List Value} (h : w.ownsRow base t size v n xs) (hg : v.ownBlock = some g) : base ≤ g := by
  rcases h.2 with ⟨rfl, _⟩ | ⟨g', cap, cur, rfl, hb, hh, _⟩
  · cases hg
  · have : g' = g := by simpa [Value.ownBlock] using hg
    omega
theorem OwnI.keep {w w' : World} {base n : Nat} {t : TypeId} {v : Value} {l : List Int} (h : OwnI w base t v n l) (hk : ∀ g, v.ownBlock = some g → w'.heap[g]? = w.heap[g]?) : OwnI w' base t v n l := ⟨own_keep h.own hk, h.len⟩
theorem OwnI.down {w : World} {base base' n : Nat} {t : TypeId} {v : Value} {l : List Int} (h : OwnI w base t v n l) (hb : base' ≤ base) : OwnI w base' t v n l := by
  obtain ⟨⟨h1, h2⟩, hl⟩ := h
  refine ⟨⟨h1, ?_⟩, hl⟩
  rcases h2 with h2 | ⟨g, cap, cur, rfl, hb', hr⟩
  · exact .inl h2
  · exact .inr ⟨g, cap, cur, rfl, by omega, hr⟩

/-- each row is in a block of its own behind B -/
def OwnAll (w : World) (B : Nat) (rs : List RV) : Prop := ∀ r ∈ rs, OwnI w B 3 (slv r) r.n r.l
section
variable {w w' : World} {B : Nat} {rs ks : List RV} {r : RV}
theorem OwnAll.nil : OwnAll w B [] := fun r hr => by cases hr
theorem OwnAll.keep (h : OwnAll w B rs) (hk : ∀ g, (∃ r ∈ rs, (slv r).ownBlock = some g) → w'.heap[g]? = w.heap[g]?) : OwnAll w' B rs := fun r hr => (h r hr).keep fun g hg => hk g ⟨r, hr, hg⟩
theorem OwnAll.below (h : OwnAll w B rs) (hb : Below w.heap.size w w') : OwnAll w' B rs := h.keep fun g ⟨r, hr, hg⟩ => hb.block g (own_lt (h r hr).own hg)
theorem OwnAll.grown (h : OwnAll w B rs) {g : Nat} (hg : w.grownBy w' (some g)) (hlt : g < B) : OwnAll w' B rs := h.keep fun k ⟨r, hr, hk⟩ => hg.block k (own_lt (h r hr).own hk) (by have := own_base (h r hr).own hk; simp; omega)
theorem OwnAll.rd (h : OwnAll w B rs) : RdAll w rs := fun r hr => by
  obtain ⟨A, c, e, hc, _, hrd, _⟩ := (h r hr).form
  unfold slv at e
  injection e with e1 e2 e3
  subst e1 e3
  exact ⟨hrd, hc⟩
theorem OwnAll.heads (h : OwnAll w B rs) : Heads rs := fun r hr h0 => by
  obtain ⟨A, c, e, _, _, _, hh⟩ := (h r hr).form
  obtain ⟨g, e2, _⟩ := hh h0
  unfold slv at e
  injection e with e1 e3
  exact ⟨g, by rw [e1, e2]⟩
theorem OwnAll.app (h : OwnAll w B rs) (h' : OwnAll w B ks) : OwnAll w B (rs ++ ks) := fun r hr => by
  rcases List.mem_append.1 hr with hr | hr
  · exact h r hr
  · exact h' r hr
theorem OwnAll.one (h : OwnI w B 3 (slv r) r.n r.l) : OwnAll w B [r] := fun x hx => by
  obtain rfl : x = r := by simpa using hx
  exact h
theorem OwnAll.sub (h : OwnAll w B ks) (hs : ∀ r ∈ rs, r ∈ ks) : OwnAll w B rs := fun r hr => h r (hs r hr)
theorem own_heads (h : OwnI w B 3 (slv r) r.n r.l) : 0 < r.n → ∃ g, r.A = some ⟨g, 0, none⟩ ∧ (slv r).ownBlock = some g := fun h0 => by
  obtain ⟨g, e⟩ := (OwnAll.one h).heads r (by simp) h0
  exact ⟨g, e, by simp [slv, e, Value.ownBlock]⟩
theorem types_ne : 3 ≠ 29 := by decide
/-- a row over a step that turns the list's own block -/
theorem OwnI.past {v v2 : Value} {n m base : Nat} {l : List Int} {qs : List RV} (h : OwnI w B 3 v n l) (hv : OwnR w base 29 v2 m qs) (hg : w.grownBy w' v2.ownBlock) : OwnI w' B 3 v n l :=
  h.keep fun g hg' => hg.block g (own_lt h.own hg') (fun e => own_apart types_ne h.own hv.own hg' e.symm)
theorem OwnAll.past {v2 : Value} {m base : Nat} {qs : List RV} (h : OwnAll w B rs) (hv : OwnR w base 29 v2 m qs) (hg : w.grownBy w' v2.ownBlock) : OwnAll w' B rs := fun r hr => (h r hr).past hv hg
theorem OwnAll.apart {v2 : Value} {m base : Nat} {qs : List RV} (h : OwnAll w B rs) (hv : OwnR w base 29 v2 m qs) : Apart v2 rs := fun r hr h0 => by
  obtain ⟨g, e, hg⟩ := own_heads (h r hr) h0
  exact ⟨g, e, own_apart types_ne (h r hr).own hv.own hg⟩
theorem OwnR.grownA {v : Value} {n base g : Nat} (h : OwnR w base 29 v n rs) (ha : OwnAll w B rs) (hg : w.grownBy w' (some g)) (h1 : g < base) (h2 : g < B) : OwnR w' base 29 v n rs :=
  h.same (ha.grown hg h2).rd fun k hk hk2 => hg.block k hk2 (by simp; omega)
theorem OwnR.alloc {v : Value} {n base : Nat} {t : TypeId} (h : OwnR w base t v n rs) (o : Obj) : OwnR (w.alloc o) base t v n rs := h.below ((Below.refl _ _).alloc (Nat.le_refl _) _)
theorem OwnAll.alloc (h : OwnAll w B rs) (o : Obj) : OwnAll (w.alloc o) B rs := h.below ((Below.refl _ _).alloc (Nat.le_refl _) _)
end
/-- one row of the call's own is appended to a list of such rows -/
theorem wpList_appendO {P : Program} {w : World} {ops : Array Oper} {rest : List Oper} {o : Oper} {a : Act} {Q : Exit → Act → World → Prop} (hgd : Region.wanted o (yielded ops a.tmps) = true) (s x : Operand) (t : TypeId)
    (ho : o.op = .call { callee := .builtin .append, args := #[s, x], argTypes := #[t, t] })
    (base : Nat) (i : TypeInfo) (z : Value) (ht : P.underlying t = some (.slice 29)) (hi : P.info? 29 = some i) (hz : i.zero = some z)
    (hsize : i.size = 1) (hby : i.bytes = 24) (hzs : z.cells.size = 1)
    (v : Value) (n : Nat) (rs : List RV) (hs : a.eval s = v) (hO : OwnR w base 29 v n rs) (B : Nat) (hA : OwnAll w B rs)
    (b : Nat) (r : RV) (hx : a.eval x = .slice (some ⟨b, 0, none⟩) 1 1) (hcell : w.cell? ⟨b, 0, none⟩ = some (.slice r.A r.n r.c))
    (hr : OwnI w B 3 (slv r) r.n r.l) (hn : n ≤ 1000000) (hbase : base ≤ w.heap.size)
    (h : ∀ v' w', OwnR w' base 29 v' (n + 1) (rs ++ [r]) → OwnAll w' B (rs ++ [r]) → Below base w w' → w.grownBy w' v.ownBlock → wpList P ops Q rest (a.put o.dst v') w') : wpList P ops Q (o :: rest) a w := by
  have h1 := OwnAll.one hr
  refine wpList_appendR1 hgd s x t ho base 29 i z ht hi hz hsize hby hzs v n rs hs hO hA.heads b r hx hcell (h1.rd r (by simp)).1 (h1.rd r (by simp)).2 (fun h0 => ?_) hn hbase (fun v' w' a1 _ a3 a4 => h v' w' a1 ((hA.app h1).past hO a4) a3 a4)
  obtain ⟨g, e, hg⟩ := own_heads hr h0
  exact ⟨g, e, fun _ => own_apart types_ne hr.own hO.own hg⟩
/-- one number is appended to a row of the call's own; what has turned is told -/
theorem wpList_appendIG {P : Program} {w : World} {ops : Array Oper} {rest : List Oper} {o : Oper} {a : Act} {Q : Exit → Act → World → Prop} (hgd : Region.wanted o (yielded ops a.tmps) = true) (s x : Operand) (t : TypeId)
    (ho : o.op = .call { callee := .builtin .append, args := #[s, x], argTypes := #[t, t] })
    (base : Nat) (e : TypeId) (i : TypeInfo) (z : Value) (ht : P.underlying t = some (.slice e)) (hi : P.info? e = some i) (hz : i.zero = some z)
    (hsize : i.size = 1) (hby : i.bytes = 8) (hzs : z.cells.size = 1)
    (v : Value) (n : Nat) (l : List Int) (hs : a.eval s = v) (hO : OwnI w base e v n l)
    (ad : Addr) (x1 : Int) (hx : a.eval x = .slice (some ad) 1 1) (hnews : ∀ j u, [Value.int .i64 x1][j]? = some u → w.cell? (ad.add j) = some u)
    (hn : n ≤ 4000000) (hbase : base ≤ w.heap.size)
    (h : ∀ v' w', OwnI w' base e v' (n + 1) (l ++ [x1]) → Below base w w' → w.grownBy w' v.ownBlock → wpList P ops Q rest (a.put o.dst v') w') : wpList P ops Q (o :: rest) a w :=
  wantedL hgd fun _ hK => wp_append_own w s x t ho base e i z 1 8 ht hi hz hsize hby hzs (by decide) v n (ints l) hs hO.own ad 1 1 _ hx rfl hnews (one_one _ rfl) (by unfold maxLen; omega) (by omega) hbase
    fun v' w' h2 h3 _ => hK _ _ (h v' w' (hO.push h2) (below_grown h3 hbase fun _ hk => hO.block hk) h3)
/-- one number is appended to a row of the call's own, in a region that draws its order -/
theorem wp_appendI {P : Program} {w : World} {o : Oper} {a : Act} {K : Act → World → Prop} {Q : Exit → Act → World → Prop} (s x : Operand) (t : TypeId)
    (ho : o.op = .call { callee := .builtin .append, args := #[s, x], argTypes := #[t, t] })
    (base : Nat) (e : TypeId) (i : TypeInfo) (z : Value) (ht : P.underlying t = some (.slice e)) (hi : P.info? e = some i) (hz : i.zero = some z)
    (hsize : i.size = 1) (hby : i.bytes = 8) (hzs : z.cells.size = 1)
    (v : Value) (n : Nat) (l : List Int) (hs : a.eval s = v) (hO : OwnI w base e v n l)
    (ad : Addr) (x1 : Int) (hx : a.eval x = .slice (some ad) 1 1) (hnews : ∀ j u, [Value.int .i64 x1][j]? = some u → w.cell? (ad.add j) = some u)
    (hn : n ≤ 4000000) (hbase : base ≤ w.heap.size)
    (h : ∀ v' w', OwnI w' base e v' (n + 1) (l ++ [x1]) → Below base w w' → K (a.put o.dst v') w') : o.wp P a w K Q :=
  wp_append_own w s x t ho base e i z 1 8 ht hi hz hsize hby hzs (by decide) v n (ints l) hs hO.own ad 1 1 _ hx rfl hnews (one_one _ rfl) (by unfold maxLen; omega) (by omega) hbase
    fun v' w' h2 h3 _ => h v' w' (hO.push h2) (below_grown h3 hbase fun _ hk => hO.block hk)
theorem slvs_set (rs : List RV) (j : Nat) (r : RV) : slvs (rs.set j r) = (slvs rs).set j (slv r) := by simp [slvs, List.map_set]
/-- one row of a list is put anew -/
theorem OwnR.put {w w' : World} {base : Nat} {t : TypeId} {g n c : Nat} {rs : List RV} (h : w.ownsRow base t 1 (.slice (some ⟨g, 0, none⟩) n c) n (slvs rs)) (hl : rs.length = n) (j : Nat) (r : RV) (hw : w' = w.setCell ⟨g, j, none⟩ (slv r)) (hr : RdAll w' (rs.set j r)) :
    OwnR w' base t (.slice (some ⟨g, 0, none⟩) n c) n (rs.set j r) := by
  subst hw
  obtain ⟨h1, h2⟩ := h
  refine ⟨⟨by rw [slvs_set, List.length_set, slvs_len, hl, Nat.mul_one], ?_⟩, by rw [List.length_set, hl], hr⟩
  rcases h2 with ⟨h2, _⟩ | ⟨g', cap, cur, hv, hb, hh, hn, hc, hs, ht⟩
  · cases h2
  · injection hv with hv1 hv2 hv3
    injection hv1 with hv1
    injection hv1 with hv1
    subst hv1 hv3
    have hb2 : Blk (w.setCell ⟨g, j, none⟩ (slv r)) g t (cur.setIfInBounds j (slv r)) := Blk.put hh _ _
    refine .inr ⟨g, c, _, rfl, hb, hb2, hn, hc, by simpa using hs, ?_⟩
    rw [slvs_set, ← ht, Array.toList_setIfInBounds, List.take_set]
/-- the rows lie in blocks that differ -/
def Differ (rs : List RV) : Prop := rs.Pairwise fun a b => ∀ g, (slv a).ownBlock = some g → (slv b).ownBlock ≠ some g
theorem Differ.snoc {w : World} {B B2 : Nat} {rs : List RV} {r : RV} (h : Differ rs) (ha : OwnAll w B rs) (hw : w.heap.size ≤ B2) {w2 : World} (hr : OwnI w2 B2 3 (slv r) r.n r.l) : Differ (rs ++ [r]) := by
  refine List.pairwise_append.2 ⟨h, by simp, fun a haa b hb g hg hg2 => ?_⟩
  obtain rfl : b = r := by simpa using hb
  have h1 := own_lt (ha a haa).own hg
  have h2 := own_base hr.own hg2
  omega
end Go.Proofs.Ytbaplcdedijaeaa
