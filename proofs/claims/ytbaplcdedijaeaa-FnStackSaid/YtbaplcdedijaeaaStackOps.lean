/-
  Slices that are built and appended to in any order: laws that name the new value and the new world. No function of the program in sight.
-/
import Derived.Test.YtbaplcdedijaeaaStackLawW
import Derived.Test.YtbaplcdedijaeaaStackDrawS
namespace Go.Proofs.Ytbaplcdedijaeaa
open Go.RowKit

/-- one row in a block of its own -/
theorem OwnI.single (w : World) (t : TypeId) {base : Nat} (hb : base ≤ w.heap.size) (x : Int) : OwnI (w.alloc (.cells #[.int .i64 x] t)) base t (.slice (some ⟨w.heap.size, 0, none⟩) 1 1) 1 [x] :=
  ⟨⟨rfl, .inr ⟨w.heap.size, 1, #[.int .i64 x], rfl, hb, heap_alloc_new w _, Nat.le_refl _, by unfold maxLen; omega, rfl, rfl⟩⟩, rfl⟩
theorem below_new (w : World) (o : Obj) : Below w.heap.size w (w.alloc o) := (Below.refl _ _).alloc (Nat.le_refl _) _
/-- two values never lie in one block -/
def Off (v v' : Value) : Prop := ∀ g, v.ownBlock = some g → v'.ownBlock ≠ some g
theorem OwnI.offs {w w' : World} {base n : Nat} {t : TypeId} {v v' : Value} {l : List Int} (h : OwnI w base t v n l) (ho : Off v v') (hg : w.grownBy w' v'.ownBlock) : OwnI w' base t v n l :=
  h.keep fun g hg' => hg.block g (own_lt h.own hg') (fun e => ho g hg' e.symm)
theorem OwnI.off_new {w : World} {base n g : Nat} {t : TypeId} {v v' : Value} {l : List Int} (h : OwnI w base t v n l) (hv : v'.ownBlock = some g) (hg : g = w.heap.size) : Off v v' := fun k hk hk' => by
  have := own_lt h.own hk
  rw [hv] at hk'
  injection hk' with hk'
  omega
theorem Off.symm {v v' : Value} (h : Off v v') : Off v' v := fun g h1 h2 => h g h2 h1
/-- a list of rows over a step that turns a row's own block -/
theorem OwnR.past {w w' : World} {v v2 : Value} {n m base base' : Nat} {l : List Int} {qs : List RV} (h : OwnR w base 29 v n qs) (hi : OwnI w base' 3 v2 m l) (hg : w.grownBy w' v2.ownBlock) (hr : RdAll w' qs) : OwnR w' base 29 v n qs :=
  ⟨own_keep h.own fun g hg' => hg.block g (own_lt h.own hg') (fun e => own_apart types_ne.symm h.own hi.own hg' e.symm), h.len, hr⟩
theorem apart_old {w w1 : World} {base n : Nat} {t : TypeId} {v : Value} {rs ks : List RV} (h : OwnR w base t v n rs) (hr : RdAll w1 ks) (hh : Heads ks) (hb : w1.heap.size ≤ base) : Apart v ks := fun r hr' h0 => by
  obtain ⟨g, e⟩ := hh r hr' h0
  refine ⟨g, e, fun hv => ?_⟩
  have h1 := own_base h.own hv
  obtain ⟨b, off, e2, hlt, _⟩ := (hr r hr').1.at_ h0
  rw [e] at e2
  injection e2 with e2
  injection e2 with e3 e4
  omega
section
variable {P : Program} {w : World} {o : Oper} {a : Act} {K : Act → World → Prop} {Q : Exit → Act → World → Prop}
theorem range0 : Array.range 0 = #[] := rfl
theorem range1 : Array.range 1 = #[0] := rfl
theorem run_build0 (w : World) (t e : TypeId) (i : TypeInfo) (hu : P.underlying t = some (.slice e)) (hi : P.info? e = some i) :
    (Instr.buildSlice t 0 #[]).run P w = .ok (.slice (some ⟨w.heap.size, 0, none⟩) 0 0) (w.alloc (.cells #[] e)) := by
  simp [Instr.buildSlice, run_underlying hu, sizeOf, typeInfo, hi, newRow, Instr.fill, range0]
theorem run_build1 (w : World) (t e : TypeId) (i : TypeInfo) (z u : Value) (hu : P.underlying t = some (.slice e)) (hi : P.info? e = some i) (hz : i.zero = some z) (hs : i.size = 1) (hc : u.cells = #[u]) :
    (Instr.buildSlice t 1 #[(0, u)]).run P w = .ok (.slice (some ⟨w.heap.size, 0, none⟩) 1 1) (w.alloc (.cells #[u] e)) := by
  simp [Instr.buildSlice, run_underlying hu, sizeOf, typeInfo, zeroValue, hi, hz, hs, newRow, Instr.fill, hc, range1]
theorem wp_buildI0 (t : TypeId) (ho : o.op = .buildSlice t 0 #[]) (i : TypeInfo) (ht : P.underlying t = some (.slice 3)) (hi : P.info? 3 = some i) (base : Nat) (hb : base ≤ w.heap.size)
    (h : ∀ v w' g, v.ownBlock = some g → g = w.heap.size → OwnI w' base 3 v 0 [] → Below w.heap.size w w' → K (a.put o.dst v) w') : o.wp P a w K Q := by
  unfold Oper.wp execOp
  simp only [ho, Sem.run_bind, List.map_toArray, List.map_nil, run_build0 w t _ i ht hi, Result.andThen_ok]
  exact h _ _ _ rfl rfl (OwnI.empty w _ hb) (below_new w _)
theorem wp_buildR0 (t : TypeId) (ho : o.op = .buildSlice t 0 #[]) (i : TypeInfo) (ht : P.underlying t = some (.slice 29)) (hi : P.info? 29 = some i) (base : Nat) (hb : base ≤ w.heap.size)
    (h : ∀ v w', OwnR w' base 29 v 0 [] → Below w.heap.size w w' → K (a.put o.dst v) w') : o.wp P a w K Q := by
  unfold Oper.wp execOp
  simp only [ho, Sem.run_bind, List.map_toArray, List.map_nil, run_build0 w t _ i ht hi, Result.andThen_ok]
  exact h _ _ (OwnR.empty w _ hb) (below_new w _)
theorem wp_buildI1 (t : TypeId) (x : Operand) (ho : o.op = .buildSlice t 1 #[(0, x)]) (i : TypeInfo) (z : Value) (ht : P.underlying t = some (.slice 3)) (hi : P.info? 3 = some i) (hz : i.zero = some z) (hs : i.size = 1) (base : Nat) (hb : base ≤ w.heap.size)
    (u : Int) (hx : a.eval x = .int .i64 u)
    (h : ∀ g w', g = w.heap.size → OwnI w' base 3 (.slice (some ⟨g, 0, none⟩) 1 1) 1 [u] → Below w.heap.size w w' → K (a.put o.dst (.slice (some ⟨g, 0, none⟩) 1 1)) w') : o.wp P a w K Q := by
  unfold Oper.wp execOp
  simp only [ho, Sem.run_bind, List.map_toArray, List.map_cons, List.map_nil, hx, run_build1 w t _ i z (.int .i64 u) ht hi hz hs rfl, Result.andThen_ok]
  exact h _ _ rfl (OwnI.single w _ hb u) (below_new w _)
theorem wp_buildR1 (t : TypeId) (x : Operand) (ho : o.op = .buildSlice t 1 #[(0, x)]) (i : TypeInfo) (z : Value) (ht : P.underlying t = some (.slice 29)) (hi : P.info? 29 = some i) (hz : i.zero = some z) (hs : i.size = 1)
    (A : Option Addr) (n c : Nat) (hx : a.eval x = .slice A n c)
    (h : ∀ g w', w'.cell? ⟨g, 0, none⟩ = some (.slice A n c) → Below w.heap.size w w' → K (a.put o.dst (.slice (some ⟨g, 0, none⟩) 1 1)) w') : o.wp P a w K Q := by
  unfold Oper.wp execOp
  simp only [ho, Sem.run_bind, List.map_toArray, List.map_cons, List.map_nil, hx, run_build1 w t _ i z (.slice A n c) ht hi hz hs rfl, Result.andThen_ok]
  exact h _ _ (cell_newD w _ _) (below_new w _)
/-- rows that lie in memory are appended to a list of rows of the call's own -/
theorem wp_appendRR (s x : Operand) (t : TypeId)
    (ho : o.op = .call { callee := .builtin .append, args := #[s, x], argTypes := #[t, t] })
    (base : Nat) (e : TypeId) (i : TypeInfo) (z : Value) (ht : P.underlying t = some (.slice e)) (hi : P.info? e = some i) (hz : i.zero = some z)
    (hsize : i.size = 1) (hby : i.bytes = 24) (hzs : z.cells.size = 1)
    (v : Value) (n : Nat) (rs : List RV) (hs : a.eval s = v) (hO : OwnR w base e v n rs)
    (b off m c : Nat) (ks : List RV) (hx : a.eval x = .slice (some ⟨b, off, none⟩) m c) (hm : ks.length = m)
    (hcell : ∀ i, i < m → w.cell? ⟨b, off + i, none⟩ = some (.slice (rv ks i).A (rv ks i).n (rv ks i).c))
    (hrd : RdAll w (rs ++ ks)) (hA : Apart v (rs ++ ks))
    (hn : n + m ≤ 2000000) (hbase : base ≤ w.heap.size)
    (h : ∀ v' w', OwnR w' base e v' (n + m) (rs ++ ks) → Below base w w' → w.grownBy w' v.ownBlock → K (a.put o.dst v') w') : o.wp P a w K Q := by
  have hcells : ∀ j u, (slvs ks)[j]? = some u → w.cell? ((⟨b, off, none⟩ : Addr).add j) = some u := by
    intro j u hu
    have hj : j < m := by
      have := (List.getElem?_eq_some_iff.1 hu).1
      rw [slvs_len, hm] at this
      exact this
    rw [slvs_at (by omega)] at hu
    injection hu with hu
    rw [add_none, hcell j hj, hu]
  refine wp_append_own w s x t ho base e i z 1 24 ht hi hz hsize hby hzs (by decide) v n (slvs rs) hs hO.own ⟨b, off, none⟩ m c (slvs ks) hx (by rw [slvs_len, hm, Nat.mul_one]) hcells (slvs_one _) (by unfold maxLen; omega) (by omega) hbase ?_
  intro v' w' h2 h3 _
  exact h v' w' ⟨by rw [slvs_app]; exact h2, by simp [hO.len, hm], rdall_off hrd hA h3.size (fun k hk hne => h3.block k hk (Ne.symm hne))⟩ (below_grown h3 hbase fun _ hk => hO.block hk) h3
/-- one row is appended to a list of rows of the call's own -/
theorem wp_appendR1 (s x : Operand) (t : TypeId)
    (ho : o.op = .call { callee := .builtin .append, args := #[s, x], argTypes := #[t, t] })
    (base : Nat) (i : TypeInfo) (z : Value) (ht : P.underlying t = some (.slice 29)) (hi : P.info? 29 = some i) (hz : i.zero = some z)
    (hsize : i.size = 1) (hby : i.bytes = 24) (hzs : z.cells.size = 1)
    (v : Value) (n : Nat) (rs : List RV) (hs : a.eval s = v) (hO : OwnR w base 29 v n rs) (hA : Apart v rs)
    (g : Nat) (r : RV) (hx : a.eval x = .slice (some ⟨g, 0, none⟩) 1 1) (hcell : w.cell? ⟨g, 0, none⟩ = some (.slice r.A r.n r.c)) (base' : Nat) (hr : OwnI w base' 3 (.slice r.A r.n r.c) r.n r.l)
    (hn : n ≤ 1000000) (hbase : base ≤ w.heap.size)
    (h : ∀ v' w', OwnR w' base 29 v' (n + 1) (rs ++ [r]) → Below base w w' → K (a.put o.dst v') w') : o.wp P a w K Q := by
  have h1 : OwnAll w base' [r] := OwnAll.one hr
  refine wp_appendRR s x t ho base 29 i z ht hi hz hsize hby hzs v n rs hs hO g 0 1 1 [r] hx rfl (fun j hj => ?_) (hO.rows.app h1.rd) (fun y hy h0 => ?_) (by omega) hbase (fun v' w' a1 a2 _ => h v' w' a1 a2)
  · obtain rfl : j = 0 := by omega
    exact hcell
  · rcases List.mem_append.1 hy with hy | hy
    · exact hA y hy h0
    · exact h1.apart hO y hy h0
/-- a row that lies in memory is appended to a row of the call's own -/
theorem wp_appendJ (s x : Operand) (t : TypeId)
    (ho : o.op = .call { callee := .builtin .append, args := #[s, x], argTypes := #[t, t] })
    (base : Nat) (e : TypeId) (i : TypeInfo) (z : Value) (ht : P.underlying t = some (.slice e)) (hi : P.info? e = some i) (hz : i.zero = some z)
    (hsize : i.size = 1) (hby : i.bytes = 8) (hzs : z.cells.size = 1)
    (v : Value) (n : Nat) (l : List Int) (hs : a.eval s = v) (hO : OwnI w base e v n l)
    (A : Option Addr) (m c : Nat) (k : List Int) (hx : a.eval x = .slice A m c) (hr : RdI w A m k) (hm : 0 < m)
    (hn : n + m ≤ 4000000) (hbase : base ≤ w.heap.size)
    (h : ∀ v' w', OwnI w' base e v' (n + m) (l ++ k) → Below base w w' → w.grownBy w' v.ownBlock → K (a.put o.dst v') w') : o.wp P a w K Q := by
  obtain ⟨b, off, rfl, _, hc⟩ := hr.at_ hm
  refine wp_append_own w s x t ho base e i z 1 8 ht hi hz hsize hby hzs (by decide) v n (ints l) hs hO.own ⟨b, off, none⟩ m c (ints k) hx (by rw [ints_len, hr.len, Nat.mul_one]) (ints_cells hr.len hc) (ints_one _) (by unfold maxLen; omega) (by omega) hbase ?_
  intro v' w' h2 h3 _
  exact h v' w' ⟨by rw [ints_app]; exact h2, by simp [hO.len, hr.len]⟩ (below_grown h3 hbase fun _ hk => hO.block hk) h3
end
theorem rdI_of_rows {w : World} {rs : List RV} (h : RdAll w rs) {i : Nat} (hi : i < rs.length) : RdI w (rv rs i).A (rv rs i).n (rv rs i).l := (h _ (rv_mem hi)).1
theorem own_copyI {w : World} {base n : Nat} {t : TypeId} {v : Value} {l : List Int} (h : OwnI w base t v (0 + n) ([] ++ l)) : OwnI w base t v n l := by simpa using h
/-- what holds in the midst of the region: nothing below has turned -/
structure Mid (w w1 : World) (base : Nat) (W : World) : Prop where
  b0 : Below w.heap.size w W
  b1 : Below w1.heap.size w1 W
  sz : base ≤ W.heap.size
  s0 : w.heap.size ≤ base
  s1 : w1.heap.size ≤ base
theorem Mid.step {w w1 W W' : World} {base : Nat} (h : Mid w w1 base W) (hb : Below base W W') : Mid w w1 base W' :=
  ⟨h.b0.trans (hb.mono h.s0), h.b1.trans (hb.mono h.s1), Nat.le_trans h.sz hb.size, h.s0, h.s1⟩
theorem Mid.new {w w1 W W' : World} {base : Nat} (h : Mid w w1 base W) (hb : Below W.heap.size W W') : Mid w w1 base W' := h.step (hb.mono h.sz)
theorem Mid.cell {w w1 W : World} {base b off : Nat} {u : Value} (h : Mid w w1 base W) (hc : w1.cell? ⟨b, off, none⟩ = some u) (hb : b < w1.heap.size) : W.cell? ⟨b, off, none⟩ = some u := cell_keepD h.b1 hc hb
theorem below_drewS {B : Nat} {a w : World} (h : Below B a w) : Below B a w.drew := ⟨h.os, h.tape, h.output, h.size, h.block⟩
theorem Mid.start {w w1 W : World} (h0 : Below w.heap.size w W) (h1 : Below w1.heap.size w1 W) : Mid w w1 W.heap.size W.drew :=
  ⟨below_drewS h0, below_drewS h1, Nat.le_refl _, h0.size, h1.size⟩
/-- the values that a drawn region leaves are named, so that all its orders go on alike -/
theorem way_cutO {B : Value → Option Addr → Nat → World → Prop} {F : Value → Value → Value → Value → Option Addr → Nat → Value → Nat → Nat → World → Prop} {G : Prop}
    (use : (∀ v0 v2 v3 v7 A9 c9 v11 g8 g10 W, B v11 A9 c9 W → F v0 v2 v3 v7 A9 c9 v11 g8 g10 W) → G) (rest : ∀ v0 v2 v3 v7 A9 c9 v11 g8 g10 W, B v11 A9 c9 W → F v0 v2 v3 v7 A9 c9 v11 g8 g10 W) : G := use rest
end Go.Proofs.Ytbaplcdedijaeaa
