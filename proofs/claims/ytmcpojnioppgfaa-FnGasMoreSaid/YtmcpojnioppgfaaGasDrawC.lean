/-
  Contract of DrawGasCurve: some short curve or list, some lags.
-/
import Derived.Test.YtmcpojnioppgfaaGasDraw
namespace Go.Proofs.Ytmcpojnioppgfaa
open Go.RowKit

theorem kinds_ne : 31 ≠ 3 := by decide
/-- a row of knots over a step that turns the block of a row of numbers -/
theorem OwnP.pastI {w w' : World} {base base' n m : Nat} {v v2 : Value} {l : List (Int × Int)} {ml : List Int} (h : OwnP w base 31 v n l) (hv : OwnI w base' 3 v2 m ml) (hg : w.grownBy w' v2.ownBlock) : OwnP w' base 31 v n l :=
  ⟨own_keep h.own fun g hg' => hg.block g (own_lt h.own hg') (fun e => own_apart kinds_ne h.own hv.own hg' e.symm), h.len⟩
theorem wpList_appendIK {P : Program} {w : World} {ops : Array Oper} {rest : List Oper} {o : Oper} {a : Act} {Q : Exit → Act → World → Prop} (hgd : Region.wanted o (yielded ops a.tmps) = true) (s x : Operand) (t : TypeId)
    (ho : o.op = .call { callee := .builtin .append, args := #[s, x], argTypes := #[t, t] })
    (base : Nat) (e : TypeId) (i : TypeInfo) (z : Value) (ht : P.underlying t = some (.slice e)) (hi : P.info? e = some i) (hz : i.zero = some z)
    (hsize : i.size = 1) (hby : i.bytes = 8) (hzs : z.cells.size = 1)
    (v : Value) (n : Nat) (l : List Int) (hs : a.eval s = v) (hO : OwnI w base e v n l)
    (ad : Addr) (x1 : Int) (hx : a.eval x = .slice (some ad) 1 1) (hnews : ∀ j u, [Value.int .i64 x1][j]? = some u → w.cell? (ad.add j) = some u)
    (hn : n ≤ 4000000) (hbase : base ≤ w.heap.size)
    (h : ∀ v' w', OwnI w' base e v' (n + 1) (l ++ [x1]) → Below base w w' → w.grownBy w' v.ownBlock → wpList P ops Q rest (a.put o.dst v') w') : wpList P ops Q (o :: rest) a w :=
  wantedL hgd fun _ hK => wp_append_own w s x t ho base e i z 1 8 ht hi hz hsize hby hzs (by decide) v n (ints l) hs hO.own ad 1 1 _ hx rfl hnews (one_one _ rfl) (by unfold maxLen; omega) (by omega) hbase
    fun v' w' h2 h3 _ => hK _ _ (h v' w' (hO.push h2) (below_grown h3 hbase fun _ hk => hO.block hk) h3)
def LagRel (B g p n c base : Nat) (A : Option Addr) (l : List (Int × Int)) (w1 : World) (o i : Value) (wr : World) : Prop :=
  ∃ (k : Nat) (ml : List Int), k ≤ n ∧ i = .int .i64 k ∧ OwnI wr base 3 o k ml ∧ OwnP wr w1.heap.size 31 (.slice A n c) n l ∧ Rdr wr B g (p + k) ∧ w1.grownBy wr (some g) ∧ base ≤ wr.heap.size
theorem gc_mk {w w1 W : World} {A B : Option Addr} {n c m cm base : Nat} {l : List (Int × Int)} {ml : List Int} (h1 : 1 ≤ n) (h2 : n ≤ 6) (h3 : n ≤ c) (hm : m ≤ 7) (hO : OwnI W base 3 (.slice B m cm) m ml) (hP : OwnP W w1.heap.size 31 (.slice A n c) n l) (hG : w1.grownBy W (some w.heap.size)) (hb : Below w.heap.size w w1) (hs : w1.heap.size = w.heap.size + 1) : DrawGC w (.returned (.tuple #[.slice A n c, .slice B m cm])) W := by
  obtain ⟨_, _, hv, hc, _, hr, _⟩ := hO.form
  injection hv with hv1 hv2 hv3
  subst hv1 hv3
  exact ⟨A, n, c, l, _, m, _, ml, rfl, hm, hc, hr, ⟨h1, h2, h3, hP.rd⟩, only_to_below hG hb (Nat.le_refl _) (by omega)⟩
theorem OwnI.put0 {w : World} {base : Nat} {t : TypeId} {g n c : Nat} {l : List Int} (h : OwnI w base t (.slice (some ⟨g, 0, none⟩) n c) n l) (j : Nat) (x : Int) :
    OwnI (w.setCell ⟨g, j, none⟩ (.int .i64 x)) base t (.slice (some ⟨g, 0, none⟩) n c) n (l.set j x) := by
  obtain ⟨⟨h1, h2⟩, hl⟩ := h
  refine ⟨⟨by rw [ints_len, List.length_set, hl, Nat.mul_one], ?_⟩, by rw [List.length_set, hl]⟩
  rcases h2 with ⟨h2, _⟩ | ⟨g', cap, cur, hv, hb, hh, hn, hc, hs, ht⟩
  · cases h2
  · injection hv with hv1 hv2 hv3
    injection hv1 with hv1
    injection hv1 with hv1
    subst hv1 hv3
    have hb2 : Blk (w.setCell ⟨g, j, none⟩ (.int .i64 x)) g t (cur.setIfInBounds j (.int .i64 x)) := Blk.put hh _ _
    refine .inr ⟨g, c, _, rfl, hb, hb2, hn, hc, by simpa using hs, ?_⟩
    have e : ints (l.set j x) = (ints l).set j (.int .i64 x) := by simp [ints, List.map_set]
    rw [e, ← ht, Array.toList_setIfInBounds, List.take_set]
theorem OwnI.cellG {w : World} {base : Nat} {t : TypeId} {g n c : Nat} {l : List Int} (h : OwnI w base t (.slice (some ⟨g, 0, none⟩) n c) n l) {j : Nat} (hj : j < n) :
    (∃ u, w.cell? ⟨g, j, none⟩ = some (.int .i64 u)) ∧ w.frozen? ⟨g, j, none⟩ = false := by
  obtain ⟨A, c', hv, _, _, _, hr⟩ := h.form
  obtain ⟨g', rfl, _, hr⟩ := hr (by omega)
  injection hv with hv1
  injection hv1 with hv1
  injection hv1 with hv1
  subst hv1
  have := hr.cell hj
  exact ⟨⟨_, this.1⟩, this.2⟩
theorem OwnP.putI {w : World} {base base' g n m c : Nat} {v : Value} {l : List (Int × Int)} {ml : List Int} (h : OwnP w base 31 v n l) (hv : OwnI w base' 3 (.slice (some ⟨g, 0, none⟩) m c) m ml) (j : Nat) (u : Value) : OwnP (w.setCell ⟨g, j, none⟩ u) base 31 v n l :=
  ⟨own_keep h.own fun k hk => Below.heap_setCell w ⟨g, j, none⟩ u k (by
    have := own_apart kinds_ne h.own hv.own hk
    simpa [Value.ownBlock] using fun e : k = g => this (by simp [Value.ownBlock, e])), h.len⟩

set_option maxHeartbeats 4000000 in
theorem c_DrawGasCurve (A : Option Addr) (n c : Nat) (w : World) (h : RdB w A n) (hn : n ≤ 1048576) (hc : n ≤ c) :
    Calls Try.prog 11 #[.slice A n c] w (DrawGC w) := by
  have HB := Lib.hid h
  clear h
  obtain ⟨j0, hj, hy0, hy1, hy2⟩ := info_parts info_intD
  have HJ := Lib.hid hj
  have HY0 := Lib.hid hy0
  have HY1 := Lib.hid hy1
  have HY2 := Lib.hid hy2
  clear hj hy0 hy1 hy2
  go_enter Try.func11, Try.ntmps11
  go_wp2_with fail
  refine (c_l6Open _ _ _ _ HB.out (by omega) hc).mono ?_
  rintro e w1 ⟨rfl, hr1, hb1, hs1⟩
  have HR1 := Lib.hid hr1
  have HS1 := Lib.hid hs1
  clear hr1 hs1
  go_wp2_with fail
  refine (c_l93Ice _ _ _ _ (by omega) HR1.out).mono ?_
  rintro e w2 ⟨A2, n2, c2, l, rfl, hn1, hn2, hc2, hO2, ⟨p2, hp2, hr2⟩, hg2⟩
  have HO2 := Lib.hid hO2
  have HG2 := Lib.hid hg2
  have HR2 := Lib.hid hr2
  have hg1 : w.heap.size < w1.heap.size := by have := HS1.out; omega
  have hz2 : w1.heap.size ≤ w2.heap.size := hg2.size
  clear hO2 hg2 hr2
  go_wp2_with fail
  refine (c_pick _ _ p2 _ _ (by omega) (HR2.out.below ((Below.refl _ _).alloc (Nat.le_refl _) _))).mono ?_
  rintro e w4 ⟨y, rfl, hx0, hx1, hr4, hg4, hs4⟩
  have HR4 := Lib.hid hr4
  have hz4 : w2.heap.size ≤ w4.heap.size := by have := hg4.size; simp at this; omega
  have HG4 := Lib.hid (only_same (only_alloc HG2.out _) hg4)
  have HO4 := Lib.hid ((HO2.out.alloc _).grown hg4 hg1)
  have HI4 := Lib.hid ((OwnI.empty w2 3 (Nat.le_refl _)).grown hg4 (by omega))
  clear hr4 hg4 hs4 HR2 HG2 HO2
  go_wp2_with fail
  go_loopw [6, 8] (fun o i wr => LagRel w.heap.size w.heap.size (p2 + 1) n2 c2 w2.heap.size A2 l w1 o i wr) (fun _ i _ => n2 - (intOf i).toNat)
  case atStart => exact ⟨0, [], Nat.zero_le _, rfl, HI4.out, HO4.out, HR4.out, HG4.out, hz4⟩
  case round =>
    obtain ⟨k, ml, hk, rfl, hO, hP, hR, hG, hz⟩ := hrel
    obtain ⟨A9, c9, rfl, hc9, _, _, hrow⟩ := hO.form
    have HROW := Lib.hid hrow
    have HO := Lib.hid hO
    have HP := Lib.hid hP
    have HR := Lib.hid hR
    have HG := Lib.hid hG
    clear hO hP hR hG hrow HR4 HG4 HO4 HI4
    by_cases hlt : k < n2
    · go_wp2_with fail
      refine (c_pick _ _ _ _ _ (by omega) HR.out).mono ?_
      rintro e w5 ⟨z, rfl, hz0, hz1, hr5, hg5, hs5⟩
      have HR5 := Lib.hid hr5
      have HG5 := Lib.hid (only_same HG.out hg5)
      have HP5 := Lib.hid (HP.out.grown hg5 hg1)
      have HI5 := Lib.hid (HO.out.grown hg5 (by omega))
      have hz5 : w2.heap.size ≤ w5.heap.size := by have := hg5.size; omega
      clear hr5 hg5 hs5 HR HG HP HO HROW
      rcases Int.lt_or_le 0 (y + z - 7) with hmx | hmx
      all_goals
        go_wp2_with (at_builtin; refine wpList_appendIK (by rfl) _ _ 24 rfl w2.heap.size 3 j0 (.int .i64 0) Try.underlying24 HJ.out HY0.out HY1.out HY2.out rfl _ k ml rfl (HI5.out.alloc _) ⟨w5.heap.size, 0, none⟩ _ rfl (cell_1 _ _ _) (by omega) (by simp; omega) ?_; intro v' w6 hO6 hB6 hG6)
        have HP6 := Lib.hid ((HP5.out.alloc _).pastI (HI5.out.alloc _) hG6)
        have hz6 := hB6.size
        go_roundw
        case rel => exact ⟨k + 1, _, by omega, by go_num, hO6, HP6.out, by rw [show p2 + 1 + (k + 1) = p2 + 1 + k + 1 by omega]; exact (HR5.out.below ((Below.refl _ _).alloc (Nat.le_refl _) _)).belowAt hB6 (by omega), only_belowAt (only_alloc HG5.out _) hB6 (by omega), by simp at hz6; omega⟩
        case measure => simp [intOf]; omega
    · obtain rfl : k = n2 := by omega
      obtain ⟨gb, rfl, hgb, _⟩ := HROW.out (by omega)
      go_wp2_with fail
      refine (c_pick _ _ _ _ _ (by omega) HR.out).mono ?_
      rintro e w5 ⟨z, rfl, hz0, hz1, hr5, hg5, hs5⟩
      have HR5 := Lib.hid hr5
      have HG5 := Lib.hid (only_same HG.out hg5)
      have HP5 := Lib.hid (HP.out.grown hg5 hg1)
      have HI5 := Lib.hid (HO.out.grown hg5 (by omega))
      have hz5 : w2.heap.size ≤ w5.heap.size := by have := hg5.size; omega
      clear hr5 hg5 hs5 HR HG HP HO HROW
      by_cases h0 : z = 0
      · subst h0
        go_wp2_with fail
        refine (c_pick _ _ _ _ _ (by omega) (HR5.out.below ((Below.refl _ _).alloc (Nat.le_refl _) _))).mono ?_
        rintro e w6 ⟨u, rfl, hu0, hu1, hr6, hg6, hs6⟩
        have HG6 := Lib.hid (only_same (only_alloc HG5.out _) hg6)
        have HP6 := Lib.hid ((HP5.out.alloc _).grown hg6 hg1)
        have HI6 := Lib.hid ((HI5.out.alloc _).grown hg6 (by omega))
        obtain ⟨q0, q1⟩ := lit2 hg6 (by omega)
        obtain ⟨⟨v0, hv0⟩, hf0⟩ := HI6.out.cellG (j := 0) (by omega)
        clear hr6 hg6 hs6
        rcases (show u = 0 ∨ u = 1 by omega) with rfl | rfl
        all_goals
          go_wp2
          go_ret2
          exact gc_mk hn1 hn2 hc2 (by omega) (HI6.out.put0 0 _) (HP6.out.putI HI6.out 0 _) (only_setCell HG6.out (.inr (by show w1.heap.size ≤ gb; omega)) _) hb1 HS1.out
      · have h0' : (z == 0) = false := by simpa using h0
        by_cases h1 : z = 1
        · subst h1
          go_wp2_with (at_builtin; refine wpList_appendIK (by rfl) _ _ 24 rfl w2.heap.size 3 j0 (.int .i64 0) Try.underlying24 HJ.out HY0.out HY1.out HY2.out rfl _ k ml rfl (HI5.out.alloc _) ⟨w5.heap.size, 0, none⟩ 0 rfl (cell_1 _ _ _) (by omega) (by simp; omega) ?_; intro v' w6 hO6 hB6 hG6; have HP6 := Lib.hid ((HP5.out.alloc _).pastI (HI5.out.alloc _) hG6); have HO6 := Lib.hid hO6; obtain ⟨A6, c6, rfl, _⟩ := hO6.form; have HG6 := Lib.hid (only_belowAt (only_alloc HG5.out _) hB6 (by omega)); clear hO6 hB6 hG6)
          go_ret2
          exact gc_mk hn1 hn2 hc2 (by omega) HO6.out HP6.out HG6.out hb1 HS1.out
        · have h1' : (z == 1) = false := by simpa using h1
          go_wp2
          go_ret2
          exact gc_mk hn1 hn2 hc2 (by omega) HI5.out HP5.out HG5.out hb1 HS1.out
end Go.Proofs.Ytmcpojnioppgfaa
