/-
  Contract of DrawWaterSteps: some ratio, some factor and some number of steps within bounds.
-/
import Derived.Test.YtbbipieadjggkaaIsoDrawD
import Derived.Test.YtbbipieadjggkaaBoxes
namespace Go.Proofs.Ytbbipieadjggkaa
open Go.RowKit

theorem Rdr.drew {w : World} {B g p : Nat} (h : Rdr w B g p) : Rdr w.drew B g p := h.of_same fun _ _ => rfl
def DrawFFn (w : World) (e : Ending) (w' : World) : Prop :=
  ∃ rn rd fn fd n : Int, e = .returned (.tuple #[.agg #[.int .i64 rn, .int .i64 rd], .agg #[.int .i64 fn, .int .i64 fd], .int .i64 n]) ∧ -1000000000 ≤ rn ∧ rn ≤ 1000000000 ∧ -1000000000 ≤ rd ∧ rd ≤ 1000000000 ∧ -1000000000 ≤ fn ∧ fn ≤ 1000000000 ∧ -1000000000 ≤ fd ∧ fd ≤ 1000000000 ∧ -1 ≤ n ∧ n ≤ 11 ∧ Below w.heap.size w w'

set_option maxHeartbeats 12000000 in
theorem c_DrawWaterSteps (A : Option Addr) (n c : Nat) (w : World) (h : RdB w A n) (hn : n ≤ 1048576) (hc : n ≤ c) :
    Calls Try.prog 19 #[.slice A n c] w (DrawFFn w) := by
  have HB := Lib.hid h
  clear h
  go_enter Try.func19, Try.ntmps19
  go_wp2_with fail
  refine (c_l6OpenG _ _ _ _ ((HB.out.below ((Below.refl _ _).alloc (Nat.le_refl _) _)).below ((Below.refl _ _).alloc (Nat.le_refl _) _)) (by omega) hc).mono ?_
  rintro e w1 ⟨g, rfl, hg0, hg1, hr1, hb1⟩
  have HR1 := Lib.hid hr1
  have J1 := Lib.hid (blk_n2 hb1)
  have K1 := Lib.hid (blk_n2' hb1)
  have hB1 : Below w.heap.size w w1 := bel2 (Below.refl _ _) hb1
  have hg2 : w.heap.size + 2 ≤ g := by simp at hg0; omega
  clear hr1 hb1 hg0
  go_wp2_with fail
  refine (c_l93Ratio _ g _ _ (by omega) HR1.out).mono ?_
  rintro e w2 ⟨rn, rd, rfl, a0, a1, b0, b1, ⟨q, hq, hr⟩, hg⟩
  have hB2 : Below w.heap.size w w2 := hB1.trans (below_of_grown hg hB1.size (fun k hk => by injection hk with hk; omega))
  have J2 := Lib.hid ((J1.out.keep hg (by simp; omega)).alloc (.cells #[.int .i64 rn, .int .i64 rd] 26))
  have K2 := Lib.hid ((K1.out.keep hg (by simp; omega)).alloc (.cells #[.int .i64 rn, .int .i64 rd] 26))
  have A2 := Lib.hid (blk_new w2 26 #[.int .i64 rn, .int .i64 rd])
  have HR2 := Lib.hid (hr.below ((Below.refl _ _).alloc (Nat.le_refl _) (.cells #[.int .i64 rn, .int .i64 rd] 26)))
  have y2 := hg.size
  have hB2 := hB2.alloc hB2.size (.cells #[.int .i64 rn, .int .i64 rd] 26)
  clear hr hg
  go_wp2_with fail
  refine (c_pick _ g _ 5 _ (by omega) HR2.out).mono ?_
  rintro e w3 ⟨x, rfl, x0, x1, hr, hg, hs⟩
  have HR3 := Lib.hid hr
  have hG3 := hB2.trans (below_of_grown hg hB2.size (fun k hk => by injection hk with hk; omega))
  have hB3 := hG3
  have J3 := Lib.hid (J2.out.keep hg (by simp; omega))
  have K3 := Lib.hid (K2.out.keep hg (by simp; omega))
  have A3 := Lib.hid (A2.out.keep hg (by simp; omega))
  have y3 := hg.size
  simp at y3
  clear hr hg hs hG3
  go_wp2_with fail
  refine (c_pick _ g _ 5 _ (by omega) HR3.out).mono ?_
  rintro e w4 ⟨y, rfl, y0, y1, hr, hg, hs⟩
  have HR4 := Lib.hid hr
  have hG4 := hB3.trans (below_of_grown hg hB3.size (fun k hk => by injection hk with hk; omega))
  have hB4 := hG4
  have J4 := Lib.hid (J3.out.keep hg (by simp; omega))
  have K4 := Lib.hid (K3.out.keep hg (by simp; omega))
  have A4 := Lib.hid (A3.out.keep hg (by simp; omega))
  have y4 := hg.size
  clear hr hg hs hG4
  obtain ⟨n0, n1, n2, n3⟩ := of_bd (1 + x) (1 + y)
  go_wp2_with fail
  refine (c_specFracOf (1 + x) (1 + y) _).mono ?_
  rintro e w5 ⟨rfl, hb⟩
  have J5 := Lib.hid ((blk_b0 J4.out hb).alloc (.cells #[.int .i64 (nF (1 + x) (1 + y)), .int .i64 (dF (1 + x) (1 + y))] 26))
  have K5 := Lib.hid ((blk_b0 K4.out hb).alloc (.cells #[.int .i64 (nF (1 + x) (1 + y)), .int .i64 (dF (1 + x) (1 + y))] 26))
  have A5 := Lib.hid ((blk_b0 A4.out hb).alloc (.cells #[.int .i64 (nF (1 + x) (1 + y)), .int .i64 (dF (1 + x) (1 + y))] 26))
  have F5 := Lib.hid (blk_new w5 26 #[.int .i64 (nF (1 + x) (1 + y)), .int .i64 (dF (1 + x) (1 + y))])
  have HR5 := Lib.hid ((HR4.out.below hb).below ((Below.refl _ _).alloc (Nat.le_refl _) (.cells #[.int .i64 (nF (1 + x) (1 + y)), .int .i64 (dF (1 + x) (1 + y))] 26)))
  have hB5 := (bel0 hB4 hb)
  have y5 := hb.size
  have hB5 := hB5.alloc hB5.size (.cells #[.int .i64 (nF (1 + x) (1 + y)), .int .i64 (dF (1 + x) (1 + y))] 26)
  have hgl : g < w2.heap.size := by have := hB1.size; omega
  clear hb
  generalize nF (1 + x) (1 + y) = fn at *
  generalize dF (1 + x) (1 + y) = fd at *
  go_wp2_with fail
  refine (c_pick _ g _ 16 _ (by omega) HR5.out).mono ?_
  rintro e w6 ⟨z, rfl, z0, z1, hr, hg, hs⟩
  have HR6 := Lib.hid hr
  have hG6 := hB5.trans (below_of_grown hg hB5.size (fun k hk => by injection hk with hk; omega))
  have hB6 := hG6
  have J6 := Lib.hid (J5.out.keep hg (by simp; omega))
  have K6 := Lib.hid (K5.out.keep hg (by simp; omega))
  have A6 := Lib.hid (A5.out.keep hg (by simp; omega))
  have F6 := Lib.hid (F5.out.keep hg (by simp; omega))
  have y6 := hg.size
  simp at y6
  clear hr hg hs hG6
  have HX := Lib.hid (show Boxes w [(w2.heap.size, rn, rd), (w5.heap.size, fn, fd)] w6 from box_cons (box_cons (box_mk hB6) F6.out) A6.out)
  have hgl5 : g < w5.heap.size := by omega
  have hgw : w.heap.size ≤ g := by omega
  have hgw1 : w.heap.size + 1 < w2.heap.size := by omega
  have hgw2 : w.heap.size + 1 < w5.heap.size := by omega
  clear y3 y4 y5 y6
  have hne : ∀ b ∈ [(w2.heap.size, rn, rd), (w5.heap.size, fn, fd)], b.1 ≠ g := by intro b hb; simp at hb; rcases hb with rfl | rfl <;> simp <;> omega
  have HNE := Lib.hid hne
  have HN1 := Lib.hid (show ∀ b ∈ [(w2.heap.size, rn, rd), (w5.heap.size, fn, fd)], b.1 ≠ w.heap.size by intro b hb; simp at hb; rcases hb with rfl | rfl <;> simp <;> omega)
  have HN2 := Lib.hid (show ∀ b ∈ [(w2.heap.size, rn, rd), (w5.heap.size, fn, fd)], b.1 ≠ w.heap.size + 1 by intro b hb; simp at hb; rcases hb with rfl | rfl <;> simp <;> omega)
  clear hne
  have hgl6 : g < w6.heap.size := by have := A6.out.lt; have := F6.out.lt; omega
  have nJ6 : w6.heap.size ≠ w.heap.size := by omega
  have nK6 : w6.heap.size ≠ w.heap.size + 1 := by omega
  clear HB HR1 HR2 HR3 HR4 HR5 J1 J2 J3 J4 J5 K1 K2 K3 K4 K5 A2 A3 A4 A5 F5 hB1 hB2 hB3 hB4 hB5 hg1 hn hc A6 F6
  by_cases hz : z = 0
  · subst hz
    obtain ⟨bs, hr6⟩ := HR6.out
    have hpk := hr6.pk (by omega) 2
    have HR7 := Lib.hid hr6
    obtain ⟨v, hv⟩ : ∃ v, pkV bs (q + 1 + 1 + 1) 2 = v := ⟨_, rfl⟩
    rw [hv] at hpk
    have HP := Lib.hid hv
    clear hr6 hv
    obtain ⟨hp0, hp1⟩ := hpk
    rcases (show v = 0 ∨ v = 1 by omega) with rfl | rfl
    · go_wp2_with fail
      refine wp_region_noPanic ?_
      refine wp_region_held_drew (S := (fun W => ((W.cell? ⟨w2.heap.size, 0, none⟩ = some (.int .i64 rn) ∧ W.cell? ⟨w2.heap.size, 1, none⟩ = some (.int .i64 rd)) ∧ (W.cell? ⟨w5.heap.size, 0, none⟩ = some (.int .i64 fn) ∧ W.cell? ⟨w5.heap.size, 1, none⟩ = some (.int .i64 fd)) ∧ True) ∧ Below w.heap.size w W)) (by kernel_rfl) (box_drew HX.out) (fun hH0 => ?_)
      refine wpAnyH_take (i := 0) (oi := { dst := some 26, op := Go.Op.load 26 (Go.Operand.tmp 6), type := 26, pos := "l93_draw.go:86", after := #[], guard := none }) (v := ?_) rfl (by kernel_rfl) (by kernel_rfl) (by kernel_rfl) (fun _ _ _ h => h) (Or.inl ⟨by rfl, ?_⟩) (by assumption) ?_
      rotate_left
      · (intro w hSw; (try dsimp only at hSw); go_simp; try with_reducible rfl)
      try simp only [Act.put, List.setIfInBounds_toArray, List.set_cons_zero, List.set_cons_succ]
      refine wpAnyH_take (i := 1) (oi := { dst := some 27, op := Go.Op.load 26 (Go.Operand.tmp 7), type := 26, pos := "l93_draw.go:86", after := #[{ on := 7, ground := Go.Ground.gcOnly Go.Departure.lateStores }], guard := none }) (v := ?_) rfl (by kernel_rfl) (by kernel_rfl) (by kernel_rfl) (fun _ _ _ h => h) (Or.inl ⟨by rfl, ?_⟩) (by assumption) ?_
      rotate_left
      · (intro w hSw; (try dsimp only at hSw); go_simp; try with_reducible rfl)
      try simp only [Act.put, List.setIfInBounds_toArray, List.set_cons_zero, List.set_cons_succ]
      refine wpAnyH_take (i := 3) (oi := { dst := some 29, op := Go.Op.move (Go.Operand.tmp 5), type := 47, pos := "l93_draw.go:86", after := #[], guard := none }) (v := ?_) rfl (by kernel_rfl) (by kernel_rfl) (by kernel_rfl) (fun _ _ _ h => h) (Or.inl ⟨by rfl, ?_⟩) (by assumption) ?_
      rotate_left
      · (intro w hSw; (try dsimp only at hSw); go_simp; try with_reducible rfl)
      try simp only [Act.put, List.setIfInBounds_toArray, List.set_cons_zero, List.set_cons_succ]
      refine wpAnyH_ready (rs := [2, 4]) (by kernel_rfl) (by simp) ?_
      refine (AllReadyH.cons (o := { dst := some 28, op := Go.Op.buildSlice 54 2 #[(0, Go.Operand.const (Go.Value.int Go.IntKind.i64 (-1))), (1, Go.Operand.const (Go.Value.int Go.IntKind.i64 11))], type := 54, pos := "l93_draw.go:86", after := #[{ on := 8, ground := Go.Ground.gcOnly Go.Departure.lateStores }], guard := none }) rfl (fun K hK => ?_) (AllReadyH.cons (o := { dst := some 30, op := Go.Op.call { callee := Go.Callee.value (Go.Operand.func 40), args := #[Go.Operand.tmp 29, Go.Operand.const (Go.Value.int Go.IntKind.i64 2)], argTypes := #[47, 3] }, type := 3, pos := "l93_draw.go:86", after := #[{ on := 3, ground := Go.Ground.data }], guard := none }) rfl (fun K hK => ?_) AllReadyH.nil))
      · go_simp
        refine hK.out _ _ (by ((show Boxes w [(w2.heap.size, rn, rd), (w5.heap.size, fn, fd)] _); (repeat (first | (with_reducible exact hS) | (with_reducible exact HX.out) | (with_reducible refine box_drew ?_) | (with_reducible refine box_alloc ?_ _) | (with_reducible refine box_put2 ?_ (Nat.le_refl _) HN1.out _ _) | (with_reducible refine box_put2 ?_ (Nat.le_succ _) HN2.out _ _))))) (fun hH4 => ?_)
        clear hK K hH0
        try simp only [Act.put, List.setIfInBounds_toArray, List.set_cons_zero, List.set_cons_succ]
        refine wpAnyH_ready (rs := [4]) (by kernel_rfl) (by simp) ?_
        refine (AllReadyH.cons (o := { dst := some 30, op := Go.Op.call { callee := Go.Callee.value (Go.Operand.func 40), args := #[Go.Operand.tmp 29, Go.Operand.const (Go.Value.int Go.IntKind.i64 2)], argTypes := #[47, 3] }, type := 3, pos := "l93_draw.go:86", after := #[{ on := 3, ground := Go.Ground.data }], guard := none }) rfl (fun K hK => ?_) AllReadyH.nil)
        go_simp
        refine (c_pickL _ g _ bs 2 _ (by omega) ((HR7.out.alloc _).drew)).mono ?_
        intro e w7 hp
        obtain ⟨he, _, _, hr, hg, hs⟩ := hp
        rw [HP.out] at he
        subst he
        have hS := box_grown (box_drew (box_alloc HX.out _)) hg (by omega) HNE.out
        obtain ⟨l0, l1, _, _⟩ := ((blk_new w6 _ _).drew.keep hg (by simp; omega)).two
        obtain ⟨j0, j1, fj0, fj1⟩ := ((J6.out.alloc _).drew.keep hg (by simp; omega)).two
        obtain ⟨k0, k1, fk0, fk1⟩ := ((K6.out.alloc _).drew.keep hg (by simp; omega)).two
        have yJ7 := cell_lt j0
        have yK7 := cell_lt k0
        have nJ7 : w7.heap.size ≠ w.heap.size := by omega
        have nK7 : w7.heap.size ≠ w.heap.size + 1 := by omega
        clear hr hg hs
        go_wp2_with fail
        refine hK.out _ _ hS (fun hH5 => ?_)
        clear hK K hH4
        try simp only [Act.put, List.setIfInBounds_toArray, List.set_cons_zero, List.set_cons_succ]
        refine wpAnyH_take (i := 5) (oi := { dst := some 31, op := Go.Op.indexAddr 54 (Go.Operand.tmp 28) (Go.Operand.tmp 30), type := 0, pos := "l93_draw.go:86", after := #[{ on := 2, ground := Go.Ground.data }, { on := 4, ground := Go.Ground.data }, { on := 8, ground := Go.Ground.gcOnly Go.Departure.lateStores }], guard := none }) (v := ?_) rfl (by kernel_rfl) (by kernel_rfl) (by kernel_rfl) (fun _ _ _ h => h) (Or.inl ⟨by rfl, ?_⟩) (by assumption) ?_
        rotate_left
        · (intro w hSw; (try dsimp only at hSw); go_simp; try with_reducible rfl)
        try simp only [Act.put, List.setIfInBounds_toArray, List.set_cons_zero, List.set_cons_succ]
        refine wpAnyH_ready (rs := [6, 7]) (by kernel_rfl) (by simp) ?_
        refine (AllReadyH.cons (o := { dst := some 32, op := Go.Op.load 3 (Go.Operand.tmp 31), type := 3, pos := "l93_draw.go:86", after := #[{ on := 5, ground := Go.Ground.data }, { on := 8, ground := Go.Ground.gcOnly Go.Departure.lateStores }], guard := none }) rfl (fun K hK => ?_) (AllReadyH.cons (o := { dst := none, op := Go.Op.store 26 (Go.Operand.tmp 2) (Go.Operand.tmp 26), type := 0, pos := "l93_draw.go:86", after := #[{ on := 0, ground := Go.Ground.data }, { on := 4, ground := Go.Ground.chain }, { on := 0, ground := Go.Ground.phase }, { on := 1, ground := Go.Ground.textOnly Go.Departure.lateStores }, { on := 2, ground := Go.Ground.textOnly Go.Departure.lateStores }, { on := 3, ground := Go.Ground.textOnly Go.Departure.lateStores }, { on := 4, ground := Go.Ground.textOnly Go.Departure.lateStoresUnsure }, { on := 5, ground := Go.Ground.textOnly Go.Departure.lateStores }, { on := 6, ground := Go.Ground.textOnly Go.Departure.lateStores }], guard := none }) rfl (fun K hK => ?_) AllReadyH.nil))
        · go_simp
          refine hK.out _ _ (by ((show Boxes w [(w2.heap.size, rn, rd), (w5.heap.size, fn, fd)] _); (repeat (first | (with_reducible exact hS) | (with_reducible exact HX.out) | (with_reducible refine box_drew ?_) | (with_reducible refine box_alloc ?_ _) | (with_reducible refine box_put2 ?_ (Nat.le_refl _) HN1.out _ _) | (with_reducible refine box_put2 ?_ (Nat.le_succ _) HN2.out _ _))))) (fun hH7 => ?_)
          clear hK K hH5
          try simp only [Act.put, List.setIfInBounds_toArray, List.set_cons_zero, List.set_cons_succ]
          refine wpAnyH_ready (rs := [7]) (by kernel_rfl) (by simp) ?_
          refine (AllReadyH.cons (o := { dst := none, op := Go.Op.store 26 (Go.Operand.tmp 2) (Go.Operand.tmp 26), type := 0, pos := "l93_draw.go:86", after := #[{ on := 0, ground := Go.Ground.data }, { on := 4, ground := Go.Ground.chain }, { on := 0, ground := Go.Ground.phase }, { on := 1, ground := Go.Ground.textOnly Go.Departure.lateStores }, { on := 2, ground := Go.Ground.textOnly Go.Departure.lateStores }, { on := 3, ground := Go.Ground.textOnly Go.Departure.lateStores }, { on := 4, ground := Go.Ground.textOnly Go.Departure.lateStoresUnsure }, { on := 5, ground := Go.Ground.textOnly Go.Departure.lateStores }, { on := 6, ground := Go.Ground.textOnly Go.Departure.lateStores }], guard := none }) rfl (fun K hK => ?_) AllReadyH.nil)
          go_simp
          refine hK.out _ _ (by ((show Boxes w [(w2.heap.size, rn, rd), (w5.heap.size, fn, fd)] _); (repeat (first | (with_reducible exact hS) | (with_reducible exact HX.out) | (with_reducible refine box_drew ?_) | (with_reducible refine box_alloc ?_ _) | (with_reducible refine box_put2 ?_ (Nat.le_refl _) HN1.out _ _) | (with_reducible refine box_put2 ?_ (Nat.le_succ _) HN2.out _ _))))) (fun hH8 => ?_)
          clear hK K hH7
          try simp only [Act.put, List.setIfInBounds_toArray, List.set_cons_zero, List.set_cons_succ]
          refine wpAnyH_ready (rs := [8]) (by kernel_rfl) (by simp) ?_
          refine (AllReadyH.cons (o := { dst := none, op := Go.Op.store 26 (Go.Operand.tmp 3) (Go.Operand.tmp 27), type := 0, pos := "l93_draw.go:86", after := #[{ on := 1, ground := Go.Ground.data }, { on := 7, ground := Go.Ground.chain }, { on := 0, ground := Go.Ground.phase }, { on := 1, ground := Go.Ground.phase }, { on := 2, ground := Go.Ground.textOnly Go.Departure.lateStores }, { on := 3, ground := Go.Ground.textOnly Go.Departure.lateStores }, { on := 4, ground := Go.Ground.textOnly Go.Departure.lateStoresUnsure }, { on := 5, ground := Go.Ground.textOnly Go.Departure.lateStores }, { on := 6, ground := Go.Ground.textOnly Go.Departure.lateStores }, { on := 7, ground := Go.Ground.phase }], guard := none }) rfl (fun K hK => ?_) AllReadyH.nil)
          go_simp
          refine hK.out _ _ (by ((show Boxes w [(w2.heap.size, rn, rd), (w5.heap.size, fn, fd)] _); (repeat (first | (with_reducible exact hS) | (with_reducible exact HX.out) | (with_reducible refine box_drew ?_) | (with_reducible refine box_alloc ?_ _) | (with_reducible refine box_put2 ?_ (Nat.le_refl _) HN1.out _ _) | (with_reducible refine box_put2 ?_ (Nat.le_succ _) HN2.out _ _))))) (fun hH9 => ?_)
          clear hK K hH8
          try simp only [Act.put, List.setIfInBounds_toArray, List.set_cons_zero, List.set_cons_succ]
          refine wpAnyH_take (i := 9) (oi := { dst := some 4, op := Go.Op.assign (Go.Operand.tmp 32), type := 3, pos := "l93_draw.go:86", after := #[{ on := 6, ground := Go.Ground.data }, { on := 8, ground := Go.Ground.chain }, { on := 0, ground := Go.Ground.phase }, { on := 1, ground := Go.Ground.phase }, { on := 2, ground := Go.Ground.phase }, { on := 3, ground := Go.Ground.phase }, { on := 4, ground := Go.Ground.phase }, { on := 5, ground := Go.Ground.phase }, { on := 6, ground := Go.Ground.phase }, { on := 7, ground := Go.Ground.phase }, { on := 8, ground := Go.Ground.phase }], guard := none }) (v := ?_) rfl (by kernel_rfl) (by kernel_rfl) (by kernel_rfl) (fun _ _ _ h => h) (Or.inl ⟨by rfl, ?_⟩) (by assumption) ?_
          rotate_left
          · (intro w hSw; (try dsimp only at hSw); go_simp; try with_reducible rfl)
          try simp only [Act.put, List.setIfInBounds_toArray, List.set_cons_zero, List.set_cons_succ]
          refine wpAnyH_done (by kernel_rfl) ?_ _
          refine NoPanic.normal ?_
          go_wp2
          refine bodyPost_ret (v := .tuple #[.agg #[.int .i64 rn, .int .i64 rd], .agg #[.int .i64 fn, .int .i64 fd], .int .i64 (-1)]) (by simp [results, Try.results19, go_sem, *]) rfl ⟨rn, rd, fn, fd, _, rfl, a0, a1, b0, b1, n0, n1, by omega, n3, by omega, by omega, ?_⟩
          exact box_end (bs := [(w2.heap.size, rn, rd), (w5.heap.size, fn, fd)]) (by assumption)
        · go_simp
          refine hK.out _ _ (by ((show Boxes w [(w2.heap.size, rn, rd), (w5.heap.size, fn, fd)] _); (repeat (first | (with_reducible exact hS) | (with_reducible exact HX.out) | (with_reducible refine box_drew ?_) | (with_reducible refine box_alloc ?_ _) | (with_reducible refine box_put2 ?_ (Nat.le_refl _) HN1.out _ _) | (with_reducible refine box_put2 ?_ (Nat.le_succ _) HN2.out _ _))))) (fun hH7 => ?_)
          clear hK K hH5
          try simp only [Act.put, List.setIfInBounds_toArray, List.set_cons_zero, List.set_cons_succ]
          refine wpAnyH_ready (rs := [6, 8]) (by kernel_rfl) (by simp) ?_
          refine (AllReadyH.cons (o := { dst := some 32, op := Go.Op.load 3 (Go.Operand.tmp 31), type := 3, pos := "l93_draw.go:86", after := #[{ on := 5, ground := Go.Ground.data }, { on := 8, ground := Go.Ground.gcOnly Go.Departure.lateStores }], guard := none }) rfl (fun K hK => ?_) (AllReadyH.cons (o := { dst := none, op := Go.Op.store 26 (Go.Operand.tmp 3) (Go.Operand.tmp 27), type := 0, pos := "l93_draw.go:86", after := #[{ on := 1, ground := Go.Ground.data }, { on := 7, ground := Go.Ground.chain }, { on := 0, ground := Go.Ground.phase }, { on := 1, ground := Go.Ground.phase }, { on := 2, ground := Go.Ground.textOnly Go.Departure.lateStores }, { on := 3, ground := Go.Ground.textOnly Go.Departure.lateStores }, { on := 4, ground := Go.Ground.textOnly Go.Departure.lateStoresUnsure }, { on := 5, ground := Go.Ground.textOnly Go.Departure.lateStores }, { on := 6, ground := Go.Ground.textOnly Go.Departure.lateStores }, { on := 7, ground := Go.Ground.phase }], guard := none }) rfl (fun K hK => ?_) AllReadyH.nil))
          · go_simp
            refine hK.out _ _ (by ((show Boxes w [(w2.heap.size, rn, rd), (w5.heap.size, fn, fd)] _); (repeat (first | (with_reducible exact hS) | (with_reducible exact HX.out) | (with_reducible refine box_drew ?_) | (with_reducible refine box_alloc ?_ _) | (with_reducible refine box_put2 ?_ (Nat.le_refl _) HN1.out _ _) | (with_reducible refine box_put2 ?_ (Nat.le_succ _) HN2.out _ _))))) (fun hH8 => ?_)
            clear hK K hH7
            try simp only [Act.put, List.setIfInBounds_toArray, List.set_cons_zero, List.set_cons_succ]
            refine wpAnyH_ready (rs := [8]) (by kernel_rfl) (by simp) ?_
            refine (AllReadyH.cons (o := { dst := none, op := Go.Op.store 26 (Go.Operand.tmp 3) (Go.Operand.tmp 27), type := 0, pos := "l93_draw.go:86", after := #[{ on := 1, ground := Go.Ground.data }, { on := 7, ground := Go.Ground.chain }, { on := 0, ground := Go.Ground.phase }, { on := 1, ground := Go.Ground.phase }, { on := 2, ground := Go.Ground.textOnly Go.Departure.lateStores }, { on := 3, ground := Go.Ground.textOnly Go.Departure.lateStores }, { on := 4, ground := Go.Ground.textOnly Go.Departure.lateStoresUnsure }, { on := 5, ground := Go.Ground.textOnly Go.Departure.lateStores }, { on := 6, ground := Go.Ground.textOnly Go.Departure.lateStores }, { on := 7, ground := Go.Ground.phase }], guard := none }) rfl (fun K hK => ?_) AllReadyH.nil)
            go_simp
            refine hK.out _ _ (by ((show Boxes w [(w2.heap.size, rn, rd), (w5.heap.size, fn, fd)] _); (repeat (first | (with_reducible exact hS) | (with_reducible exact HX.out) | (with_reducible refine box_drew ?_) | (with_reducible refine box_alloc ?_ _) | (with_reducible refine box_put2 ?_ (Nat.le_refl _) HN1.out _ _) | (with_reducible refine box_put2 ?_ (Nat.le_succ _) HN2.out _ _))))) (fun hH9 => ?_)
            clear hK K hH8
            try simp only [Act.put, List.setIfInBounds_toArray, List.set_cons_zero, List.set_cons_succ]
            refine wpAnyH_take (i := 9) (oi := { dst := some 4, op := Go.Op.assign (Go.Operand.tmp 32), type := 3, pos := "l93_draw.go:86", after := #[{ on := 6, ground := Go.Ground.data }, { on := 8, ground := Go.Ground.chain }, { on := 0, ground := Go.Ground.phase }, { on := 1, ground := Go.Ground.phase }, { on := 2, ground := Go.Ground.phase }, { on := 3, ground := Go.Ground.phase }, { on := 4, ground := Go.Ground.phase }, { on := 5, ground := Go.Ground.phase }, { on := 6, ground := Go.Ground.phase }, { on := 7, ground := Go.Ground.phase }, { on := 8, ground := Go.Ground.phase }], guard := none }) (v := ?_) rfl (by kernel_rfl) (by kernel_rfl) (by kernel_rfl) (fun _ _ _ h => h) (Or.inl ⟨by rfl, ?_⟩) (by assumption) ?_
            rotate_left
            · (intro w hSw; (try dsimp only at hSw); go_simp; try with_reducible rfl)
            try simp only [Act.put, List.setIfInBounds_toArray, List.set_cons_zero, List.set_cons_succ]
            refine wpAnyH_done (by kernel_rfl) ?_ _
            refine NoPanic.normal ?_
            go_wp2
            refine bodyPost_ret (v := .tuple #[.agg #[.int .i64 rn, .int .i64 rd], .agg #[.int .i64 fn, .int .i64 fd], .int .i64 (-1)]) (by simp [results, Try.results19, go_sem, *]) rfl ⟨rn, rd, fn, fd, _, rfl, a0, a1, b0, b1, n0, n1, by omega, n3, by omega, by omega, ?_⟩
            exact box_end (bs := [(w2.heap.size, rn, rd), (w5.heap.size, fn, fd)]) (by assumption)
          · go_simp
            refine hK.out _ _ (by ((show Boxes w [(w2.heap.size, rn, rd), (w5.heap.size, fn, fd)] _); (repeat (first | (with_reducible exact hS) | (with_reducible exact HX.out) | (with_reducible refine box_drew ?_) | (with_reducible refine box_alloc ?_ _) | (with_reducible refine box_put2 ?_ (Nat.le_refl _) HN1.out _ _) | (with_reducible refine box_put2 ?_ (Nat.le_succ _) HN2.out _ _))))) (fun hH8 => ?_)
            clear hK K hH7
            try simp only [Act.put, List.setIfInBounds_toArray, List.set_cons_zero, List.set_cons_succ]
            refine wpAnyH_ready (rs := [6]) (by kernel_rfl) (by simp) ?_
            refine (AllReadyH.cons (o := { dst := some 32, op := Go.Op.load 3 (Go.Operand.tmp 31), type := 3, pos := "l93_draw.go:86", after := #[{ on := 5, ground := Go.Ground.data }, { on := 8, ground := Go.Ground.gcOnly Go.Departure.lateStores }], guard := none }) rfl (fun K hK => ?_) AllReadyH.nil)
            go_simp
            refine hK.out _ _ (by ((show Boxes w [(w2.heap.size, rn, rd), (w5.heap.size, fn, fd)] _); (repeat (first | (with_reducible exact hS) | (with_reducible exact HX.out) | (with_reducible refine box_drew ?_) | (with_reducible refine box_alloc ?_ _) | (with_reducible refine box_put2 ?_ (Nat.le_refl _) HN1.out _ _) | (with_reducible refine box_put2 ?_ (Nat.le_succ _) HN2.out _ _))))) (fun hH9 => ?_)
            clear hK K hH8
            try simp only [Act.put, List.setIfInBounds_toArray, List.set_cons_zero, List.set_cons_succ]
            refine wpAnyH_take (i := 9) (oi := { dst := some 4, op := Go.Op.assign (Go.Operand.tmp 32), type := 3, pos := "l93_draw.go:86", after := #[{ on := 6, ground := Go.Ground.data }, { on := 8, ground := Go.Ground.chain }, { on := 0, ground := Go.Ground.phase }, { on := 1, ground := Go.Ground.phase }, { on := 2, ground := Go.Ground.phase }, { on := 3, ground := Go.Ground.phase }, { on := 4, ground := Go.Ground.phase }, { on := 5, ground := Go.Ground.phase }, { on := 6, ground := Go.Ground.phase }, { on := 7, ground := Go.Ground.phase }, { on := 8, ground := Go.Ground.phase }], guard := none }) (v := ?_) rfl (by kernel_rfl) (by kernel_rfl) (by kernel_rfl) (fun _ _ _ h => h) (Or.inl ⟨by rfl, ?_⟩) (by assumption) ?_
            rotate_left
            · (intro w hSw; (try dsimp only at hSw); go_simp; try with_reducible rfl)
            try simp only [Act.put, List.setIfInBounds_toArray, List.set_cons_zero, List.set_cons_succ]
            refine wpAnyH_done (by kernel_rfl) ?_ _
            refine NoPanic.normal ?_
            go_wp2
            refine bodyPost_ret (v := .tuple #[.agg #[.int .i64 rn, .int .i64 rd], .agg #[.int .i64 fn, .int .i64 fd], .int .i64 (-1)]) (by simp [results, Try.results19, go_sem, *]) rfl ⟨rn, rd, fn, fd, _, rfl, a0, a1, b0, b1, n0, n1, by omega, n3, by omega, by omega, ?_⟩
            exact box_end (bs := [(w2.heap.size, rn, rd), (w5.heap.size, fn, fd)]) (by assumption)
      · go_simp
        refine (c_pickL _ g _ bs 2 _ (by omega) (HR7.out.drew)).mono ?_
        intro e w7 hp
        obtain ⟨he, _, _, hr, hg, hs⟩ := hp
        rw [HP.out] at he
        subst he
        have hS := box_grown (box_drew HX.out) hg (by omega) HNE.out
        obtain ⟨j0, j1, fj0, fj1⟩ := (J6.out.drew.keep hg (by simp; omega)).two
        obtain ⟨k0, k1, fk0, fk1⟩ := (K6.out.drew.keep hg (by simp; omega)).two
        have yJ7 := cell_lt j0
        have yK7 := cell_lt k0
        have nJ7 : w7.heap.size ≠ w.heap.size := by omega
        have nK7 : w7.heap.size ≠ w.heap.size + 1 := by omega
        clear hr hg hs
        go_wp2_with fail
        refine hK.out _ _ hS (fun hH4 => ?_)
        clear hK K hH0
        try simp only [Act.put, List.setIfInBounds_toArray, List.set_cons_zero, List.set_cons_succ]
        refine wpAnyH_ready (rs := [2, 7]) (by kernel_rfl) (by simp) ?_
        refine (AllReadyH.cons (o := { dst := some 28, op := Go.Op.buildSlice 54 2 #[(0, Go.Operand.const (Go.Value.int Go.IntKind.i64 (-1))), (1, Go.Operand.const (Go.Value.int Go.IntKind.i64 11))], type := 54, pos := "l93_draw.go:86", after := #[{ on := 8, ground := Go.Ground.gcOnly Go.Departure.lateStores }], guard := none }) rfl (fun K hK => ?_) (AllReadyH.cons (o := { dst := none, op := Go.Op.store 26 (Go.Operand.tmp 2) (Go.Operand.tmp 26), type := 0, pos := "l93_draw.go:86", after := #[{ on := 0, ground := Go.Ground.data }, { on := 4, ground := Go.Ground.chain }, { on := 0, ground := Go.Ground.phase }, { on := 1, ground := Go.Ground.textOnly Go.Departure.lateStores }, { on := 2, ground := Go.Ground.textOnly Go.Departure.lateStores }, { on := 3, ground := Go.Ground.textOnly Go.Departure.lateStores }, { on := 4, ground := Go.Ground.textOnly Go.Departure.lateStoresUnsure }, { on := 5, ground := Go.Ground.textOnly Go.Departure.lateStores }, { on := 6, ground := Go.Ground.textOnly Go.Departure.lateStores }], guard := none }) rfl (fun K hK => ?_) AllReadyH.nil))
        · go_simp
          refine hK.out _ _ (by ((show Boxes w [(w2.heap.size, rn, rd), (w5.heap.size, fn, fd)] _); (repeat (first | (with_reducible exact hS) | (with_reducible exact HX.out) | (with_reducible refine box_drew ?_) | (with_reducible refine box_alloc ?_ _) | (with_reducible refine box_put2 ?_ (Nat.le_refl _) HN1.out _ _) | (with_reducible refine box_put2 ?_ (Nat.le_succ _) HN2.out _ _))))) (fun hH5 => ?_)
          clear hK K hH4
          try simp only [Act.put, List.setIfInBounds_toArray, List.set_cons_zero, List.set_cons_succ]
          refine wpAnyH_take (i := 5) (oi := { dst := some 31, op := Go.Op.indexAddr 54 (Go.Operand.tmp 28) (Go.Operand.tmp 30), type := 0, pos := "l93_draw.go:86", after := #[{ on := 2, ground := Go.Ground.data }, { on := 4, ground := Go.Ground.data }, { on := 8, ground := Go.Ground.gcOnly Go.Departure.lateStores }], guard := none }) (v := ?_) rfl (by kernel_rfl) (by kernel_rfl) (by kernel_rfl) (fun _ _ _ h => h) (Or.inl ⟨by rfl, ?_⟩) (by assumption) ?_
          rotate_left
          · (intro w hSw; (try dsimp only at hSw); go_simp; try with_reducible rfl)
          try simp only [Act.put, List.setIfInBounds_toArray, List.set_cons_zero, List.set_cons_succ]
          refine wpAnyH_ready (rs := [6, 7]) (by kernel_rfl) (by simp) ?_
          refine (AllReadyH.cons (o := { dst := some 32, op := Go.Op.load 3 (Go.Operand.tmp 31), type := 3, pos := "l93_draw.go:86", after := #[{ on := 5, ground := Go.Ground.data }, { on := 8, ground := Go.Ground.gcOnly Go.Departure.lateStores }], guard := none }) rfl (fun K hK => ?_) (AllReadyH.cons (o := { dst := none, op := Go.Op.store 26 (Go.Operand.tmp 2) (Go.Operand.tmp 26), type := 0, pos := "l93_draw.go:86", after := #[{ on := 0, ground := Go.Ground.data }, { on := 4, ground := Go.Ground.chain }, { on := 0, ground := Go.Ground.phase }, { on := 1, ground := Go.Ground.textOnly Go.Departure.lateStores }, { on := 2, ground := Go.Ground.textOnly Go.Departure.lateStores }, { on := 3, ground := Go.Ground.textOnly Go.Departure.lateStores }, { on := 4, ground := Go.Ground.textOnly Go.Departure.lateStoresUnsure }, { on := 5, ground := Go.Ground.textOnly Go.Departure.lateStores }, { on := 6, ground := Go.Ground.textOnly Go.Departure.lateStores }], guard := none }) rfl (fun K hK => ?_) AllReadyH.nil))
          · go_simp
            refine hK.out _ _ (by ((show Boxes w [(w2.heap.size, rn, rd), (w5.heap.size, fn, fd)] _); (repeat (first | (with_reducible exact hS) | (with_reducible exact HX.out) | (with_reducible refine box_drew ?_) | (with_reducible refine box_alloc ?_ _) | (with_reducible refine box_put2 ?_ (Nat.le_refl _) HN1.out _ _) | (with_reducible refine box_put2 ?_ (Nat.le_succ _) HN2.out _ _))))) (fun hH7 => ?_)
            clear hK K hH5
            try simp only [Act.put, List.setIfInBounds_toArray, List.set_cons_zero, List.set_cons_succ]
            refine wpAnyH_ready (rs := [7]) (by kernel_rfl) (by simp) ?_
            refine (AllReadyH.cons (o := { dst := none, op := Go.Op.store 26 (Go.Operand.tmp 2) (Go.Operand.tmp 26), type := 0, pos := "l93_draw.go:86", after := #[{ on := 0, ground := Go.Ground.data }, { on := 4, ground := Go.Ground.chain }, { on := 0, ground := Go.Ground.phase }, { on := 1, ground := Go.Ground.textOnly Go.Departure.lateStores }, { on := 2, ground := Go.Ground.textOnly Go.Departure.lateStores }, { on := 3, ground := Go.Ground.textOnly Go.Departure.lateStores }, { on := 4, ground := Go.Ground.textOnly Go.Departure.lateStoresUnsure }, { on := 5, ground := Go.Ground.textOnly Go.Departure.lateStores }, { on := 6, ground := Go.Ground.textOnly Go.Departure.lateStores }], guard := none }) rfl (fun K hK => ?_) AllReadyH.nil)
            go_simp
            refine hK.out _ _ (by ((show Boxes w [(w2.heap.size, rn, rd), (w5.heap.size, fn, fd)] _); (repeat (first | (with_reducible exact hS) | (with_reducible exact HX.out) | (with_reducible refine box_drew ?_) | (with_reducible refine box_alloc ?_ _) | (with_reducible refine box_put2 ?_ (Nat.le_refl _) HN1.out _ _) | (with_reducible refine box_put2 ?_ (Nat.le_succ _) HN2.out _ _))))) (fun hH8 => ?_)
            clear hK K hH7
            try simp only [Act.put, List.setIfInBounds_toArray, List.set_cons_zero, List.set_cons_succ]
            refine wpAnyH_ready (rs := [8]) (by kernel_rfl) (by simp) ?_
            refine (AllReadyH.cons (o := { dst := none, op := Go.Op.store 26 (Go.Operand.tmp 3) (Go.Operand.tmp 27), type := 0, pos := "l93_draw.go:86", after := #[{ on := 1, ground := Go.Ground.data }, { on := 7, ground := Go.Ground.chain }, { on := 0, ground := Go.Ground.phase }, { on := 1, ground := Go.Ground.phase }, { on := 2, ground := Go.Ground.textOnly Go.Departure.lateStores }, { on := 3, ground := Go.Ground.textOnly Go.Departure.lateStores }, { on := 4, ground := Go.Ground.textOnly Go.Departure.lateStoresUnsure }, { on := 5, ground := Go.Ground.textOnly Go.Departure.lateStores }, { on := 6, ground := Go.Ground.textOnly Go.Departure.lateStores }, { on := 7, ground := Go.Ground.phase }], guard := none }) rfl (fun K hK => ?_) AllReadyH.nil)
            go_simp
            refine hK.out _ _ (by ((show Boxes w [(w2.heap.size, rn, rd), (w5.heap.size, fn, fd)] _); (repeat (first | (with_reducible exact hS) | (with_reducible exact HX.out) | (with_reducible refine box_drew ?_) | (with_reducible refine box_alloc ?_ _) | (with_reducible refine box_put2 ?_ (Nat.le_refl _) HN1.out _ _) | (with_reducible refine box_put2 ?_ (Nat.le_succ _) HN2.out _ _))))) (fun hH9 => ?_)
            clear hK K hH8
            try simp only [Act.put, List.setIfInBounds_toArray, List.set_cons_zero, List.set_cons_succ]
            refine wpAnyH_take (i := 9) (oi := { dst := some 4, op := Go.Op.assign (Go.Operand.tmp 32), type := 3, pos := "l93_draw.go:86", after := #[{ on := 6, ground := Go.Ground.data }, { on := 8, ground := Go.Ground.chain }, { on := 0, ground := Go.Ground.phase }, { on := 1, ground := Go.Ground.phase }, { on := 2, ground := Go.Ground.phase }, { on := 3, ground := Go.Ground.phase }, { on := 4, ground := Go.Ground.phase }, { on := 5, ground := Go.Ground.phase }, { on := 6, ground := Go.Ground.phase }, { on := 7, ground := Go.Ground.phase }, { on := 8, ground := Go.Ground.phase }], guard := none }) (v := ?_) rfl (by kernel_rfl) (by kernel_rfl) (by kernel_rfl) (fun _ _ _ h => h) (Or.inl ⟨by rfl, ?_⟩) (by assumption) ?_
            rotate_left
            · (intro w hSw; (try dsimp only at hSw); go_simp; try with_reducible rfl)
            try simp only [Act.put, List.setIfInBounds_toArray, List.set_cons_zero, List.set_cons_succ]
            refine wpAnyH_done (by kernel_rfl) ?_ _
            refine NoPanic.normal ?_
            go_wp2
            refine bodyPost_ret (v := .tuple #[.agg #[.int .i64 rn, .int .i64 rd], .agg #[.int .i64 fn, .int .i64 fd], .int .i64 (-1)]) (by simp [results, Try.results19, go_sem, *]) rfl ⟨rn, rd, fn, fd, _, rfl, a0, a1, b0, b1, n0, n1, by omega, n3, by omega, by omega, ?_⟩
            exact box_end (bs := [(w2.heap.size, rn, rd), (w5.heap.size, fn, fd)]) (by assumption)
          · go_simp
            refine hK.out _ _ (by ((show Boxes w [(w2.heap.size, rn, rd), (w5.heap.size, fn, fd)] _); (repeat (first | (with_reducible exact hS) | (with_reducible exact HX.out) | (with_reducible refine box_drew ?_) | (with_reducible refine box_alloc ?_ _) | (with_reducible refine box_put2 ?_ (Nat.le_refl _) HN1.out _ _) | (with_reducible refine box_put2 ?_ (Nat.le_succ _) HN2.out _ _))))) (fun hH7 => ?_)
            clear hK K hH5
            try simp only [Act.put, List.setIfInBounds_toArray, List.set_cons_zero, List.set_cons_succ]
            refine wpAnyH_ready (rs := [6, 8]) (by kernel_rfl) (by simp) ?_
            refine (AllReadyH.cons (o := { dst := some 32, op := Go.Op.load 3 (Go.Operand.tmp 31), type := 3, pos := "l93_draw.go:86", after := #[{ on := 5, ground := Go.Ground.data }, { on := 8, ground := Go.Ground.gcOnly Go.Departure.lateStores }], guard := none }) rfl (fun K hK => ?_) (AllReadyH.cons (o := { dst := none, op := Go.Op.store 26 (Go.Operand.tmp 3) (Go.Operand.tmp 27), type := 0, pos := "l93_draw.go:86", after := #[{ on := 1, ground := Go.Ground.data }, { on := 7, ground := Go.Ground.chain }, { on := 0, ground := Go.Ground.phase }, { on := 1, ground := Go.Ground.phase }, { on := 2, ground := Go.Ground.textOnly Go.Departure.lateStores }, { on := 3, ground := Go.Ground.textOnly Go.Departure.lateStores }, { on := 4, ground := Go.Ground.textOnly Go.Departure.lateStoresUnsure }, { on := 5, ground := Go.Ground.textOnly Go.Departure.lateStores }, { on := 6, ground := Go.Ground.textOnly Go.Departure.lateStores }, { on := 7, ground := Go.Ground.phase }], guard := none }) rfl (fun K hK => ?_) AllReadyH.nil))
            · go_simp
              refine hK.out _ _ (by ((show Boxes w [(w2.heap.size, rn, rd), (w5.heap.size, fn, fd)] _); (repeat (first | (with_reducible exact hS) | (with_reducible exact HX.out) | (with_reducible refine box_drew ?_) | (with_reducible refine box_alloc ?_ _) | (with_reducible refine box_put2 ?_ (Nat.le_refl _) HN1.out _ _) | (with_reducible refine box_put2 ?_ (Nat.le_succ _) HN2.out _ _))))) (fun hH8 => ?_)
              clear hK K hH7
              try simp only [Act.put, List.setIfInBounds_toArray, List.set_cons_zero, List.set_cons_succ]
              refine wpAnyH_ready (rs := [8]) (by kernel_rfl) (by simp) ?_
              refine (AllReadyH.cons (o := { dst := none, op := Go.Op.store 26 (Go.Operand.tmp 3) (Go.Operand.tmp 27), type := 0, pos := "l93_draw.go:86", after := #[{ on := 1, ground := Go.Ground.data }, { on := 7, ground := Go.Ground.chain }, { on := 0, ground := Go.Ground.phase }, { on := 1, ground := Go.Ground.phase }, { on := 2, ground := Go.Ground.textOnly Go.Departure.lateStores }, { on := 3, ground := Go.Ground.textOnly Go.Departure.lateStores }, { on := 4, ground := Go.Ground.textOnly Go.Departure.lateStoresUnsure }, { on := 5, ground := Go.Ground.textOnly Go.Departure.lateStores }, { on := 6, ground := Go.Ground.textOnly Go.Departure.lateStores }, { on := 7, ground := Go.Ground.phase }], guard := none }) rfl (fun K hK => ?_) AllReadyH.nil)
              go_simp
              refine hK.out _ _ (by ((show Boxes w [(w2.heap.size, rn, rd), (w5.heap.size, fn, fd)] _); (repeat (first | (with_reducible exact hS) | (with_reducible exact HX.out) | (with_reducible refine box_drew ?_) | (with_reducible refine box_alloc ?_ _) | (with_reducible refine box_put2 ?_ (Nat.le_refl _) HN1.out _ _) | (with_reducible refine box_put2 ?_ (Nat.le_succ _) HN2.out _ _))))) (fun hH9 => ?_)
              clear hK K hH8
              try simp only [Act.put, List.setIfInBounds_toArray, List.set_cons_zero, List.set_cons_succ]
              refine wpAnyH_take (i := 9) (oi := { dst := some 4, op := Go.Op.assign (Go.Operand.tmp 32), type := 3, pos := "l93_draw.go:86", after := #[{ on := 6, ground := Go.Ground.data }, { on := 8, ground := Go.Ground.chain }, { on := 0, ground := Go.Ground.phase }, { on := 1, ground := Go.Ground.phase }, { on := 2, ground := Go.Ground.phase }, { on := 3, ground := Go.Ground.phase }, { on := 4, ground := Go.Ground.phase }, { on := 5, ground := Go.Ground.phase }, { on := 6, ground := Go.Ground.phase }, { on := 7, ground := Go.Ground.phase }, { on := 8, ground := Go.Ground.phase }], guard := none }) (v := ?_) rfl (by kernel_rfl) (by kernel_rfl) (by kernel_rfl) (fun _ _ _ h => h) (Or.inl ⟨by rfl, ?_⟩) (by assumption) ?_
              rotate_left
              · (intro w hSw; (try dsimp only at hSw); go_simp; try with_reducible rfl)
              try simp only [Act.put, List.setIfInBounds_toArray, List.set_cons_zero, List.set_cons_succ]
              refine wpAnyH_done (by kernel_rfl) ?_ _
              refine NoPanic.normal ?_
              go_wp2
              refine bodyPost_ret (v := .tuple #[.agg #[.int .i64 rn, .int .i64 rd], .agg #[.int .i64 fn, .int .i64 fd], .int .i64 (-1)]) (by simp [results, Try.results19, go_sem, *]) rfl ⟨rn, rd, fn, fd, _, rfl, a0, a1, b0, b1, n0, n1, by omega, n3, by omega, by omega, ?_⟩
              exact box_end (bs := [(w2.heap.size, rn, rd), (w5.heap.size, fn, fd)]) (by assumption)
            · go_simp
              refine hK.out _ _ (by ((show Boxes w [(w2.heap.size, rn, rd), (w5.heap.size, fn, fd)] _); (repeat (first | (with_reducible exact hS) | (with_reducible exact HX.out) | (with_reducible refine box_drew ?_) | (with_reducible refine box_alloc ?_ _) | (with_reducible refine box_put2 ?_ (Nat.le_refl _) HN1.out _ _) | (with_reducible refine box_put2 ?_ (Nat.le_succ _) HN2.out _ _))))) (fun hH8 => ?_)
              clear hK K hH7
              try simp only [Act.put, List.setIfInBounds_toArray, List.set_cons_zero, List.set_cons_succ]
              refine wpAnyH_ready (rs := [6]) (by kernel_rfl) (by simp) ?_
              refine (AllReadyH.cons (o := { dst := some 32, op := Go.Op.load 3 (Go.Operand.tmp 31), type := 3, pos := "l93_draw.go:86", after := #[{ on := 5, ground := Go.Ground.data }, { on := 8, ground := Go.Ground.gcOnly Go.Departure.lateStores }], guard := none }) rfl (fun K hK => ?_) AllReadyH.nil)
              go_simp
              refine hK.out _ _ (by ((show Boxes w [(w2.heap.size, rn, rd), (w5.heap.size, fn, fd)] _); (repeat (first | (with_reducible exact hS) | (with_reducible exact HX.out) | (with_reducible refine box_drew ?_) | (with_reducible refine box_alloc ?_ _) | (with_reducible refine box_put2 ?_ (Nat.le_refl _) HN1.out _ _) | (with_reducible refine box_put2 ?_ (Nat.le_succ _) HN2.out _ _))))) (fun hH9 => ?_)
              clear hK K hH8
              try simp only [Act.put, List.setIfInBounds_toArray, List.set_cons_zero, List.set_cons_succ]
              refine wpAnyH_take (i := 9) (oi := { dst := some 4, op := Go.Op.assign (Go.Operand.tmp 32), type := 3, pos := "l93_draw.go:86", after := #[{ on := 6, ground := Go.Ground.data }, { on := 8, ground := Go.Ground.chain }, { on := 0, ground := Go.Ground.phase }, { on := 1, ground := Go.Ground.phase }, { on := 2, ground := Go.Ground.phase }, { on := 3, ground := Go.Ground.phase }, { on := 4, ground := Go.Ground.phase }, { on := 5, ground := Go.Ground.phase }, { on := 6, ground := Go.Ground.phase }, { on := 7, ground := Go.Ground.phase }, { on := 8, ground := Go.Ground.phase }], guard := none }) (v := ?_) rfl (by kernel_rfl) (by kernel_rfl) (by kernel_rfl) (fun _ _ _ h => h) (Or.inl ⟨by rfl, ?_⟩) (by assumption) ?_
              rotate_left
              · (intro w hSw; (try dsimp only at hSw); go_simp; try with_reducible rfl)
              try simp only [Act.put, List.setIfInBounds_toArray, List.set_cons_zero, List.set_cons_succ]
              refine wpAnyH_done (by kernel_rfl) ?_ _
              refine NoPanic.normal ?_
              go_wp2
              refine bodyPost_ret (v := .tuple #[.agg #[.int .i64 rn, .int .i64 rd], .agg #[.int .i64 fn, .int .i64 fd], .int .i64 (-1)]) (by simp [results, Try.results19, go_sem, *]) rfl ⟨rn, rd, fn, fd, _, rfl, a0, a1, b0, b1, n0, n1, by omega, n3, by omega, by omega, ?_⟩
              exact box_end (bs := [(w2.heap.size, rn, rd), (w5.heap.size, fn, fd)]) (by assumption)
        · go_simp
          refine hK.out _ _ (by ((show Boxes w [(w2.heap.size, rn, rd), (w5.heap.size, fn, fd)] _); (repeat (first | (with_reducible exact hS) | (with_reducible exact HX.out) | (with_reducible refine box_drew ?_) | (with_reducible refine box_alloc ?_ _) | (with_reducible refine box_put2 ?_ (Nat.le_refl _) HN1.out _ _) | (with_reducible refine box_put2 ?_ (Nat.le_succ _) HN2.out _ _))))) (fun hH5 => ?_)
          clear hK K hH4
          try simp only [Act.put, List.setIfInBounds_toArray, List.set_cons_zero, List.set_cons_succ]
          refine wpAnyH_ready (rs := [2, 8]) (by kernel_rfl) (by simp) ?_
          refine (AllReadyH.cons (o := { dst := some 28, op := Go.Op.buildSlice 54 2 #[(0, Go.Operand.const (Go.Value.int Go.IntKind.i64 (-1))), (1, Go.Operand.const (Go.Value.int Go.IntKind.i64 11))], type := 54, pos := "l93_draw.go:86", after := #[{ on := 8, ground := Go.Ground.gcOnly Go.Departure.lateStores }], guard := none }) rfl (fun K hK => ?_) (AllReadyH.cons (o := { dst := none, op := Go.Op.store 26 (Go.Operand.tmp 3) (Go.Operand.tmp 27), type := 0, pos := "l93_draw.go:86", after := #[{ on := 1, ground := Go.Ground.data }, { on := 7, ground := Go.Ground.chain }, { on := 0, ground := Go.Ground.phase }, { on := 1, ground := Go.Ground.phase }, { on := 2, ground := Go.Ground.textOnly Go.Departure.lateStores }, { on := 3, ground := Go.Ground.textOnly Go.Departure.lateStores }, { on := 4, ground := Go.Ground.textOnly Go.Departure.lateStoresUnsure }, { on := 5, ground := Go.Ground.textOnly Go.Departure.lateStores }, { on := 6, ground := Go.Ground.textOnly Go.Departure.lateStores }, { on := 7, ground := Go.Ground.phase }], guard := none }) rfl (fun K hK => ?_) AllReadyH.nil))
          · go_simp
            refine hK.out _ _ (by ((show Boxes w [(w2.heap.size, rn, rd), (w5.heap.size, fn, fd)] _); (repeat (first | (with_reducible exact hS) | (with_reducible exact HX.out) | (with_reducible refine box_drew ?_) | (with_reducible refine box_alloc ?_ _) | (with_reducible refine box_put2 ?_ (Nat.le_refl _) HN1.out _ _) | (with_reducible refine box_put2 ?_ (Nat.le_succ _) HN2.out _ _))))) (fun hH6 => ?_)
            clear hK K hH5
            try simp only [Act.put, List.setIfInBounds_toArray, List.set_cons_zero, List.set_cons_succ]
            refine wpAnyH_take (i := 5) (oi := { dst := some 31, op := Go.Op.indexAddr 54 (Go.Operand.tmp 28) (Go.Operand.tmp 30), type := 0, pos := "l93_draw.go:86", after := #[{ on := 2, ground := Go.Ground.data }, { on := 4, ground := Go.Ground.data }, { on := 8, ground := Go.Ground.gcOnly Go.Departure.lateStores }], guard := none }) (v := ?_) rfl (by kernel_rfl) (by kernel_rfl) (by kernel_rfl) (fun _ _ _ h => h) (Or.inl ⟨by rfl, ?_⟩) (by assumption) ?_
            rotate_left
            · (intro w hSw; (try dsimp only at hSw); go_simp; try with_reducible rfl)
            try simp only [Act.put, List.setIfInBounds_toArray, List.set_cons_zero, List.set_cons_succ]
            refine wpAnyH_ready (rs := [6, 8]) (by kernel_rfl) (by simp) ?_
            refine (AllReadyH.cons (o := { dst := some 32, op := Go.Op.load 3 (Go.Operand.tmp 31), type := 3, pos := "l93_draw.go:86", after := #[{ on := 5, ground := Go.Ground.data }, { on := 8, ground := Go.Ground.gcOnly Go.Departure.lateStores }], guard := none }) rfl (fun K hK => ?_) (AllReadyH.cons (o := { dst := none, op := Go.Op.store 26 (Go.Operand.tmp 3) (Go.Operand.tmp 27), type := 0, pos := "l93_draw.go:86", after := #[{ on := 1, ground := Go.Ground.data }, { on := 7, ground := Go.Ground.chain }, { on := 0, ground := Go.Ground.phase }, { on := 1, ground := Go.Ground.phase }, { on := 2, ground := Go.Ground.textOnly Go.Departure.lateStores }, { on := 3, ground := Go.Ground.textOnly Go.Departure.lateStores }, { on := 4, ground := Go.Ground.textOnly Go.Departure.lateStoresUnsure }, { on := 5, ground := Go.Ground.textOnly Go.Departure.lateStores }, { on := 6, ground := Go.Ground.textOnly Go.Departure.lateStores }, { on := 7, ground := Go.Ground.phase }], guard := none }) rfl (fun K hK => ?_) AllReadyH.nil))
            · go_simp
              refine hK.out _ _ (by ((show Boxes w [(w2.heap.size, rn, rd), (w5.heap.size, fn, fd)] _); (repeat (first | (with_reducible exact hS) | (with_reducible exact HX.out) | (with_reducible refine box_drew ?_) | (with_reducible refine box_alloc ?_ _) | (with_reducible refine box_put2 ?_ (Nat.le_refl _) HN1.out _ _) | (with_reducible refine box_put2 ?_ (Nat.le_succ _) HN2.out _ _))))) (fun hH8 => ?_)
              clear hK K hH6
              try simp only [Act.put, List.setIfInBounds_toArray, List.set_cons_zero, List.set_cons_succ]
              refine wpAnyH_ready (rs := [8]) (by kernel_rfl) (by simp) ?_
              refine (AllReadyH.cons (o := { dst := none, op := Go.Op.store 26 (Go.Operand.tmp 3) (Go.Operand.tmp 27), type := 0, pos := "l93_draw.go:86", after := #[{ on := 1, ground := Go.Ground.data }, { on := 7, ground := Go.Ground.chain }, { on := 0, ground := Go.Ground.phase }, { on := 1, ground := Go.Ground.phase }, { on := 2, ground := Go.Ground.textOnly Go.Departure.lateStores }, { on := 3, ground := Go.Ground.textOnly Go.Departure.lateStores }, { on := 4, ground := Go.Ground.textOnly Go.Departure.lateStoresUnsure }, { on := 5, ground := Go.Ground.textOnly Go.Departure.lateStores }, { on := 6, ground := Go.Ground.textOnly Go.Departure.lateStores }, { on := 7, ground := Go.Ground.phase }], guard := none }) rfl (fun K hK => ?_) AllReadyH.nil)
              go_simp
              refine hK.out _ _ (by ((show Boxes w [(w2.heap.size, rn, rd), (w5.heap.size, fn, fd)] _); (repeat (first | (with_reducible exact hS) | (with_reducible exact HX.out) | (with_reducible refine box_drew ?_) | (with_reducible refine box_alloc ?_ _) | (with_reducible refine box_put2 ?_ (Nat.le_refl _) HN1.out _ _) | (with_reducible refine box_put2 ?_ (Nat.le_succ _) HN2.out _ _))))) (fun hH9 => ?_)
              clear hK K hH8
              try simp only [Act.put, List.setIfInBounds_toArray, List.set_cons_zero, List.set_cons_succ]
              refine wpAnyH_take (i := 9) (oi := { dst := some 4, op := Go.Op.assign (Go.Operand.tmp 32), type := 3, pos := "l93_draw.go:86", after := #[{ on := 6, ground := Go.Ground.data }, { on := 8, ground := Go.Ground.chain }, { on := 0, ground := Go.Ground.phase }, { on := 1, ground := Go.Ground.phase }, { on := 2, ground := Go.Ground.phase }, { on := 3, ground := Go.Ground.phase }, { on := 4, ground := Go.Ground.phase }, { on := 5, ground := Go.Ground.phase }, { on := 6, ground := Go.Ground.phase }, { on := 7, ground := Go.Ground.phase }, { on := 8, ground := Go.Ground.phase }], guard := none }) (v := ?_) rfl (by kernel_rfl) (by kernel_rfl) (by kernel_rfl) (fun _ _ _ h => h) (Or.inl ⟨by rfl, ?_⟩) (by assumption) ?_
              rotate_left
              · (intro w hSw; (try dsimp only at hSw); go_simp; try with_reducible rfl)
              try simp only [Act.put, List.setIfInBounds_toArray, List.set_cons_zero, List.set_cons_succ]
              refine wpAnyH_done (by kernel_rfl) ?_ _
              refine NoPanic.normal ?_
              go_wp2
              refine bodyPost_ret (v := .tuple #[.agg #[.int .i64 rn, .int .i64 rd], .agg #[.int .i64 fn, .int .i64 fd], .int .i64 (-1)]) (by simp [results, Try.results19, go_sem, *]) rfl ⟨rn, rd, fn, fd, _, rfl, a0, a1, b0, b1, n0, n1, by omega, n3, by omega, by omega, ?_⟩
              exact box_end (bs := [(w2.heap.size, rn, rd), (w5.heap.size, fn, fd)]) (by assumption)
            · go_simp
              refine hK.out _ _ (by ((show Boxes w [(w2.heap.size, rn, rd), (w5.heap.size, fn, fd)] _); (repeat (first | (with_reducible exact hS) | (with_reducible exact HX.out) | (with_reducible refine box_drew ?_) | (with_reducible refine box_alloc ?_ _) | (with_reducible refine box_put2 ?_ (Nat.le_refl _) HN1.out _ _) | (with_reducible refine box_put2 ?_ (Nat.le_succ _) HN2.out _ _))))) (fun hH8 => ?_)
              clear hK K hH6
              try simp only [Act.put, List.setIfInBounds_toArray, List.set_cons_zero, List.set_cons_succ]
              refine wpAnyH_ready (rs := [6]) (by kernel_rfl) (by simp) ?_
              refine (AllReadyH.cons (o := { dst := some 32, op := Go.Op.load 3 (Go.Operand.tmp 31), type := 3, pos := "l93_draw.go:86", after := #[{ on := 5, ground := Go.Ground.data }, { on := 8, ground := Go.Ground.gcOnly Go.Departure.lateStores }], guard := none }) rfl (fun K hK => ?_) AllReadyH.nil)
              go_simp
              refine hK.out _ _ (by ((show Boxes w [(w2.heap.size, rn, rd), (w5.heap.size, fn, fd)] _); (repeat (first | (with_reducible exact hS) | (with_reducible exact HX.out) | (with_reducible refine box_drew ?_) | (with_reducible refine box_alloc ?_ _) | (with_reducible refine box_put2 ?_ (Nat.le_refl _) HN1.out _ _) | (with_reducible refine box_put2 ?_ (Nat.le_succ _) HN2.out _ _))))) (fun hH9 => ?_)
              clear hK K hH8
              try simp only [Act.put, List.setIfInBounds_toArray, List.set_cons_zero, List.set_cons_succ]
              refine wpAnyH_take (i := 9) (oi := { dst := some 4, op := Go.Op.assign (Go.Operand.tmp 32), type := 3, pos := "l93_draw.go:86", after := #[{ on := 6, ground := Go.Ground.data }, { on := 8, ground := Go.Ground.chain }, { on := 0, ground := Go.Ground.phase }, { on := 1, ground := Go.Ground.phase }, { on := 2, ground := Go.Ground.phase }, { on := 3, ground := Go.Ground.phase }, { on := 4, ground := Go.Ground.phase }, { on := 5, ground := Go.Ground.phase }, { on := 6, ground := Go.Ground.phase }, { on := 7, ground := Go.Ground.phase }, { on := 8, ground := Go.Ground.phase }], guard := none }) (v := ?_) rfl (by kernel_rfl) (by kernel_rfl) (by kernel_rfl) (fun _ _ _ h => h) (Or.inl ⟨by rfl, ?_⟩) (by assumption) ?_
              rotate_left
              · (intro w hSw; (try dsimp only at hSw); go_simp; try with_reducible rfl)
              try simp only [Act.put, List.setIfInBounds_toArray, List.set_cons_zero, List.set_cons_succ]
              refine wpAnyH_done (by kernel_rfl) ?_ _
              refine NoPanic.normal ?_
              go_wp2
              refine bodyPost_ret (v := .tuple #[.agg #[.int .i64 rn, .int .i64 rd], .agg #[.int .i64 fn, .int .i64 fd], .int .i64 (-1)]) (by simp [results, Try.results19, go_sem, *]) rfl ⟨rn, rd, fn, fd, _, rfl, a0, a1, b0, b1, n0, n1, by omega, n3, by omega, by omega, ?_⟩
              exact box_end (bs := [(w2.heap.size, rn, rd), (w5.heap.size, fn, fd)]) (by assumption)
          · go_simp
            refine hK.out _ _ (by ((show Boxes w [(w2.heap.size, rn, rd), (w5.heap.size, fn, fd)] _); (repeat (first | (with_reducible exact hS) | (with_reducible exact HX.out) | (with_reducible refine box_drew ?_) | (with_reducible refine box_alloc ?_ _) | (with_reducible refine box_put2 ?_ (Nat.le_refl _) HN1.out _ _) | (with_reducible refine box_put2 ?_ (Nat.le_succ _) HN2.out _ _))))) (fun hH6 => ?_)
            clear hK K hH5
            try simp only [Act.put, List.setIfInBounds_toArray, List.set_cons_zero, List.set_cons_succ]
            refine wpAnyH_ready (rs := [2]) (by kernel_rfl) (by simp) ?_
            refine (AllReadyH.cons (o := { dst := some 28, op := Go.Op.buildSlice 54 2 #[(0, Go.Operand.const (Go.Value.int Go.IntKind.i64 (-1))), (1, Go.Operand.const (Go.Value.int Go.IntKind.i64 11))], type := 54, pos := "l93_draw.go:86", after := #[{ on := 8, ground := Go.Ground.gcOnly Go.Departure.lateStores }], guard := none }) rfl (fun K hK => ?_) AllReadyH.nil)
            go_simp
            refine hK.out _ _ (by ((show Boxes w [(w2.heap.size, rn, rd), (w5.heap.size, fn, fd)] _); (repeat (first | (with_reducible exact hS) | (with_reducible exact HX.out) | (with_reducible refine box_drew ?_) | (with_reducible refine box_alloc ?_ _) | (with_reducible refine box_put2 ?_ (Nat.le_refl _) HN1.out _ _) | (with_reducible refine box_put2 ?_ (Nat.le_succ _) HN2.out _ _))))) (fun hH7 => ?_)
            clear hK K hH6
            try simp only [Act.put, List.setIfInBounds_toArray, List.set_cons_zero, List.set_cons_succ]
            refine wpAnyH_take (i := 5) (oi := { dst := some 31, op := Go.Op.indexAddr 54 (Go.Operand.tmp 28) (Go.Operand.tmp 30), type := 0, pos := "l93_draw.go:86", after := #[{ on := 2, ground := Go.Ground.data }, { on := 4, ground := Go.Ground.data }, { on := 8, ground := Go.Ground.gcOnly Go.Departure.lateStores }], guard := none }) (v := ?_) rfl (by kernel_rfl) (by kernel_rfl) (by kernel_rfl) (fun _ _ _ h => h) (Or.inl ⟨by rfl, ?_⟩) (by assumption) ?_
            rotate_left
            · (intro w hSw; (try dsimp only at hSw); go_simp; try with_reducible rfl)
            try simp only [Act.put, List.setIfInBounds_toArray, List.set_cons_zero, List.set_cons_succ]
            refine wpAnyH_ready (rs := [6]) (by kernel_rfl) (by simp) ?_
            refine (AllReadyH.cons (o := { dst := some 32, op := Go.Op.load 3 (Go.Operand.tmp 31), type := 3, pos := "l93_draw.go:86", after := #[{ on := 5, ground := Go.Ground.data }, { on := 8, ground := Go.Ground.gcOnly Go.Departure.lateStores }], guard := none }) rfl (fun K hK => ?_) AllReadyH.nil)
            go_simp
            refine hK.out _ _ (by ((show Boxes w [(w2.heap.size, rn, rd), (w5.heap.size, fn, fd)] _); (repeat (first | (with_reducible exact hS) | (with_reducible exact HX.out) | (with_reducible refine box_drew ?_) | (with_reducible refine box_alloc ?_ _) | (with_reducible refine box_put2 ?_ (Nat.le_refl _) HN1.out _ _) | (with_reducible refine box_put2 ?_ (Nat.le_succ _) HN2.out _ _))))) (fun hH9 => ?_)
            clear hK K hH7
            try simp only [Act.put, List.setIfInBounds_toArray, List.set_cons_zero, List.set_cons_succ]
            refine wpAnyH_take (i := 9) (oi := { dst := some 4, op := Go.Op.assign (Go.Operand.tmp 32), type := 3, pos := "l93_draw.go:86", after := #[{ on := 6, ground := Go.Ground.data }, { on := 8, ground := Go.Ground.chain }, { on := 0, ground := Go.Ground.phase }, { on := 1, ground := Go.Ground.phase }, { on := 2, ground := Go.Ground.phase }, { on := 3, ground := Go.Ground.phase }, { on := 4, ground := Go.Ground.phase }, { on := 5, ground := Go.Ground.phase }, { on := 6, ground := Go.Ground.phase }, { on := 7, ground := Go.Ground.phase }, { on := 8, ground := Go.Ground.phase }], guard := none }) (v := ?_) rfl (by kernel_rfl) (by kernel_rfl) (by kernel_rfl) (fun _ _ _ h => h) (Or.inl ⟨by rfl, ?_⟩) (by assumption) ?_
            rotate_left
            · (intro w hSw; (try dsimp only at hSw); go_simp; try with_reducible rfl)
            try simp only [Act.put, List.setIfInBounds_toArray, List.set_cons_zero, List.set_cons_succ]
            refine wpAnyH_done (by kernel_rfl) ?_ _
            refine NoPanic.normal ?_
            go_wp2
            refine bodyPost_ret (v := .tuple #[.agg #[.int .i64 rn, .int .i64 rd], .agg #[.int .i64 fn, .int .i64 fd], .int .i64 (-1)]) (by simp [results, Try.results19, go_sem, *]) rfl ⟨rn, rd, fn, fd, _, rfl, a0, a1, b0, b1, n0, n1, by omega, n3, by omega, by omega, ?_⟩
            exact box_end (bs := [(w2.heap.size, rn, rd), (w5.heap.size, fn, fd)]) (by assumption)
    · go_wp2_with fail
      refine wp_region_noPanic ?_
      refine wp_region_held_drew (S := (fun W => ((W.cell? ⟨w2.heap.size, 0, none⟩ = some (.int .i64 rn) ∧ W.cell? ⟨w2.heap.size, 1, none⟩ = some (.int .i64 rd)) ∧ (W.cell? ⟨w5.heap.size, 0, none⟩ = some (.int .i64 fn) ∧ W.cell? ⟨w5.heap.size, 1, none⟩ = some (.int .i64 fd)) ∧ True) ∧ Below w.heap.size w W)) (by kernel_rfl) (box_drew HX.out) (fun hH0 => ?_)
      refine wpAnyH_take (i := 0) (oi := { dst := some 26, op := Go.Op.load 26 (Go.Operand.tmp 6), type := 26, pos := "l93_draw.go:86", after := #[], guard := none }) (v := ?_) rfl (by kernel_rfl) (by kernel_rfl) (by kernel_rfl) (fun _ _ _ h => h) (Or.inl ⟨by rfl, ?_⟩) (by assumption) ?_
      rotate_left
      · (intro w hSw; (try dsimp only at hSw); go_simp; try with_reducible rfl)
      try simp only [Act.put, List.setIfInBounds_toArray, List.set_cons_zero, List.set_cons_succ]
      refine wpAnyH_take (i := 1) (oi := { dst := some 27, op := Go.Op.load 26 (Go.Operand.tmp 7), type := 26, pos := "l93_draw.go:86", after := #[{ on := 7, ground := Go.Ground.gcOnly Go.Departure.lateStores }], guard := none }) (v := ?_) rfl (by kernel_rfl) (by kernel_rfl) (by kernel_rfl) (fun _ _ _ h => h) (Or.inl ⟨by rfl, ?_⟩) (by assumption) ?_
      rotate_left
      · (intro w hSw; (try dsimp only at hSw); go_simp; try with_reducible rfl)
      try simp only [Act.put, List.setIfInBounds_toArray, List.set_cons_zero, List.set_cons_succ]
      refine wpAnyH_take (i := 3) (oi := { dst := some 29, op := Go.Op.move (Go.Operand.tmp 5), type := 47, pos := "l93_draw.go:86", after := #[], guard := none }) (v := ?_) rfl (by kernel_rfl) (by kernel_rfl) (by kernel_rfl) (fun _ _ _ h => h) (Or.inl ⟨by rfl, ?_⟩) (by assumption) ?_
      rotate_left
      · (intro w hSw; (try dsimp only at hSw); go_simp; try with_reducible rfl)
      try simp only [Act.put, List.setIfInBounds_toArray, List.set_cons_zero, List.set_cons_succ]
      refine wpAnyH_ready (rs := [2, 4]) (by kernel_rfl) (by simp) ?_
      refine (AllReadyH.cons (o := { dst := some 28, op := Go.Op.buildSlice 54 2 #[(0, Go.Operand.const (Go.Value.int Go.IntKind.i64 (-1))), (1, Go.Operand.const (Go.Value.int Go.IntKind.i64 11))], type := 54, pos := "l93_draw.go:86", after := #[{ on := 8, ground := Go.Ground.gcOnly Go.Departure.lateStores }], guard := none }) rfl (fun K hK => ?_) (AllReadyH.cons (o := { dst := some 30, op := Go.Op.call { callee := Go.Callee.value (Go.Operand.func 40), args := #[Go.Operand.tmp 29, Go.Operand.const (Go.Value.int Go.IntKind.i64 2)], argTypes := #[47, 3] }, type := 3, pos := "l93_draw.go:86", after := #[{ on := 3, ground := Go.Ground.data }], guard := none }) rfl (fun K hK => ?_) AllReadyH.nil))
      · go_simp
        refine hK.out _ _ (by ((show Boxes w [(w2.heap.size, rn, rd), (w5.heap.size, fn, fd)] _); (repeat (first | (with_reducible exact hS) | (with_reducible exact HX.out) | (with_reducible refine box_drew ?_) | (with_reducible refine box_alloc ?_ _) | (with_reducible refine box_put2 ?_ (Nat.le_refl _) HN1.out _ _) | (with_reducible refine box_put2 ?_ (Nat.le_succ _) HN2.out _ _))))) (fun hH4 => ?_)
        clear hK K hH0
        try simp only [Act.put, List.setIfInBounds_toArray, List.set_cons_zero, List.set_cons_succ]
        refine wpAnyH_ready (rs := [4]) (by kernel_rfl) (by simp) ?_
        refine (AllReadyH.cons (o := { dst := some 30, op := Go.Op.call { callee := Go.Callee.value (Go.Operand.func 40), args := #[Go.Operand.tmp 29, Go.Operand.const (Go.Value.int Go.IntKind.i64 2)], argTypes := #[47, 3] }, type := 3, pos := "l93_draw.go:86", after := #[{ on := 3, ground := Go.Ground.data }], guard := none }) rfl (fun K hK => ?_) AllReadyH.nil)
        go_simp
        refine (c_pickL _ g _ bs 2 _ (by omega) ((HR7.out.alloc _).drew)).mono ?_
        intro e w7 hp
        obtain ⟨he, _, _, hr, hg, hs⟩ := hp
        rw [HP.out] at he
        subst he
        have hS := box_grown (box_drew (box_alloc HX.out _)) hg (by omega) HNE.out
        obtain ⟨l0, l1, _, _⟩ := ((blk_new w6 _ _).drew.keep hg (by simp; omega)).two
        obtain ⟨j0, j1, fj0, fj1⟩ := ((J6.out.alloc _).drew.keep hg (by simp; omega)).two
        obtain ⟨k0, k1, fk0, fk1⟩ := ((K6.out.alloc _).drew.keep hg (by simp; omega)).two
        have yJ7 := cell_lt j0
        have yK7 := cell_lt k0
        have nJ7 : w7.heap.size ≠ w.heap.size := by omega
        have nK7 : w7.heap.size ≠ w.heap.size + 1 := by omega
        clear hr hg hs
        go_wp2_with fail
        refine hK.out _ _ hS (fun hH5 => ?_)
        clear hK K hH4
        try simp only [Act.put, List.setIfInBounds_toArray, List.set_cons_zero, List.set_cons_succ]
        refine wpAnyH_take (i := 5) (oi := { dst := some 31, op := Go.Op.indexAddr 54 (Go.Operand.tmp 28) (Go.Operand.tmp 30), type := 0, pos := "l93_draw.go:86", after := #[{ on := 2, ground := Go.Ground.data }, { on := 4, ground := Go.Ground.data }, { on := 8, ground := Go.Ground.gcOnly Go.Departure.lateStores }], guard := none }) (v := ?_) rfl (by kernel_rfl) (by kernel_rfl) (by kernel_rfl) (fun _ _ _ h => h) (Or.inl ⟨by rfl, ?_⟩) (by assumption) ?_
        rotate_left
        · (intro w hSw; (try dsimp only at hSw); go_simp; try with_reducible rfl)
        try simp only [Act.put, List.setIfInBounds_toArray, List.set_cons_zero, List.set_cons_succ]
        refine wpAnyH_ready (rs := [6, 7]) (by kernel_rfl) (by simp) ?_
        refine (AllReadyH.cons (o := { dst := some 32, op := Go.Op.load 3 (Go.Operand.tmp 31), type := 3, pos := "l93_draw.go:86", after := #[{ on := 5, ground := Go.Ground.data }, { on := 8, ground := Go.Ground.gcOnly Go.Departure.lateStores }], guard := none }) rfl (fun K hK => ?_) (AllReadyH.cons (o := { dst := none, op := Go.Op.store 26 (Go.Operand.tmp 2) (Go.Operand.tmp 26), type := 0, pos := "l93_draw.go:86", after := #[{ on := 0, ground := Go.Ground.data }, { on := 4, ground := Go.Ground.chain }, { on := 0, ground := Go.Ground.phase }, { on := 1, ground := Go.Ground.textOnly Go.Departure.lateStores }, { on := 2, ground := Go.Ground.textOnly Go.Departure.lateStores }, { on := 3, ground := Go.Ground.textOnly Go.Departure.lateStores }, { on := 4, ground := Go.Ground.textOnly Go.Departure.lateStoresUnsure }, { on := 5, ground := Go.Ground.textOnly Go.Departure.lateStores }, { on := 6, ground := Go.Ground.textOnly Go.Departure.lateStores }], guard := none }) rfl (fun K hK => ?_) AllReadyH.nil))
        · go_simp
          refine hK.out _ _ (by ((show Boxes w [(w2.heap.size, rn, rd), (w5.heap.size, fn, fd)] _); (repeat (first | (with_reducible exact hS) | (with_reducible exact HX.out) | (with_reducible refine box_drew ?_) | (with_reducible refine box_alloc ?_ _) | (with_reducible refine box_put2 ?_ (Nat.le_refl _) HN1.out _ _) | (with_reducible refine box_put2 ?_ (Nat.le_succ _) HN2.out _ _))))) (fun hH7 => ?_)
          clear hK K hH5
          try simp only [Act.put, List.setIfInBounds_toArray, List.set_cons_zero, List.set_cons_succ]
          refine wpAnyH_ready (rs := [7]) (by kernel_rfl) (by simp) ?_
          refine (AllReadyH.cons (o := { dst := none, op := Go.Op.store 26 (Go.Operand.tmp 2) (Go.Operand.tmp 26), type := 0, pos := "l93_draw.go:86", after := #[{ on := 0, ground := Go.Ground.data }, { on := 4, ground := Go.Ground.chain }, { on := 0, ground := Go.Ground.phase }, { on := 1, ground := Go.Ground.textOnly Go.Departure.lateStores }, { on := 2, ground := Go.Ground.textOnly Go.Departure.lateStores }, { on := 3, ground := Go.Ground.textOnly Go.Departure.lateStores }, { on := 4, ground := Go.Ground.textOnly Go.Departure.lateStoresUnsure }, { on := 5, ground := Go.Ground.textOnly Go.Departure.lateStores }, { on := 6, ground := Go.Ground.textOnly Go.Departure.lateStores }], guard := none }) rfl (fun K hK => ?_) AllReadyH.nil)
          go_simp
          refine hK.out _ _ (by ((show Boxes w [(w2.heap.size, rn, rd), (w5.heap.size, fn, fd)] _); (repeat (first | (with_reducible exact hS) | (with_reducible exact HX.out) | (with_reducible refine box_drew ?_) | (with_reducible refine box_alloc ?_ _) | (with_reducible refine box_put2 ?_ (Nat.le_refl _) HN1.out _ _) | (with_reducible refine box_put2 ?_ (Nat.le_succ _) HN2.out _ _))))) (fun hH8 => ?_)
          clear hK K hH7
          try simp only [Act.put, List.setIfInBounds_toArray, List.set_cons_zero, List.set_cons_succ]
          refine wpAnyH_ready (rs := [8]) (by kernel_rfl) (by simp) ?_
          refine (AllReadyH.cons (o := { dst := none, op := Go.Op.store 26 (Go.Operand.tmp 3) (Go.Operand.tmp 27), type := 0, pos := "l93_draw.go:86", after := #[{ on := 1, ground := Go.Ground.data }, { on := 7, ground := Go.Ground.chain }, { on := 0, ground := Go.Ground.phase }, { on := 1, ground := Go.Ground.phase }, { on := 2, ground := Go.Ground.textOnly Go.Departure.lateStores }, { on := 3, ground := Go.Ground.textOnly Go.Departure.lateStores }, { on := 4, ground := Go.Ground.textOnly Go.Departure.lateStoresUnsure }, { on := 5, ground := Go.Ground.textOnly Go.Departure.lateStores }, { on := 6, ground := Go.Ground.textOnly Go.Departure.lateStores }, { on := 7, ground := Go.Ground.phase }], guard := none }) rfl (fun K hK => ?_) AllReadyH.nil)
          go_simp
          refine hK.out _ _ (by ((show Boxes w [(w2.heap.size, rn, rd), (w5.heap.size, fn, fd)] _); (repeat (first | (with_reducible exact hS) | (with_reducible exact HX.out) | (with_reducible refine box_drew ?_) | (with_reducible refine box_alloc ?_ _) | (with_reducible refine box_put2 ?_ (Nat.le_refl _) HN1.out _ _) | (with_reducible refine box_put2 ?_ (Nat.le_succ _) HN2.out _ _))))) (fun hH9 => ?_)
          clear hK K hH8
          try simp only [Act.put, List.setIfInBounds_toArray, List.set_cons_zero, List.set_cons_succ]
          refine wpAnyH_take (i := 9) (oi := { dst := some 4, op := Go.Op.assign (Go.Operand.tmp 32), type := 3, pos := "l93_draw.go:86", after := #[{ on := 6, ground := Go.Ground.data }, { on := 8, ground := Go.Ground.chain }, { on := 0, ground := Go.Ground.phase }, { on := 1, ground := Go.Ground.phase }, { on := 2, ground := Go.Ground.phase }, { on := 3, ground := Go.Ground.phase }, { on := 4, ground := Go.Ground.phase }, { on := 5, ground := Go.Ground.phase }, { on := 6, ground := Go.Ground.phase }, { on := 7, ground := Go.Ground.phase }, { on := 8, ground := Go.Ground.phase }], guard := none }) (v := ?_) rfl (by kernel_rfl) (by kernel_rfl) (by kernel_rfl) (fun _ _ _ h => h) (Or.inl ⟨by rfl, ?_⟩) (by assumption) ?_
          rotate_left
          · (intro w hSw; (try dsimp only at hSw); go_simp; try with_reducible rfl)
          try simp only [Act.put, List.setIfInBounds_toArray, List.set_cons_zero, List.set_cons_succ]
          refine wpAnyH_done (by kernel_rfl) ?_ _
          refine NoPanic.normal ?_
          go_wp2
          refine bodyPost_ret (v := .tuple #[.agg #[.int .i64 rn, .int .i64 rd], .agg #[.int .i64 fn, .int .i64 fd], .int .i64 (11)]) (by simp [results, Try.results19, go_sem, *]) rfl ⟨rn, rd, fn, fd, _, rfl, a0, a1, b0, b1, n0, n1, by omega, n3, by omega, by omega, ?_⟩
          exact box_end (bs := [(w2.heap.size, rn, rd), (w5.heap.size, fn, fd)]) (by assumption)
        · go_simp
          refine hK.out _ _ (by ((show Boxes w [(w2.heap.size, rn, rd), (w5.heap.size, fn, fd)] _); (repeat (first | (with_reducible exact hS) | (with_reducible exact HX.out) | (with_reducible refine box_drew ?_) | (with_reducible refine box_alloc ?_ _) | (with_reducible refine box_put2 ?_ (Nat.le_refl _) HN1.out _ _) | (with_reducible refine box_put2 ?_ (Nat.le_succ _) HN2.out _ _))))) (fun hH7 => ?_)
          clear hK K hH5
          try simp only [Act.put, List.setIfInBounds_toArray, List.set_cons_zero, List.set_cons_succ]
          refine wpAnyH_ready (rs := [6, 8]) (by kernel_rfl) (by simp) ?_
          refine (AllReadyH.cons (o := { dst := some 32, op := Go.Op.load 3 (Go.Operand.tmp 31), type := 3, pos := "l93_draw.go:86", after := #[{ on := 5, ground := Go.Ground.data }, { on := 8, ground := Go.Ground.gcOnly Go.Departure.lateStores }], guard := none }) rfl (fun K hK => ?_) (AllReadyH.cons (o := { dst := none, op := Go.Op.store 26 (Go.Operand.tmp 3) (Go.Operand.tmp 27), type := 0, pos := "l93_draw.go:86", after := #[{ on := 1, ground := Go.Ground.data }, { on := 7, ground := Go.Ground.chain }, { on := 0, ground := Go.Ground.phase }, { on := 1, ground := Go.Ground.phase }, { on := 2, ground := Go.Ground.textOnly Go.Departure.lateStores }, { on := 3, ground := Go.Ground.textOnly Go.Departure.lateStores }, { on := 4, ground := Go.Ground.textOnly Go.Departure.lateStoresUnsure }, { on := 5, ground := Go.Ground.textOnly Go.Departure.lateStores }, { on := 6, ground := Go.Ground.textOnly Go.Departure.lateStores }, { on := 7, ground := Go.Ground.phase }], guard := none }) rfl (fun K hK => ?_) AllReadyH.nil))
          · go_simp
            refine hK.out _ _ (by ((show Boxes w [(w2.heap.size, rn, rd), (w5.heap.size, fn, fd)] _); (repeat (first | (with_reducible exact hS) | (with_reducible exact HX.out) | (with_reducible refine box_drew ?_) | (with_reducible refine box_alloc ?_ _) | (with_reducible refine box_put2 ?_ (Nat.le_refl _) HN1.out _ _) | (with_reducible refine box_put2 ?_ (Nat.le_succ _) HN2.out _ _))))) (fun hH8 => ?_)
            clear hK K hH7
            try simp only [Act.put, List.setIfInBounds_toArray, List.set_cons_zero, List.set_cons_succ]
            refine wpAnyH_ready (rs := [8]) (by kernel_rfl) (by simp) ?_
            refine (AllReadyH.cons (o := { dst := none, op := Go.Op.store 26 (Go.Operand.tmp 3) (Go.Operand.tmp 27), type := 0, pos := "l93_draw.go:86", after := #[{ on := 1, ground := Go.Ground.data }, { on := 7, ground := Go.Ground.chain }, { on := 0, ground := Go.Ground.phase }, { on := 1, ground := Go.Ground.phase }, { on := 2, ground := Go.Ground.textOnly Go.Departure.lateStores }, { on := 3, ground := Go.Ground.textOnly Go.Departure.lateStores }, { on := 4, ground := Go.Ground.textOnly Go.Departure.lateStoresUnsure }, { on := 5, ground := Go.Ground.textOnly Go.Departure.lateStores }, { on := 6, ground := Go.Ground.textOnly Go.Departure.lateStores }, { on := 7, ground := Go.Ground.phase }], guard := none }) rfl (fun K hK => ?_) AllReadyH.nil)
            go_simp
            refine hK.out _ _ (by ((show Boxes w [(w2.heap.size, rn, rd), (w5.heap.size, fn, fd)] _); (repeat (first | (with_reducible exact hS) | (with_reducible exact HX.out) | (with_reducible refine box_drew ?_) | (with_reducible refine box_alloc ?_ _) | (with_reducible refine box_put2 ?_ (Nat.le_refl _) HN1.out _ _) | (with_reducible refine box_put2 ?_ (Nat.le_succ _) HN2.out _ _))))) (fun hH9 => ?_)
            clear hK K hH8
            try simp only [Act.put, List.setIfInBounds_toArray, List.set_cons_zero, List.set_cons_succ]
            refine wpAnyH_take (i := 9) (oi := { dst := some 4, op := Go.Op.assign (Go.Operand.tmp 32), type := 3, pos := "l93_draw.go:86", after := #[{ on := 6, ground := Go.Ground.data }, { on := 8, ground := Go.Ground.chain }, { on := 0, ground := Go.Ground.phase }, { on := 1, ground := Go.Ground.phase }, { on := 2, ground := Go.Ground.phase }, { on := 3, ground := Go.Ground.phase }, { on := 4, ground := Go.Ground.phase }, { on := 5, ground := Go.Ground.phase }, { on := 6, ground := Go.Ground.phase }, { on := 7, ground := Go.Ground.phase }, { on := 8, ground := Go.Ground.phase }], guard := none }) (v := ?_) rfl (by kernel_rfl) (by kernel_rfl) (by kernel_rfl) (fun _ _ _ h => h) (Or.inl ⟨by rfl, ?_⟩) (by assumption) ?_
            rotate_left
            · (intro w hSw; (try dsimp only at hSw); go_simp; try with_reducible rfl)
            try simp only [Act.put, List.setIfInBounds_toArray, List.set_cons_zero, List.set_cons_succ]
            refine wpAnyH_done (by kernel_rfl) ?_ _
            refine NoPanic.normal ?_
            go_wp2
            refine bodyPost_ret (v := .tuple #[.agg #[.int .i64 rn, .int .i64 rd], .agg #[.int .i64 fn, .int .i64 fd], .int .i64 (11)]) (by simp [results, Try.results19, go_sem, *]) rfl ⟨rn, rd, fn, fd, _, rfl, a0, a1, b0, b1, n0, n1, by omega, n3, by omega, by omega, ?_⟩
            exact box_end (bs := [(w2.heap.size, rn, rd), (w5.heap.size, fn, fd)]) (by assumption)
          · go_simp
            refine hK.out _ _ (by ((show Boxes w [(w2.heap.size, rn, rd), (w5.heap.size, fn, fd)] _); (repeat (first | (with_reducible exact hS) | (with_reducible exact HX.out) | (with_reducible refine box_drew ?_) | (with_reducible refine box_alloc ?_ _) | (with_reducible refine box_put2 ?_ (Nat.le_refl _) HN1.out _ _) | (with_reducible refine box_put2 ?_ (Nat.le_succ _) HN2.out _ _))))) (fun hH8 => ?_)
            clear hK K hH7
            try simp only [Act.put, List.setIfInBounds_toArray, List.set_cons_zero, List.set_cons_succ]
            refine wpAnyH_ready (rs := [6]) (by kernel_rfl) (by simp) ?_
            refine (AllReadyH.cons (o := { dst := some 32, op := Go.Op.load 3 (Go.Operand.tmp 31), type := 3, pos := "l93_draw.go:86", after := #[{ on := 5, ground := Go.Ground.data }, { on := 8, ground := Go.Ground.gcOnly Go.Departure.lateStores }], guard := none }) rfl (fun K hK => ?_) AllReadyH.nil)
            go_simp
            refine hK.out _ _ (by ((show Boxes w [(w2.heap.size, rn, rd), (w5.heap.size, fn, fd)] _); (repeat (first | (with_reducible exact hS) | (with_reducible exact HX.out) | (with_reducible refine box_drew ?_) | (with_reducible refine box_alloc ?_ _) | (with_reducible refine box_put2 ?_ (Nat.le_refl _) HN1.out _ _) | (with_reducible refine box_put2 ?_ (Nat.le_succ _) HN2.out _ _))))) (fun hH9 => ?_)
            clear hK K hH8
            try simp only [Act.put, List.setIfInBounds_toArray, List.set_cons_zero, List.set_cons_succ]
            refine wpAnyH_take (i := 9) (oi := { dst := some 4, op := Go.Op.assign (Go.Operand.tmp 32), type := 3, pos := "l93_draw.go:86", after := #[{ on := 6, ground := Go.Ground.data }, { on := 8, ground := Go.Ground.chain }, { on := 0, ground := Go.Ground.phase }, { on := 1, ground := Go.Ground.phase }, { on := 2, ground := Go.Ground.phase }, { on := 3, ground := Go.Ground.phase }, { on := 4, ground := Go.Ground.phase }, { on := 5, ground := Go.Ground.phase }, { on := 6, ground := Go.Ground.phase }, { on := 7, ground := Go.Ground.phase }, { on := 8, ground := Go.Ground.phase }], guard := none }) (v := ?_) rfl (by kernel_rfl) (by kernel_rfl) (by kernel_rfl) (fun _ _ _ h => h) (Or.inl ⟨by rfl, ?_⟩) (by assumption) ?_
            rotate_left
            · (intro w hSw; (try dsimp only at hSw); go_simp; try with_reducible rfl)
            try simp only [Act.put, List.setIfInBounds_toArray, List.set_cons_zero, List.set_cons_succ]
            refine wpAnyH_done (by kernel_rfl) ?_ _
            refine NoPanic.normal ?_
            go_wp2
            refine bodyPost_ret (v := .tuple #[.agg #[.int .i64 rn, .int .i64 rd], .agg #[.int .i64 fn, .int .i64 fd], .int .i64 (11)]) (by simp [results, Try.results19, go_sem, *]) rfl ⟨rn, rd, fn, fd, _, rfl, a0, a1, b0, b1, n0, n1, by omega, n3, by omega, by omega, ?_⟩
            exact box_end (bs := [(w2.heap.size, rn, rd), (w5.heap.size, fn, fd)]) (by assumption)
      · go_simp
        refine (c_pickL _ g _ bs 2 _ (by omega) (HR7.out.drew)).mono ?_
        intro e w7 hp
        obtain ⟨he, _, _, hr, hg, hs⟩ := hp
        rw [HP.out] at he
        subst he
        have hS := box_grown (box_drew HX.out) hg (by omega) HNE.out
        obtain ⟨j0, j1, fj0, fj1⟩ := (J6.out.drew.keep hg (by simp; omega)).two
        obtain ⟨k0, k1, fk0, fk1⟩ := (K6.out.drew.keep hg (by simp; omega)).two
        have yJ7 := cell_lt j0
        have yK7 := cell_lt k0
        have nJ7 : w7.heap.size ≠ w.heap.size := by omega
        have nK7 : w7.heap.size ≠ w.heap.size + 1 := by omega
        clear hr hg hs
        go_wp2_with fail
        refine hK.out _ _ hS (fun hH4 => ?_)
        clear hK K hH0
        try simp only [Act.put, List.setIfInBounds_toArray, List.set_cons_zero, List.set_cons_succ]
        refine wpAnyH_ready (rs := [2, 7]) (by kernel_rfl) (by simp) ?_
        refine (AllReadyH.cons (o := { dst := some 28, op := Go.Op.buildSlice 54 2 #[(0, Go.Operand.const (Go.Value.int Go.IntKind.i64 (-1))), (1, Go.Operand.const (Go.Value.int Go.IntKind.i64 11))], type := 54, pos := "l93_draw.go:86", after := #[{ on := 8, ground := Go.Ground.gcOnly Go.Departure.lateStores }], guard := none }) rfl (fun K hK => ?_) (AllReadyH.cons (o := { dst := none, op := Go.Op.store 26 (Go.Operand.tmp 2) (Go.Operand.tmp 26), type := 0, pos := "l93_draw.go:86", after := #[{ on := 0, ground := Go.Ground.data }, { on := 4, ground := Go.Ground.chain }, { on := 0, ground := Go.Ground.phase }, { on := 1, ground := Go.Ground.textOnly Go.Departure.lateStores }, { on := 2, ground := Go.Ground.textOnly Go.Departure.lateStores }, { on := 3, ground := Go.Ground.textOnly Go.Departure.lateStores }, { on := 4, ground := Go.Ground.textOnly Go.Departure.lateStoresUnsure }, { on := 5, ground := Go.Ground.textOnly Go.Departure.lateStores }, { on := 6, ground := Go.Ground.textOnly Go.Departure.lateStores }], guard := none }) rfl (fun K hK => ?_) AllReadyH.nil))
        · go_simp
          refine hK.out _ _ (by ((show Boxes w [(w2.heap.size, rn, rd), (w5.heap.size, fn, fd)] _); (repeat (first | (with_reducible exact hS) | (with_reducible exact HX.out) | (with_reducible refine box_drew ?_) | (with_reducible refine box_alloc ?_ _) | (with_reducible refine box_put2 ?_ (Nat.le_refl _) HN1.out _ _) | (with_reducible refine box_put2 ?_ (Nat.le_succ _) HN2.out _ _))))) (fun hH5 => ?_)
          clear hK K hH4
          try simp only [Act.put, List.setIfInBounds_toArray, List.set_cons_zero, List.set_cons_succ]
          refine wpAnyH_take (i := 5) (oi := { dst := some 31, op := Go.Op.indexAddr 54 (Go.Operand.tmp 28) (Go.Operand.tmp 30), type := 0, pos := "l93_draw.go:86", after := #[{ on := 2, ground := Go.Ground.data }, { on := 4, ground := Go.Ground.data }, { on := 8, ground := Go.Ground.gcOnly Go.Departure.lateStores }], guard := none }) (v := ?_) rfl (by kernel_rfl) (by kernel_rfl) (by kernel_rfl) (fun _ _ _ h => h) (Or.inl ⟨by rfl, ?_⟩) (by assumption) ?_
          rotate_left
          · (intro w hSw; (try dsimp only at hSw); go_simp; try with_reducible rfl)
          try simp only [Act.put, List.setIfInBounds_toArray, List.set_cons_zero, List.set_cons_succ]
          refine wpAnyH_ready (rs := [6, 7]) (by kernel_rfl) (by simp) ?_
          refine (AllReadyH.cons (o := { dst := some 32, op := Go.Op.load 3 (Go.Operand.tmp 31), type := 3, pos := "l93_draw.go:86", after := #[{ on := 5, ground := Go.Ground.data }, { on := 8, ground := Go.Ground.gcOnly Go.Departure.lateStores }], guard := none }) rfl (fun K hK => ?_) (AllReadyH.cons (o := { dst := none, op := Go.Op.store 26 (Go.Operand.tmp 2) (Go.Operand.tmp 26), type := 0, pos := "l93_draw.go:86", after := #[{ on := 0, ground := Go.Ground.data }, { on := 4, ground := Go.Ground.chain }, { on := 0, ground := Go.Ground.phase }, { on := 1, ground := Go.Ground.textOnly Go.Departure.lateStores }, { on := 2, ground := Go.Ground.textOnly Go.Departure.lateStores }, { on := 3, ground := Go.Ground.textOnly Go.Departure.lateStores }, { on := 4, ground := Go.Ground.textOnly Go.Departure.lateStoresUnsure }, { on := 5, ground := Go.Ground.textOnly Go.Departure.lateStores }, { on := 6, ground := Go.Ground.textOnly Go.Departure.lateStores }], guard := none }) rfl (fun K hK => ?_) AllReadyH.nil))
          · go_simp
            refine hK.out _ _ (by ((show Boxes w [(w2.heap.size, rn, rd), (w5.heap.size, fn, fd)] _); (repeat (first | (with_reducible exact hS) | (with_reducible exact HX.out) | (with_reducible refine box_drew ?_) | (with_reducible refine box_alloc ?_ _) | (with_reducible refine box_put2 ?_ (Nat.le_refl _) HN1.out _ _) | (with_reducible refine box_put2 ?_ (Nat.le_succ _) HN2.out _ _))))) (fun hH7 => ?_)
            clear hK K hH5
            try simp only [Act.put, List.setIfInBounds_toArray, List.set_cons_zero, List.set_cons_succ]
            refine wpAnyH_ready (rs := [7]) (by kernel_rfl) (by simp) ?_
            refine (AllReadyH.cons (o := { dst := none, op := Go.Op.store 26 (Go.Operand.tmp 2) (Go.Operand.tmp 26), type := 0, pos := "l93_draw.go:86", after := #[{ on := 0, ground := Go.Ground.data }, { on := 4, ground := Go.Ground.chain }, { on := 0, ground := Go.Ground.phase }, { on := 1, ground := Go.Ground.textOnly Go.Departure.lateStores }, { on := 2, ground := Go.Ground.textOnly Go.Departure.lateStores }, { on := 3, ground := Go.Ground.textOnly Go.Departure.lateStores }, { on := 4, ground := Go.Ground.textOnly Go.Departure.lateStoresUnsure }, { on := 5, ground := Go.Ground.textOnly Go.Departure.lateStores }, { on := 6, ground := Go.Ground.textOnly Go.Departure.lateStores }], guard := none }) rfl (fun K hK => ?_) AllReadyH.nil)
            go_simp
            refine hK.out _ _ (by ((show Boxes w [(w2.heap.size, rn, rd), (w5.heap.size, fn, fd)] _); (repeat (first | (with_reducible exact hS) | (with_reducible exact HX.out) | (with_reducible refine box_drew ?_) | (with_reducible refine box_alloc ?_ _) | (with_reducible refine box_put2 ?_ (Nat.le_refl _) HN1.out _ _) | (with_reducible refine box_put2 ?_ (Nat.le_succ _) HN2.out _ _))))) (fun hH8 => ?_)
            clear hK K hH7
            try simp only [Act.put, List.setIfInBounds_toArray, List.set_cons_zero, List.set_cons_succ]
            refine wpAnyH_ready (rs := [8]) (by kernel_rfl) (by simp) ?_
            refine (AllReadyH.cons (o := { dst := none, op := Go.Op.store 26 (Go.Operand.tmp 3) (Go.Operand.tmp 27), type := 0, pos := "l93_draw.go:86", after := #[{ on := 1, ground := Go.Ground.data }, { on := 7, ground := Go.Ground.chain }, { on := 0, ground := Go.Ground.phase }, { on := 1, ground := Go.Ground.phase }, { on := 2, ground := Go.Ground.textOnly Go.Departure.lateStores }, { on := 3, ground := Go.Ground.textOnly Go.Departure.lateStores }, { on := 4, ground := Go.Ground.textOnly Go.Departure.lateStoresUnsure }, { on := 5, ground := Go.Ground.textOnly Go.Departure.lateStores }, { on := 6, ground := Go.Ground.textOnly Go.Departure.lateStores }, { on := 7, ground := Go.Ground.phase }], guard := none }) rfl (fun K hK => ?_) AllReadyH.nil)
            go_simp
            refine hK.out _ _ (by ((show Boxes w [(w2.heap.size, rn, rd), (w5.heap.size, fn, fd)] _); (repeat (first | (with_reducible exact hS) | (with_reducible exact HX.out) | (with_reducible refine box_drew ?_) | (with_reducible refine box_alloc ?_ _) | (with_reducible refine box_put2 ?_ (Nat.le_refl _) HN1.out _ _) | (with_reducible refine box_put2 ?_ (Nat.le_succ _) HN2.out _ _))))) (fun hH9 => ?_)
            clear hK K hH8
            try simp only [Act.put, List.setIfInBounds_toArray, List.set_cons_zero, List.set_cons_succ]
            refine wpAnyH_take (i := 9) (oi := { dst := some 4, op := Go.Op.assign (Go.Operand.tmp 32), type := 3, pos := "l93_draw.go:86", after := #[{ on := 6, ground := Go.Ground.data }, { on := 8, ground := Go.Ground.chain }, { on := 0, ground := Go.Ground.phase }, { on := 1, ground := Go.Ground.phase }, { on := 2, ground := Go.Ground.phase }, { on := 3, ground := Go.Ground.phase }, { on := 4, ground := Go.Ground.phase }, { on := 5, ground := Go.Ground.phase }, { on := 6, ground := Go.Ground.phase }, { on := 7, ground := Go.Ground.phase }, { on := 8, ground := Go.Ground.phase }], guard := none }) (v := ?_) rfl (by kernel_rfl) (by kernel_rfl) (by kernel_rfl) (fun _ _ _ h => h) (Or.inl ⟨by rfl, ?_⟩) (by assumption) ?_
            rotate_left
            · (intro w hSw; (try dsimp only at hSw); go_simp; try with_reducible rfl)
            try simp only [Act.put, List.setIfInBounds_toArray, List.set_cons_zero, List.set_cons_succ]
            refine wpAnyH_done (by kernel_rfl) ?_ _
            refine NoPanic.normal ?_
            go_wp2
            refine bodyPost_ret (v := .tuple #[.agg #[.int .i64 rn, .int .i64 rd], .agg #[.int .i64 fn, .int .i64 fd], .int .i64 (11)]) (by simp [results, Try.results19, go_sem, *]) rfl ⟨rn, rd, fn, fd, _, rfl, a0, a1, b0, b1, n0, n1, by omega, n3, by omega, by omega, ?_⟩
            exact box_end (bs := [(w2.heap.size, rn, rd), (w5.heap.size, fn, fd)]) (by assumption)
          · go_simp
            refine hK.out _ _ (by ((show Boxes w [(w2.heap.size, rn, rd), (w5.heap.size, fn, fd)] _); (repeat (first | (with_reducible exact hS) | (with_reducible exact HX.out) | (with_reducible refine box_drew ?_) | (with_reducible refine box_alloc ?_ _) | (with_reducible refine box_put2 ?_ (Nat.le_refl _) HN1.out _ _) | (with_reducible refine box_put2 ?_ (Nat.le_succ _) HN2.out _ _))))) (fun hH7 => ?_)
            clear hK K hH5
            try simp only [Act.put, List.setIfInBounds_toArray, List.set_cons_zero, List.set_cons_succ]
            refine wpAnyH_ready (rs := [6, 8]) (by kernel_rfl) (by simp) ?_
            refine (AllReadyH.cons (o := { dst := some 32, op := Go.Op.load 3 (Go.Operand.tmp 31), type := 3, pos := "l93_draw.go:86", after := #[{ on := 5, ground := Go.Ground.data }, { on := 8, ground := Go.Ground.gcOnly Go.Departure.lateStores }], guard := none }) rfl (fun K hK => ?_) (AllReadyH.cons (o := { dst := none, op := Go.Op.store 26 (Go.Operand.tmp 3) (Go.Operand.tmp 27), type := 0, pos := "l93_draw.go:86", after := #[{ on := 1, ground := Go.Ground.data }, { on := 7, ground := Go.Ground.chain }, { on := 0, ground := Go.Ground.phase }, { on := 1, ground := Go.Ground.phase }, { on := 2, ground := Go.Ground.textOnly Go.Departure.lateStores }, { on := 3, ground := Go.Ground.textOnly Go.Departure.lateStores }, { on := 4, ground := Go.Ground.textOnly Go.Departure.lateStoresUnsure }, { on := 5, ground := Go.Ground.textOnly Go.Departure.lateStores }, { on := 6, ground := Go.Ground.textOnly Go.Departure.lateStores }, { on := 7, ground := Go.Ground.phase }], guard := none }) rfl (fun K hK => ?_) AllReadyH.nil))
            · go_simp
              refine hK.out _ _ (by ((show Boxes w [(w2.heap.size, rn, rd), (w5.heap.size, fn, fd)] _); (repeat (first | (with_reducible exact hS) | (with_reducible exact HX.out) | (with_reducible refine box_drew ?_) | (with_reducible refine box_alloc ?_ _) | (with_reducible refine box_put2 ?_ (Nat.le_refl _) HN1.out _ _) | (with_reducible refine box_put2 ?_ (Nat.le_succ _) HN2.out _ _))))) (fun hH8 => ?_)
              clear hK K hH7
              try simp only [Act.put, List.setIfInBounds_toArray, List.set_cons_zero, List.set_cons_succ]
              refine wpAnyH_ready (rs := [8]) (by kernel_rfl) (by simp) ?_
              refine (AllReadyH.cons (o := { dst := none, op := Go.Op.store 26 (Go.Operand.tmp 3) (Go.Operand.tmp 27), type := 0, pos := "l93_draw.go:86", after := #[{ on := 1, ground := Go.Ground.data }, { on := 7, ground := Go.Ground.chain }, { on := 0, ground := Go.Ground.phase }, { on := 1, ground := Go.Ground.phase }, { on := 2, ground := Go.Ground.textOnly Go.Departure.lateStores }, { on := 3, ground := Go.Ground.textOnly Go.Departure.lateStores }, { on := 4, ground := Go.Ground.textOnly Go.Departure.lateStoresUnsure }, { on := 5, ground := Go.Ground.textOnly Go.Departure.lateStores }, { on := 6, ground := Go.Ground.textOnly Go.Departure.lateStores }, { on := 7, ground := Go.Ground.phase }], guard := none }) rfl (fun K hK => ?_) AllReadyH.nil)
              go_simp
              refine hK.out _ _ (by ((show Boxes w [(w2.heap.size, rn, rd), (w5.heap.size, fn, fd)] _); (repeat (first | (with_reducible exact hS) | (with_reducible exact HX.out) | (with_reducible refine box_drew ?_) | (with_reducible refine box_alloc ?_ _) | (with_reducible refine box_put2 ?_ (Nat.le_refl _) HN1.out _ _) | (with_reducible refine box_put2 ?_ (Nat.le_succ _) HN2.out _ _))))) (fun hH9 => ?_)
              clear hK K hH8
              try simp only [Act.put, List.setIfInBounds_toArray, List.set_cons_zero, List.set_cons_succ]
              refine wpAnyH_take (i := 9) (oi := { dst := some 4, op := Go.Op.assign (Go.Operand.tmp 32), type := 3, pos := "l93_draw.go:86", after := #[{ on := 6, ground := Go.Ground.data }, { on := 8, ground := Go.Ground.chain }, { on := 0, ground := Go.Ground.phase }, { on := 1, ground := Go.Ground.phase }, { on := 2, ground := Go.Ground.phase }, { on := 3, ground := Go.Ground.phase }, { on := 4, ground := Go.Ground.phase }, { on := 5, ground := Go.Ground.phase }, { on := 6, ground := Go.Ground.phase }, { on := 7, ground := Go.Ground.phase }, { on := 8, ground := Go.Ground.phase }], guard := none }) (v := ?_) rfl (by kernel_rfl) (by kernel_rfl) (by kernel_rfl) (fun _ _ _ h => h) (Or.inl ⟨by rfl, ?_⟩) (by assumption) ?_
              rotate_left
              · (intro w hSw; (try dsimp only at hSw); go_simp; try with_reducible rfl)
              try simp only [Act.put, List.setIfInBounds_toArray, List.set_cons_zero, List.set_cons_succ]
              refine wpAnyH_done (by kernel_rfl) ?_ _
              refine NoPanic.normal ?_
              go_wp2
              refine bodyPost_ret (v := .tuple #[.agg #[.int .i64 rn, .int .i64 rd], .agg #[.int .i64 fn, .int .i64 fd], .int .i64 (11)]) (by simp [results, Try.results19, go_sem, *]) rfl ⟨rn, rd, fn, fd, _, rfl, a0, a1, b0, b1, n0, n1, by omega, n3, by omega, by omega, ?_⟩
              exact box_end (bs := [(w2.heap.size, rn, rd), (w5.heap.size, fn, fd)]) (by assumption)
            · go_simp
              refine hK.out _ _ (by ((show Boxes w [(w2.heap.size, rn, rd), (w5.heap.size, fn, fd)] _); (repeat (first | (with_reducible exact hS) | (with_reducible exact HX.out) | (with_reducible refine box_drew ?_) | (with_reducible refine box_alloc ?_ _) | (with_reducible refine box_put2 ?_ (Nat.le_refl _) HN1.out _ _) | (with_reducible refine box_put2 ?_ (Nat.le_succ _) HN2.out _ _))))) (fun hH8 => ?_)
              clear hK K hH7
              try simp only [Act.put, List.setIfInBounds_toArray, List.set_cons_zero, List.set_cons_succ]
              refine wpAnyH_ready (rs := [6]) (by kernel_rfl) (by simp) ?_
              refine (AllReadyH.cons (o := { dst := some 32, op := Go.Op.load 3 (Go.Operand.tmp 31), type := 3, pos := "l93_draw.go:86", after := #[{ on := 5, ground := Go.Ground.data }, { on := 8, ground := Go.Ground.gcOnly Go.Departure.lateStores }], guard := none }) rfl (fun K hK => ?_) AllReadyH.nil)
              go_simp
              refine hK.out _ _ (by ((show Boxes w [(w2.heap.size, rn, rd), (w5.heap.size, fn, fd)] _); (repeat (first | (with_reducible exact hS) | (with_reducible exact HX.out) | (with_reducible refine box_drew ?_) | (with_reducible refine box_alloc ?_ _) | (with_reducible refine box_put2 ?_ (Nat.le_refl _) HN1.out _ _) | (with_reducible refine box_put2 ?_ (Nat.le_succ _) HN2.out _ _))))) (fun hH9 => ?_)
              clear hK K hH8
              try simp only [Act.put, List.setIfInBounds_toArray, List.set_cons_zero, List.set_cons_succ]
              refine wpAnyH_take (i := 9) (oi := { dst := some 4, op := Go.Op.assign (Go.Operand.tmp 32), type := 3, pos := "l93_draw.go:86", after := #[{ on := 6, ground := Go.Ground.data }, { on := 8, ground := Go.Ground.chain }, { on := 0, ground := Go.Ground.phase }, { on := 1, ground := Go.Ground.phase }, { on := 2, ground := Go.Ground.phase }, { on := 3, ground := Go.Ground.phase }, { on := 4, ground := Go.Ground.phase }, { on := 5, ground := Go.Ground.phase }, { on := 6, ground := Go.Ground.phase }, { on := 7, ground := Go.Ground.phase }, { on := 8, ground := Go.Ground.phase }], guard := none }) (v := ?_) rfl (by kernel_rfl) (by kernel_rfl) (by kernel_rfl) (fun _ _ _ h => h) (Or.inl ⟨by rfl, ?_⟩) (by assumption) ?_
              rotate_left
              · (intro w hSw; (try dsimp only at hSw); go_simp; try with_reducible rfl)
              try simp only [Act.put, List.setIfInBounds_toArray, List.set_cons_zero, List.set_cons_succ]
              refine wpAnyH_done (by kernel_rfl) ?_ _
              refine NoPanic.normal ?_
              go_wp2
              refine bodyPost_ret (v := .tuple #[.agg #[.int .i64 rn, .int .i64 rd], .agg #[.int .i64 fn, .int .i64 fd], .int .i64 (11)]) (by simp [results, Try.results19, go_sem, *]) rfl ⟨rn, rd, fn, fd, _, rfl, a0, a1, b0, b1, n0, n1, by omega, n3, by omega, by omega, ?_⟩
              exact box_end (bs := [(w2.heap.size, rn, rd), (w5.heap.size, fn, fd)]) (by assumption)
        · go_simp
          refine hK.out _ _ (by ((show Boxes w [(w2.heap.size, rn, rd), (w5.heap.size, fn, fd)] _); (repeat (first | (with_reducible exact hS) | (with_reducible exact HX.out) | (with_reducible refine box_drew ?_) | (with_reducible refine box_alloc ?_ _) | (with_reducible refine box_put2 ?_ (Nat.le_refl _) HN1.out _ _) | (with_reducible refine box_put2 ?_ (Nat.le_succ _) HN2.out _ _))))) (fun hH5 => ?_)
          clear hK K hH4
          try simp only [Act.put, List.setIfInBounds_toArray, List.set_cons_zero, List.set_cons_succ]
          refine wpAnyH_ready (rs := [2, 8]) (by kernel_rfl) (by simp) ?_
          refine (AllReadyH.cons (o := { dst := some 28, op := Go.Op.buildSlice 54 2 #[(0, Go.Operand.const (Go.Value.int Go.IntKind.i64 (-1))), (1, Go.Operand.const (Go.Value.int Go.IntKind.i64 11))], type := 54, pos := "l93_draw.go:86", after := #[{ on := 8, ground := Go.Ground.gcOnly Go.Departure.lateStores }], guard := none }) rfl (fun K hK => ?_) (AllReadyH.cons (o := { dst := none, op := Go.Op.store 26 (Go.Operand.tmp 3) (Go.Operand.tmp 27), type := 0, pos := "l93_draw.go:86", after := #[{ on := 1, ground := Go.Ground.data }, { on := 7, ground := Go.Ground.chain }, { on := 0, ground := Go.Ground.phase }, { on := 1, ground := Go.Ground.phase }, { on := 2, ground := Go.Ground.textOnly Go.Departure.lateStores }, { on := 3, ground := Go.Ground.textOnly Go.Departure.lateStores }, { on := 4, ground := Go.Ground.textOnly Go.Departure.lateStoresUnsure }, { on := 5, ground := Go.Ground.textOnly Go.Departure.lateStores }, { on := 6, ground := Go.Ground.textOnly Go.Departure.lateStores }, { on := 7, ground := Go.Ground.phase }], guard := none }) rfl (fun K hK => ?_) AllReadyH.nil))
          · go_simp
            refine hK.out _ _ (by ((show Boxes w [(w2.heap.size, rn, rd), (w5.heap.size, fn, fd)] _); (repeat (first | (with_reducible exact hS) | (with_reducible exact HX.out) | (with_reducible refine box_drew ?_) | (with_reducible refine box_alloc ?_ _) | (with_reducible refine box_put2 ?_ (Nat.le_refl _) HN1.out _ _) | (with_reducible refine box_put2 ?_ (Nat.le_succ _) HN2.out _ _))))) (fun hH6 => ?_)
            clear hK K hH5
            try simp only [Act.put, List.setIfInBounds_toArray, List.set_cons_zero, List.set_cons_succ]
            refine wpAnyH_take (i := 5) (oi := { dst := some 31, op := Go.Op.indexAddr 54 (Go.Operand.tmp 28) (Go.Operand.tmp 30), type := 0, pos := "l93_draw.go:86", after := #[{ on := 2, ground := Go.Ground.data }, { on := 4, ground := Go.Ground.data }, { on := 8, ground := Go.Ground.gcOnly Go.Departure.lateStores }], guard := none }) (v := ?_) rfl (by kernel_rfl) (by kernel_rfl) (by kernel_rfl) (fun _ _ _ h => h) (Or.inl ⟨by rfl, ?_⟩) (by assumption) ?_
            rotate_left
            · (intro w hSw; (try dsimp only at hSw); go_simp; try with_reducible rfl)
            try simp only [Act.put, List.setIfInBounds_toArray, List.set_cons_zero, List.set_cons_succ]
            refine wpAnyH_ready (rs := [6, 8]) (by kernel_rfl) (by simp) ?_
            refine (AllReadyH.cons (o := { dst := some 32, op := Go.Op.load 3 (Go.Operand.tmp 31), type := 3, pos := "l93_draw.go:86", after := #[{ on := 5, ground := Go.Ground.data }, { on := 8, ground := Go.Ground.gcOnly Go.Departure.lateStores }], guard := none }) rfl (fun K hK => ?_) (AllReadyH.cons (o := { dst := none, op := Go.Op.store 26 (Go.Operand.tmp 3) (Go.Operand.tmp 27), type := 0, pos := "l93_draw.go:86", after := #[{ on := 1, ground := Go.Ground.data }, { on := 7, ground := Go.Ground.chain }, { on := 0, ground := Go.Ground.phase }, { on := 1, ground := Go.Ground.phase }, { on := 2, ground := Go.Ground.textOnly Go.Departure.lateStores }, { on := 3, ground := Go.Ground.textOnly Go.Departure.lateStores }, { on := 4, ground := Go.Ground.textOnly Go.Departure.lateStoresUnsure }, { on := 5, ground := Go.Ground.textOnly Go.Departure.lateStores }, { on := 6, ground := Go.Ground.textOnly Go.Departure.lateStores }, { on := 7, ground := Go.Ground.phase }], guard := none }) rfl (fun K hK => ?_) AllReadyH.nil))
            · go_simp
              refine hK.out _ _ (by ((show Boxes w [(w2.heap.size, rn, rd), (w5.heap.size, fn, fd)] _); (repeat (first | (with_reducible exact hS) | (with_reducible exact HX.out) | (with_reducible refine box_drew ?_) | (with_reducible refine box_alloc ?_ _) | (with_reducible refine box_put2 ?_ (Nat.le_refl _) HN1.out _ _) | (with_reducible refine box_put2 ?_ (Nat.le_succ _) HN2.out _ _))))) (fun hH8 => ?_)
              clear hK K hH6
              try simp only [Act.put, List.setIfInBounds_toArray, List.set_cons_zero, List.set_cons_succ]
              refine wpAnyH_ready (rs := [8]) (by kernel_rfl) (by simp) ?_
              refine (AllReadyH.cons (o := { dst := none, op := Go.Op.store 26 (Go.Operand.tmp 3) (Go.Operand.tmp 27), type := 0, pos := "l93_draw.go:86", after := #[{ on := 1, ground := Go.Ground.data }, { on := 7, ground := Go.Ground.chain }, { on := 0, ground := Go.Ground.phase }, { on := 1, ground := Go.Ground.phase }, { on := 2, ground := Go.Ground.textOnly Go.Departure.lateStores }, { on := 3, ground := Go.Ground.textOnly Go.Departure.lateStores }, { on := 4, ground := Go.Ground.textOnly Go.Departure.lateStoresUnsure }, { on := 5, ground := Go.Ground.textOnly Go.Departure.lateStores }, { on := 6, ground := Go.Ground.textOnly Go.Departure.lateStores }, { on := 7, ground := Go.Ground.phase }], guard := none }) rfl (fun K hK => ?_) AllReadyH.nil)
              go_simp
              refine hK.out _ _ (by ((show Boxes w [(w2.heap.size, rn, rd), (w5.heap.size, fn, fd)] _); (repeat (first | (with_reducible exact hS) | (with_reducible exact HX.out) | (with_reducible refine box_drew ?_) | (with_reducible refine box_alloc ?_ _) | (with_reducible refine box_put2 ?_ (Nat.le_refl _) HN1.out _ _) | (with_reducible refine box_put2 ?_ (Nat.le_succ _) HN2.out _ _))))) (fun hH9 => ?_)
              clear hK K hH8
              try simp only [Act.put, List.setIfInBounds_toArray, List.set_cons_zero, List.set_cons_succ]
              refine wpAnyH_take (i := 9) (oi := { dst := some 4, op := Go.Op.assign (Go.Operand.tmp 32), type := 3, pos := "l93_draw.go:86", after := #[{ on := 6, ground := Go.Ground.data }, { on := 8, ground := Go.Ground.chain }, { on := 0, ground := Go.Ground.phase }, { on := 1, ground := Go.Ground.phase }, { on := 2, ground := Go.Ground.phase }, { on := 3, ground := Go.Ground.phase }, { on := 4, ground := Go.Ground.phase }, { on := 5, ground := Go.Ground.phase }, { on := 6, ground := Go.Ground.phase }, { on := 7, ground := Go.Ground.phase }, { on := 8, ground := Go.Ground.phase }], guard := none }) (v := ?_) rfl (by kernel_rfl) (by kernel_rfl) (by kernel_rfl) (fun _ _ _ h => h) (Or.inl ⟨by rfl, ?_⟩) (by assumption) ?_
              rotate_left
              · (intro w hSw; (try dsimp only at hSw); go_simp; try with_reducible rfl)
              try simp only [Act.put, List.setIfInBounds_toArray, List.set_cons_zero, List.set_cons_succ]
              refine wpAnyH_done (by kernel_rfl) ?_ _
              refine NoPanic.normal ?_
              go_wp2
              refine bodyPost_ret (v := .tuple #[.agg #[.int .i64 rn, .int .i64 rd], .agg #[.int .i64 fn, .int .i64 fd], .int .i64 (11)]) (by simp [results, Try.results19, go_sem, *]) rfl ⟨rn, rd, fn, fd, _, rfl, a0, a1, b0, b1, n0, n1, by omega, n3, by omega, by omega, ?_⟩
              exact box_end (bs := [(w2.heap.size, rn, rd), (w5.heap.size, fn, fd)]) (by assumption)
            · go_simp
              refine hK.out _ _ (by ((show Boxes w [(w2.heap.size, rn, rd), (w5.heap.size, fn, fd)] _); (repeat (first | (with_reducible exact hS) | (with_reducible exact HX.out) | (with_reducible refine box_drew ?_) | (with_reducible refine box_alloc ?_ _) | (with_reducible refine box_put2 ?_ (Nat.le_refl _) HN1.out _ _) | (with_reducible refine box_put2 ?_ (Nat.le_succ _) HN2.out _ _))))) (fun hH8 => ?_)
              clear hK K hH6
              try simp only [Act.put, List.setIfInBounds_toArray, List.set_cons_zero, List.set_cons_succ]
              refine wpAnyH_ready (rs := [6]) (by kernel_rfl) (by simp) ?_
              refine (AllReadyH.cons (o := { dst := some 32, op := Go.Op.load 3 (Go.Operand.tmp 31), type := 3, pos := "l93_draw.go:86", after := #[{ on := 5, ground := Go.Ground.data }, { on := 8, ground := Go.Ground.gcOnly Go.Departure.lateStores }], guard := none }) rfl (fun K hK => ?_) AllReadyH.nil)
              go_simp
              refine hK.out _ _ (by ((show Boxes w [(w2.heap.size, rn, rd), (w5.heap.size, fn, fd)] _); (repeat (first | (with_reducible exact hS) | (with_reducible exact HX.out) | (with_reducible refine box_drew ?_) | (with_reducible refine box_alloc ?_ _) | (with_reducible refine box_put2 ?_ (Nat.le_refl _) HN1.out _ _) | (with_reducible refine box_put2 ?_ (Nat.le_succ _) HN2.out _ _))))) (fun hH9 => ?_)
              clear hK K hH8
              try simp only [Act.put, List.setIfInBounds_toArray, List.set_cons_zero, List.set_cons_succ]
              refine wpAnyH_take (i := 9) (oi := { dst := some 4, op := Go.Op.assign (Go.Operand.tmp 32), type := 3, pos := "l93_draw.go:86", after := #[{ on := 6, ground := Go.Ground.data }, { on := 8, ground := Go.Ground.chain }, { on := 0, ground := Go.Ground.phase }, { on := 1, ground := Go.Ground.phase }, { on := 2, ground := Go.Ground.phase }, { on := 3, ground := Go.Ground.phase }, { on := 4, ground := Go.Ground.phase }, { on := 5, ground := Go.Ground.phase }, { on := 6, ground := Go.Ground.phase }, { on := 7, ground := Go.Ground.phase }, { on := 8, ground := Go.Ground.phase }], guard := none }) (v := ?_) rfl (by kernel_rfl) (by kernel_rfl) (by kernel_rfl) (fun _ _ _ h => h) (Or.inl ⟨by rfl, ?_⟩) (by assumption) ?_
              rotate_left
              · (intro w hSw; (try dsimp only at hSw); go_simp; try with_reducible rfl)
              try simp only [Act.put, List.setIfInBounds_toArray, List.set_cons_zero, List.set_cons_succ]
              refine wpAnyH_done (by kernel_rfl) ?_ _
              refine NoPanic.normal ?_
              go_wp2
              refine bodyPost_ret (v := .tuple #[.agg #[.int .i64 rn, .int .i64 rd], .agg #[.int .i64 fn, .int .i64 fd], .int .i64 (11)]) (by simp [results, Try.results19, go_sem, *]) rfl ⟨rn, rd, fn, fd, _, rfl, a0, a1, b0, b1, n0, n1, by omega, n3, by omega, by omega, ?_⟩
              exact box_end (bs := [(w2.heap.size, rn, rd), (w5.heap.size, fn, fd)]) (by assumption)
          · go_simp
            refine hK.out _ _ (by ((show Boxes w [(w2.heap.size, rn, rd), (w5.heap.size, fn, fd)] _); (repeat (first | (with_reducible exact hS) | (with_reducible exact HX.out) | (with_reducible refine box_drew ?_) | (with_reducible refine box_alloc ?_ _) | (with_reducible refine box_put2 ?_ (Nat.le_refl _) HN1.out _ _) | (with_reducible refine box_put2 ?_ (Nat.le_succ _) HN2.out _ _))))) (fun hH6 => ?_)
            clear hK K hH5
            try simp only [Act.put, List.setIfInBounds_toArray, List.set_cons_zero, List.set_cons_succ]
            refine wpAnyH_ready (rs := [2]) (by kernel_rfl) (by simp) ?_
            refine (AllReadyH.cons (o := { dst := some 28, op := Go.Op.buildSlice 54 2 #[(0, Go.Operand.const (Go.Value.int Go.IntKind.i64 (-1))), (1, Go.Operand.const (Go.Value.int Go.IntKind.i64 11))], type := 54, pos := "l93_draw.go:86", after := #[{ on := 8, ground := Go.Ground.gcOnly Go.Departure.lateStores }], guard := none }) rfl (fun K hK => ?_) AllReadyH.nil)
            go_simp
            refine hK.out _ _ (by ((show Boxes w [(w2.heap.size, rn, rd), (w5.heap.size, fn, fd)] _); (repeat (first | (with_reducible exact hS) | (with_reducible exact HX.out) | (with_reducible refine box_drew ?_) | (with_reducible refine box_alloc ?_ _) | (with_reducible refine box_put2 ?_ (Nat.le_refl _) HN1.out _ _) | (with_reducible refine box_put2 ?_ (Nat.le_succ _) HN2.out _ _))))) (fun hH7 => ?_)
            clear hK K hH6
            try simp only [Act.put, List.setIfInBounds_toArray, List.set_cons_zero, List.set_cons_succ]
            refine wpAnyH_take (i := 5) (oi := { dst := some 31, op := Go.Op.indexAddr 54 (Go.Operand.tmp 28) (Go.Operand.tmp 30), type := 0, pos := "l93_draw.go:86", after := #[{ on := 2, ground := Go.Ground.data }, { on := 4, ground := Go.Ground.data }, { on := 8, ground := Go.Ground.gcOnly Go.Departure.lateStores }], guard := none }) (v := ?_) rfl (by kernel_rfl) (by kernel_rfl) (by kernel_rfl) (fun _ _ _ h => h) (Or.inl ⟨by rfl, ?_⟩) (by assumption) ?_
            rotate_left
            · (intro w hSw; (try dsimp only at hSw); go_simp; try with_reducible rfl)
            try simp only [Act.put, List.setIfInBounds_toArray, List.set_cons_zero, List.set_cons_succ]
            refine wpAnyH_ready (rs := [6]) (by kernel_rfl) (by simp) ?_
            refine (AllReadyH.cons (o := { dst := some 32, op := Go.Op.load 3 (Go.Operand.tmp 31), type := 3, pos := "l93_draw.go:86", after := #[{ on := 5, ground := Go.Ground.data }, { on := 8, ground := Go.Ground.gcOnly Go.Departure.lateStores }], guard := none }) rfl (fun K hK => ?_) AllReadyH.nil)
            go_simp
            refine hK.out _ _ (by ((show Boxes w [(w2.heap.size, rn, rd), (w5.heap.size, fn, fd)] _); (repeat (first | (with_reducible exact hS) | (with_reducible exact HX.out) | (with_reducible refine box_drew ?_) | (with_reducible refine box_alloc ?_ _) | (with_reducible refine box_put2 ?_ (Nat.le_refl _) HN1.out _ _) | (with_reducible refine box_put2 ?_ (Nat.le_succ _) HN2.out _ _))))) (fun hH9 => ?_)
            clear hK K hH7
            try simp only [Act.put, List.setIfInBounds_toArray, List.set_cons_zero, List.set_cons_succ]
            refine wpAnyH_take (i := 9) (oi := { dst := some 4, op := Go.Op.assign (Go.Operand.tmp 32), type := 3, pos := "l93_draw.go:86", after := #[{ on := 6, ground := Go.Ground.data }, { on := 8, ground := Go.Ground.chain }, { on := 0, ground := Go.Ground.phase }, { on := 1, ground := Go.Ground.phase }, { on := 2, ground := Go.Ground.phase }, { on := 3, ground := Go.Ground.phase }, { on := 4, ground := Go.Ground.phase }, { on := 5, ground := Go.Ground.phase }, { on := 6, ground := Go.Ground.phase }, { on := 7, ground := Go.Ground.phase }, { on := 8, ground := Go.Ground.phase }], guard := none }) (v := ?_) rfl (by kernel_rfl) (by kernel_rfl) (by kernel_rfl) (fun _ _ _ h => h) (Or.inl ⟨by rfl, ?_⟩) (by assumption) ?_
            rotate_left
            · (intro w hSw; (try dsimp only at hSw); go_simp; try with_reducible rfl)
            try simp only [Act.put, List.setIfInBounds_toArray, List.set_cons_zero, List.set_cons_succ]
            refine wpAnyH_done (by kernel_rfl) ?_ _
            refine NoPanic.normal ?_
            go_wp2
            refine bodyPost_ret (v := .tuple #[.agg #[.int .i64 rn, .int .i64 rd], .agg #[.int .i64 fn, .int .i64 fd], .int .i64 (11)]) (by simp [results, Try.results19, go_sem, *]) rfl ⟨rn, rd, fn, fd, _, rfl, a0, a1, b0, b1, n0, n1, by omega, n3, by omega, by omega, ?_⟩
            exact box_end (bs := [(w2.heap.size, rn, rd), (w5.heap.size, fn, fd)]) (by assumption)
  · have hz' : (z == 0) = false := by simpa using hz
    go_wp2_with fail
    go_region_held3 (fun W => ((W.cell? ⟨w2.heap.size, 0, none⟩ = some (.int .i64 rn) ∧ W.cell? ⟨w2.heap.size, 1, none⟩ = some (.int .i64 rd)) ∧ (W.cell? ⟨w5.heap.size, 0, none⟩ = some (.int .i64 fn) ∧ W.cell? ⟨w5.heap.size, 1, none⟩ = some (.int .i64 fd)) ∧ True) ∧ Below w.heap.size w W) (((show Boxes w [(w2.heap.size, rn, rd), (w5.heap.size, fn, fd)] _); (first | (with_reducible exact HX.out) | (with_reducible exact box_drew HX.out) | (with_reducible exact hS) | ((with_reducible refine box_put2 ?_ (Nat.le_refl _) HN1.out _ _); assumption) | ((with_reducible refine box_put2 ?_ (Nat.le_succ _) HN2.out _ _); assumption) | (with_reducible exact box_alloc HX.out _) | (with_reducible exact box_drew (box_alloc HX.out _)) | ((with_reducible refine box_alloc ?_ _); assumption)))) (first | (go_at_call 40; (with_reducible refine (c_pick _ g _ 8 _ (by omega) (HR6.out.drew)).mono ?_); rintro e w7 ⟨u, rfl, u0, u1, hr, hg, hs⟩; have hS := box_grown (box_drew HX.out) hg (by omega) HNE.out; obtain ⟨j0, j1, fj0, fj1⟩ := (J6.out.drew.keep hg (by simp; omega)).two; obtain ⟨k0, k1, fk0, fk1⟩ := (K6.out.drew.keep hg (by simp; omega)).two; clear hr hg hs))
    all_goals
      go_wp2
      refine bodyPost_ret (v := .tuple #[.agg #[.int .i64 rn, .int .i64 rd], .agg #[.int .i64 fn, .int .i64 fd], .int .i64 (u)]) (by simp [results, Try.results19, go_sem, *]) rfl ⟨rn, rd, fn, fd, _, rfl, a0, a1, b0, b1, n0, n1, by omega, n3, by omega, by omega, ?_⟩
      exact box_end (bs := [(w2.heap.size, rn, rd), (w5.heap.size, fn, fd)]) (by assumption)
end Go.Proofs.Ytbbipieadjggkaa
