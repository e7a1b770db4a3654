/-
  The walk of the law FnShare: it returns true and writes nothing that was there.
-/
import Derived.Test.YtbbipieadjggkaaShareImpl
import Derived.Test.YtbbipieadjggkaaShareSpec
import Derived.Test.YtbbipieadjggkaaDrawShare
import Derived.Test.YtbbipieadjggkaaFracAddImpl
import Derived.Test.YtbbipieadjggkaaLawWords
import Derived.Deep.RegionHeld3
namespace Go.Proofs.Ytbbipieadjggkaa
open Go.RowKit

set_option maxHeartbeats 8000000 in
theorem walk_FnShare (A : Option Addr) (n c : Nat) (w : World) (h : RdB w A n) (hn : n ≤ maxLen) (hc : n ≤ c) :
    Calls Try.prog 12 #[.slice A n c] w fun e w' => e = .returned (.bool true) ∧ Below w.heap.size w w' := by
  unfold maxLen at hn
  have HB := Lib.hid h
  clear h
  by_cases hbig : 1048576 < n
  · go_enter Try.func12, Try.ntmps12
    go_wp2
    go_ret
    exact ⟨rfl, Below.refl _ _⟩
  · have hd1 : decide ((1048576 : Int) < (n : Int)) = false := by simp; omega
    go_enter Try.func12, Try.ntmps12
    go_wp2_with fail
    refine (c_DrawWaterShare _ _ _ _ HB.out (by omega) hc).mono ?_
    rintro e w1 ⟨aA, aH, bA, bH, rn, rd, rfl, hB1⟩
    rcases Bool.eq_false_or_eq_true (vS aA aH bA bH rn rd) with hok | hok
    · obtain ⟨N, D, hN, hD, hvf, h0, h1, he, hne⟩ := vS_val hok
      have HV := Lib.hid hok
      have H3 := Lib.hid (vS_yes hok).1
      have HN := Lib.hid hN
      have HD := Lib.hid hD
      have HVF := Lib.hid hvf
      have HE := Lib.hid he
      have HNE := Lib.hid hne
      obtain ⟨n1, n2, n3, n4, _⟩ := vF_yes hvf
      obtain ⟨ha, hb0, hr⟩ := wv3_yes H3.out
      obtain ⟨a1, a2, a3, a4⟩ := vW_yes ha
      obtain ⟨b1, b2, b3, b4⟩ := vW_yes hb0
      have HA := Lib.hid ha
      have HBB := Lib.hid hb0
      clear hok hN hD hvf he hne ha hb0 hr
      go_wp2_with fail
      refine (c_implWaterShare _ _ _ _ _ _ _).mono ?_
      intro e w2 hp
      obtain ⟨rfl, hb⟩ := sh_ok HV.out HN.out HD.out hp
      clear hp
      have J2 := Lib.hid (blk_n3_1 hb)
      have K2 := Lib.hid (blk_n3_2 hb)
      have P2 := Lib.hid (blk_n3_3 hb)
      have hB2 := bel3 hB1 hb
      have zJ2 := J2.out.lt
      have zK2 := K2.out.lt
      have zP2 := P2.out.lt
      obtain ⟨cJ2, dJ2, fJ2, hJ2⟩ := J2.out.two
      obtain ⟨cK2, dK2, fK2, hK2⟩ := K2.out.two
      obtain ⟨cP2, dP2, fP2, hP2⟩ := P2.out.two
      clear hb
      go_wp2_with fail
      refine (c_specWaterShare _ _ _ _ _ _ _).mono ?_
      intro e w3 hp
      obtain ⟨rfl, hb⟩ := sh_ok HV.out HN.out HD.out hp
      clear hp
      have J3 := Lib.hid (blk_b1 J2.out hb)
      have K3 := Lib.hid (blk_b1 K2.out hb)
      have P3 := Lib.hid (blk_b1 P2.out hb)
      have O3 := Lib.hid (blk_n1 hb)
      have hB3 := bel1 hB2 hb
      have zJ3 := J3.out.lt
      have zK3 := K3.out.lt
      have zP3 := P3.out.lt
      have zO3 := O3.out.lt
      obtain ⟨cJ3, dJ3, fJ3, hJ3⟩ := J3.out.two
      obtain ⟨cK3, dK3, fK3, hK3⟩ := K3.out.two
      obtain ⟨cP3, dP3, fP3, hP3⟩ := P3.out.two
      obtain ⟨cO3, dO3, fO3, hO3⟩ := O3.out.two
      clear hb
      clear cJ2 dJ2 fJ2 hJ2 cK2 dK2 fK2 hK2 cP2 dP2 fP2 hP2
      obtain ⟨t1, t2, t3, t4⟩ := share_other H3.out HNE.out HVF.out h0 h1 HE.out
      obtain ⟨M, hM⟩ : ∃ x, D - N = x := ⟨_, rfl⟩
      have hq := share_whole HVF.out
      rw [hM] at t2 t4 hq
      have HX1 := Lib.hid t1
      have HX2 := Lib.hid t2
      have HX3 := Lib.hid t3
      have HT := Lib.hid (show two N D M D = true by simp [two, HVF.out, t4])
      have HQ1 := Lib.hid hq.1
      have HQ2 := Lib.hid hq.2.1
      have HQ3 := Lib.hid hq.2.2
      have hlt0 : decide (0 ≤ N) = true := by simpa using h0
      have hlt1 : decide (N ≤ D) = true := by simpa using h1
      clear t1 t2 t3 t4 hM hq
      go_wp2_with fail
      refine (c_implWaterShare _ _ _ _ _ _ _).mono ?_
      intro e w4 hp
      obtain ⟨rfl, hb⟩ := sh_ok HX1.out HX2.out HX3.out hp
      clear hp
      have O4 := Lib.hid (blk_b1 O3.out hb)
      have hB4 := bel1 hB3 hb
      have zO4 := O4.out.lt
      obtain ⟨cO4, dO4, fO4, hO4⟩ := O4.out.two
      clear hb
      clear cJ3 dJ3 fJ3 hJ3 cK3 dK3 fK3 hK3 cP3 dP3 fP3 hP3 cO3 dO3 fO3 hO3
      go_wp2_with fail
      refine (c_implFracAdd _ _ _ _ _).mono ?_
      intro e w5 hp
      obtain ⟨rfl, hb⟩ := op_at HT.out HQ2.out HQ3.out HQ1.out hp
      clear hp
      have O5 := Lib.hid (blk_b1 O4.out hb)
      have hB5 := bel1 hB4 hb
      have zO5 := O5.out.lt
      obtain ⟨cO5, dO5, fO5, hO5⟩ := O5.out.two
      clear hb
      clear cO4 dO4 fO4 hO4
      have HS := Lib.hid (box_new (t := 26) (x := 1) (y := 1) (box_cons (box_mk hB5) O5.out))
      go_wp2_with fail
      refine wp_region_noPanic ?_
      refine wp_region_held_drew (S := (fun W => ((W.cell? ⟨w5.heap.size, 0, none⟩ = some (.int .i64 1) ∧ W.cell? ⟨w5.heap.size, 1, none⟩ = some (.int .i64 1)) ∧ (W.cell? ⟨w2.heap.size, 0, none⟩ = some (.int .i64 N) ∧ W.cell? ⟨w2.heap.size, 1, none⟩ = some (.int .i64 D)) ∧ True) ∧ Below w.heap.size w W)) (by kernel_rfl) (box_drew HS.out) (fun hH0 => ?_)
      refine wpAnyH_take (i := 0) (oi := { dst := some 70, op := Go.Op.move (Go.Operand.tmp 11), type := 4, pos := "laws.go:4096", after := #[], guard := none }) (v := ?_) rfl (by kernel_rfl) (by kernel_rfl) (by kernel_rfl) (fun _ _ _ h => h) (Or.inl ⟨by rfl, ?_⟩) (by assumption) ?_
      rotate_left
      · (intro w hSw; (try dsimp only at hSw); go_simp; try with_reducible rfl)
      try simp only [Act.put, List.setIfInBounds_toArray, List.set_cons_zero, List.set_cons_succ]
      refine wpAnyH_take (i := 1) (oi := { dst := some 71, op := Go.Op.move (Go.Operand.tmp 70), type := 4, pos := "laws.go:4096", after := #[{ on := 0, ground := Go.Ground.data }], guard := none }) (v := ?_) rfl (by kernel_rfl) (by kernel_rfl) (by kernel_rfl) (fun _ _ _ h => h) (Or.inl ⟨by rfl, ?_⟩) (by assumption) ?_
      rotate_left
      · (intro w hSw; (try dsimp only at hSw); go_simp; try with_reducible rfl)
      try simp only [Act.put, List.setIfInBounds_toArray, List.set_cons_zero, List.set_cons_succ]
      refine wpAnyH_take (i := 2) (oi := { dst := some 72, op := Go.Op.move (Go.Operand.tmp 13), type := 4, pos := "laws.go:4096", after := #[{ on := 1, ground := Go.Ground.guard }], guard := some (1, true) }) (v := ?_) rfl (by kernel_rfl) (by kernel_rfl) (by kernel_rfl) (fun _ _ _ h => h) (Or.inl ⟨by rfl, ?_⟩) (by assumption) ?_
      rotate_left
      · (intro w hSw; (try dsimp only at hSw); go_simp; try with_reducible rfl)
      try simp only [Act.put, List.setIfInBounds_toArray, List.set_cons_zero, List.set_cons_succ]
      refine wpAnyH_take (i := 3) (oi := { dst := some 73, op := Go.Op.pick (Go.Operand.tmp 71) (Go.Operand.tmp 72) (Go.Operand.const (Go.Value.bool false)), type := 4, pos := "laws.go:4096", after := #[{ on := 1, ground := Go.Ground.data }, { on := 2, ground := Go.Ground.data }], guard := none }) (v := ?_) rfl (by kernel_rfl) (by kernel_rfl) (by kernel_rfl) (fun _ _ _ h => h) (Or.inl ⟨by rfl, ?_⟩) (by assumption) ?_
      rotate_left
      · (intro w hSw; (try dsimp only at hSw); go_simp; try with_reducible rfl)
      try simp only [Act.put, List.setIfInBounds_toArray, List.set_cons_zero, List.set_cons_succ]
      refine wpAnyH_take (i := 4) (oi := { dst := some 74, op := Go.Op.move (Go.Operand.tmp 73), type := 4, pos := "laws.go:4096", after := #[{ on := 3, ground := Go.Ground.data }, { on := 1, ground := Go.Ground.chain }], guard := none }) (v := ?_) rfl (by kernel_rfl) (by kernel_rfl) (by kernel_rfl) (fun _ _ _ h => h) (Or.inl ⟨by rfl, ?_⟩) (by assumption) ?_
      rotate_left
      · (intro w hSw; (try dsimp only at hSw); go_simp; try with_reducible rfl)
      try simp only [Act.put, List.setIfInBounds_toArray, List.set_cons_zero, List.set_cons_succ]
      refine wpAnyH_take (i := 5) (oi := { dst := some 75, op := Go.Op.load 26 (Go.Operand.tmp 12), type := 26, pos := "laws.go:4096", after := #[{ on := 4, ground := Go.Ground.guard }], guard := some (4, true) }) (v := ?_) rfl (by kernel_rfl) (by kernel_rfl) (by kernel_rfl) (fun _ _ _ h => h) (Or.inl ⟨by rfl, ?_⟩) (by assumption) ?_
      rotate_left
      · (intro w hSw; (try dsimp only at hSw); go_simp; try with_reducible rfl)
      try simp only [Act.put, List.setIfInBounds_toArray, List.set_cons_zero, List.set_cons_succ]
      refine wpAnyH_ready (rs := [6]) (by kernel_rfl) (by simp) ?_
      refine (AllReadyH.cons (o := { dst := some 76, op := Go.Op.call { callee := Go.Callee.value (Go.Operand.func 23), args := #[Go.Operand.const (Go.Value.int Go.IntKind.i64 1)], argTypes := #[3] }, type := 26, pos := "laws.go:4096", after := #[{ on := 4, ground := Go.Ground.chain }, { on := 4, ground := Go.Ground.guard }], guard := some (4, true) }) rfl (fun K hK => ?_) AllReadyH.nil)
      go_simp
      refine (c_frac 1 _).mono ?_
      rintro e w7 ⟨rfl, hb⟩
      have hS := box_below (bs := [(w5.heap.size, 1, 1), (w2.heap.size, N, D)]) (box_drew HS.out) hb
      clear hb
      go_wp2_with fail
      refine hK.out _ _ hS (fun hH7 => ?_)
      clear hK K hH0
      try simp only [Act.put, List.setIfInBounds_toArray, List.set_cons_zero, List.set_cons_succ]
      refine wpAnyH_take (i := 7) (oi := { dst := some 77, op := Go.Op.binOp Go.BinOp.eql 26 (Go.Operand.tmp 75) (Go.Operand.tmp 76) 26, type := 4, pos := "laws.go:4096", after := #[{ on := 5, ground := Go.Ground.data }, { on := 6, ground := Go.Ground.data }, { on := 4, ground := Go.Ground.guard }], guard := some (4, true) }) (v := ?_) rfl (by kernel_rfl) (by kernel_rfl) (by kernel_rfl) (fun _ _ _ h => h) (Or.inl ⟨by rfl, ?_⟩) (by assumption) ?_
      rotate_left
      · (intro w hSw; (try dsimp only at hSw); go_simp; try with_reducible rfl)
      try simp only [Act.put, List.setIfInBounds_toArray, List.set_cons_zero, List.set_cons_succ]
      refine wpAnyH_take (i := 8) (oi := { dst := some 78, op := Go.Op.pick (Go.Operand.tmp 74) (Go.Operand.tmp 77) (Go.Operand.const (Go.Value.bool false)), type := 4, pos := "laws.go:4096", after := #[{ on := 4, ground := Go.Ground.data }, { on := 7, ground := Go.Ground.data }], guard := none }) (v := ?_) rfl (by kernel_rfl) (by kernel_rfl) (by kernel_rfl) (fun _ _ _ h => h) (Or.inl ⟨by rfl, ?_⟩) (by assumption) ?_
      rotate_left
      · (intro w hSw; (try dsimp only at hSw); go_simp; try with_reducible rfl)
      try simp only [Act.put, List.setIfInBounds_toArray, List.set_cons_zero, List.set_cons_succ]
      refine wpAnyH_take (i := 9) (oi := { dst := some 79, op := Go.Op.move (Go.Operand.tmp 78), type := 4, pos := "laws.go:4096", after := #[{ on := 8, ground := Go.Ground.data }, { on := 6, ground := Go.Ground.chain }], guard := none }) (v := ?_) rfl (by kernel_rfl) (by kernel_rfl) (by kernel_rfl) (fun _ _ _ h => h) (Or.inl ⟨by rfl, ?_⟩) (by assumption) ?_
      rotate_left
      · (intro w hSw; (try dsimp only at hSw); go_simp; try with_reducible rfl)
      try simp only [Act.put, List.setIfInBounds_toArray, List.set_cons_zero, List.set_cons_succ]
      refine wpAnyH_take (i := 10) (oi := { dst := some 80, op := Go.Op.fieldAddr 26 (Go.Operand.tmp 6) 0, type := 0, pos := "laws.go:4096", after := #[{ on := 9, ground := Go.Ground.guard }], guard := some (9, true) }) (v := ?_) rfl (by kernel_rfl) (by kernel_rfl) (by kernel_rfl) (fun _ _ _ h => h) (Or.inl ⟨by rfl, ?_⟩) (by assumption) ?_
      rotate_left
      · (intro w hSw; (try dsimp only at hSw); go_simp; try with_reducible rfl)
      try simp only [Act.put, List.setIfInBounds_toArray, List.set_cons_zero, List.set_cons_succ]
      refine wpAnyH_take (i := 11) (oi := { dst := some 81, op := Go.Op.load 3 (Go.Operand.tmp 80), type := 3, pos := "laws.go:4096", after := #[{ on := 10, ground := Go.Ground.data }, { on := 9, ground := Go.Ground.guard }], guard := some (9, true) }) (v := ?_) rfl (by kernel_rfl) (by kernel_rfl) (by kernel_rfl) (fun _ _ _ h => h) (Or.inl ⟨by rfl, ?_⟩) (by assumption) ?_
      rotate_left
      · (intro w hSw; (try dsimp only at hSw); go_simp; try with_reducible rfl)
      try simp only [Act.put, List.setIfInBounds_toArray, List.set_cons_zero, List.set_cons_succ]
      refine wpAnyH_take (i := 12) (oi := { dst := some 82, op := Go.Op.binOp Go.BinOp.geq 3 (Go.Operand.tmp 81) (Go.Operand.const (Go.Value.int Go.IntKind.i64 0)) 3, type := 4, pos := "laws.go:4096", after := #[{ on := 11, ground := Go.Ground.data }, { on := 9, ground := Go.Ground.guard }], guard := some (9, true) }) (v := ?_) rfl (by kernel_rfl) (by kernel_rfl) (by kernel_rfl) (fun _ _ _ h => h) (Or.inl ⟨by rfl, ?_⟩) (by assumption) ?_
      rotate_left
      · (intro w hSw; (try dsimp only at hSw); go_simp; try with_reducible rfl)
      try simp only [Act.put, List.setIfInBounds_toArray, List.set_cons_zero, List.set_cons_succ]
      refine wpAnyH_take (i := 13) (oi := { dst := some 83, op := Go.Op.pick (Go.Operand.tmp 79) (Go.Operand.tmp 82) (Go.Operand.const (Go.Value.bool false)), type := 4, pos := "laws.go:4096", after := #[{ on := 9, ground := Go.Ground.data }, { on := 12, ground := Go.Ground.data }], guard := none }) (v := ?_) rfl (by kernel_rfl) (by kernel_rfl) (by kernel_rfl) (fun _ _ _ h => h) (Or.inl ⟨by rfl, ?_⟩) (by assumption) ?_
      rotate_left
      · (intro w hSw; (try dsimp only at hSw); go_simp; try with_reducible rfl)
      try simp only [Act.put, List.setIfInBounds_toArray, List.set_cons_zero, List.set_cons_succ]
      refine wpAnyH_take (i := 14) (oi := { dst := some 84, op := Go.Op.move (Go.Operand.tmp 83), type := 4, pos := "laws.go:4096", after := #[{ on := 13, ground := Go.Ground.data }, { on := 9, ground := Go.Ground.chain }], guard := none }) (v := ?_) rfl (by kernel_rfl) (by kernel_rfl) (by kernel_rfl) (fun _ _ _ h => h) (Or.inl ⟨by rfl, ?_⟩) (by assumption) ?_
      rotate_left
      · (intro w hSw; (try dsimp only at hSw); go_simp; try with_reducible rfl)
      try simp only [Act.put, List.setIfInBounds_toArray, List.set_cons_zero, List.set_cons_succ]
      refine wpAnyH_take (i := 15) (oi := { dst := some 85, op := Go.Op.fieldAddr 26 (Go.Operand.tmp 6) 0, type := 0, pos := "laws.go:4096", after := #[{ on := 14, ground := Go.Ground.guard }], guard := some (14, true) }) (v := ?_) rfl (by kernel_rfl) (by kernel_rfl) (by kernel_rfl) (fun _ _ _ h => h) (Or.inl ⟨by rfl, ?_⟩) (by assumption) ?_
      rotate_left
      · (intro w hSw; (try dsimp only at hSw); go_simp; try with_reducible rfl)
      try simp only [Act.put, List.setIfInBounds_toArray, List.set_cons_zero, List.set_cons_succ]
      refine wpAnyH_take (i := 16) (oi := { dst := some 86, op := Go.Op.load 3 (Go.Operand.tmp 85), type := 3, pos := "laws.go:4096", after := #[{ on := 15, ground := Go.Ground.data }, { on := 14, ground := Go.Ground.guard }], guard := some (14, true) }) (v := ?_) rfl (by kernel_rfl) (by kernel_rfl) (by kernel_rfl) (fun _ _ _ h => h) (Or.inl ⟨by rfl, ?_⟩) (by assumption) ?_
      rotate_left
      · (intro w hSw; (try dsimp only at hSw); go_simp; try with_reducible rfl)
      try simp only [Act.put, List.setIfInBounds_toArray, List.set_cons_zero, List.set_cons_succ]
      refine wpAnyH_take (i := 17) (oi := { dst := some 87, op := Go.Op.fieldAddr 26 (Go.Operand.tmp 6) 1, type := 0, pos := "laws.go:4096", after := #[{ on := 14, ground := Go.Ground.guard }], guard := some (14, true) }) (v := ?_) rfl (by kernel_rfl) (by kernel_rfl) (by kernel_rfl) (fun _ _ _ h => h) (Or.inl ⟨by rfl, ?_⟩) (by assumption) ?_
      rotate_left
      · (intro w hSw; (try dsimp only at hSw); go_simp; try with_reducible rfl)
      try simp only [Act.put, List.setIfInBounds_toArray, List.set_cons_zero, List.set_cons_succ]
      refine wpAnyH_take (i := 18) (oi := { dst := some 88, op := Go.Op.load 3 (Go.Operand.tmp 87), type := 3, pos := "laws.go:4096", after := #[{ on := 17, ground := Go.Ground.data }, { on := 14, ground := Go.Ground.guard }], guard := some (14, true) }) (v := ?_) rfl (by kernel_rfl) (by kernel_rfl) (by kernel_rfl) (fun _ _ _ h => h) (Or.inl ⟨by rfl, ?_⟩) (by assumption) ?_
      rotate_left
      · (intro w hSw; (try dsimp only at hSw); go_simp; try with_reducible rfl)
      try simp only [Act.put, List.setIfInBounds_toArray, List.set_cons_zero, List.set_cons_succ]
      refine wpAnyH_take (i := 19) (oi := { dst := some 89, op := Go.Op.binOp Go.BinOp.leq 3 (Go.Operand.tmp 86) (Go.Operand.tmp 88) 3, type := 4, pos := "laws.go:4096", after := #[{ on := 16, ground := Go.Ground.data }, { on := 18, ground := Go.Ground.data }, { on := 14, ground := Go.Ground.guard }], guard := some (14, true) }) (v := ?_) rfl (by kernel_rfl) (by kernel_rfl) (by kernel_rfl) (fun _ _ _ h => h) (Or.inl ⟨by rfl, ?_⟩) (by assumption) ?_
      rotate_left
      · (intro w hSw; (try dsimp only at hSw); go_simp; try with_reducible rfl)
      try simp only [Act.put, List.setIfInBounds_toArray, List.set_cons_zero, List.set_cons_succ]
      refine wpAnyH_take (i := 20) (oi := { dst := some 90, op := Go.Op.pick (Go.Operand.tmp 84) (Go.Operand.tmp 89) (Go.Operand.const (Go.Value.bool false)), type := 4, pos := "laws.go:4096", after := #[{ on := 14, ground := Go.Ground.data }, { on := 19, ground := Go.Ground.data }], guard := none }) (v := ?_) rfl (by kernel_rfl) (by kernel_rfl) (by kernel_rfl) (fun _ _ _ h => h) (Or.inl ⟨by rfl, ?_⟩) (by assumption) ?_
      rotate_left
      · (intro w hSw; (try dsimp only at hSw); go_simp; try with_reducible rfl)
      try simp only [Act.put, List.setIfInBounds_toArray, List.set_cons_zero, List.set_cons_succ]
      refine wpAnyH_take (i := 21) (oi := { dst := some 2, op := Go.Op.assign (Go.Operand.tmp 90), type := 4, pos := "laws.go:4096", after := #[{ on := 20, ground := Go.Ground.data }, { on := 14, ground := Go.Ground.chain }, { on := 0, ground := Go.Ground.phase }, { on := 1, ground := Go.Ground.phase }, { on := 2, ground := Go.Ground.phase }, { on := 3, ground := Go.Ground.phase }, { on := 4, ground := Go.Ground.phase }, { on := 5, ground := Go.Ground.phase }, { on := 6, ground := Go.Ground.phase }, { on := 7, ground := Go.Ground.phase }, { on := 8, ground := Go.Ground.phase }, { on := 9, ground := Go.Ground.phase }, { on := 10, ground := Go.Ground.phase }, { on := 11, ground := Go.Ground.phase }, { on := 12, ground := Go.Ground.phase }, { on := 13, ground := Go.Ground.phase }, { on := 14, ground := Go.Ground.phase }, { on := 15, ground := Go.Ground.phase }, { on := 16, ground := Go.Ground.phase }, { on := 17, ground := Go.Ground.phase }, { on := 18, ground := Go.Ground.phase }, { on := 19, ground := Go.Ground.phase }, { on := 20, ground := Go.Ground.phase }], guard := none }) (v := ?_) rfl (by kernel_rfl) (by kernel_rfl) (by kernel_rfl) (fun _ _ _ h => h) (Or.inl ⟨by rfl, ?_⟩) (by assumption) ?_
      rotate_left
      · (intro w hSw; (try dsimp only at hSw); go_simp; try with_reducible rfl)
      try simp only [Act.put, List.setIfInBounds_toArray, List.set_cons_zero, List.set_cons_succ]
      refine wpAnyH_done (by kernel_rfl) ?_ _
      refine NoPanic.normal ?_
      go_wp2
      go_ret
      exact ⟨rfl, box_end (bs := [(w5.heap.size, 1, 1), (w2.heap.size, N, D)]) (by assumption)⟩
    · have HO := Lib.hid hok
      clear hok
      go_wp2_with fail
      refine (c_implWaterShare _ _ _ _ _ _ _).mono ?_
      intro e w2 hp
      obtain ⟨rfl, hb⟩ := sh_bad HO.out hp
      clear hp
      have J2 := Lib.hid (blk_n3_1 hb)
      have K2 := Lib.hid (blk_n3_2 hb)
      have P2 := Lib.hid (blk_n3_3 hb)
      have hB2 := bel3 hB1 hb
      have zJ2 := J2.out.lt
      have zK2 := K2.out.lt
      have zP2 := P2.out.lt
      obtain ⟨cJ2, dJ2, fJ2, hJ2⟩ := J2.out.two
      obtain ⟨cK2, dK2, fK2, hK2⟩ := K2.out.two
      obtain ⟨cP2, dP2, fP2, hP2⟩ := P2.out.two
      clear hb
      go_wp2_with fail
      refine (c_specWaterShare _ _ _ _ _ _ _).mono ?_
      intro e w3 hp
      obtain ⟨rfl, hb⟩ := sh_bad HO.out hp
      clear hp
      have J3 := Lib.hid (blk_b1 J2.out hb)
      have K3 := Lib.hid (blk_b1 K2.out hb)
      have P3 := Lib.hid (blk_b1 P2.out hb)
      have O3 := Lib.hid (blk_n1 hb)
      have hB3 := bel1 hB2 hb
      have zJ3 := J3.out.lt
      have zK3 := K3.out.lt
      have zP3 := P3.out.lt
      have zO3 := O3.out.lt
      obtain ⟨cO3, dO3, fO3, hO3⟩ := O3.out.two
      clear hb
      clear cJ2 dJ2 fJ2 hJ2 cK2 dK2 fK2 hK2 cP2 dP2 fP2 hP2
      go_wp2
      go_ret
      exact ⟨rfl, hB3.alloc hB3.size _⟩
end Go.Proofs.Ytbbipieadjggkaa
