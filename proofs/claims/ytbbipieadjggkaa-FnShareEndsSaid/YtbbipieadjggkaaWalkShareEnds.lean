/-
  The walk of the law FnShareEnds: it returns true and writes nothing that was there.
-/
import Derived.Test.YtbbipieadjggkaaShareImpl
import Derived.Test.YtbbipieadjggkaaShareSpec
import Derived.Test.YtbbipieadjggkaaDrawShare
import Derived.Test.YtbbipieadjggkaaFracAddImpl
import Derived.Test.YtbbipieadjggkaaLawWords
import Derived.Deep.RegionHeld3
namespace Go.Proofs.Ytbbipieadjggkaa
open Go.RowKit

set_option maxHeartbeats 8000000 in
theorem walk_FnShareEnds (A : Option Addr) (n c : Nat) (w : World) (h : RdB w A n) (hn : n ≤ maxLen) (hc : n ≤ c) :
    Calls Try.prog 13 #[.slice A n c] w fun e w' => e = .returned (.bool true) ∧ Below w.heap.size w w' := by
  unfold maxLen at hn
  have HB := Lib.hid h
  clear h
  by_cases hbig : 1048576 < n
  · go_enter Try.func13, Try.ntmps13
    go_wp2
    go_ret
    exact ⟨rfl, Below.refl _ _⟩
  · have hd1 : decide ((1048576 : Int) < (n : Int)) = false := by simp; omega
    go_enter Try.func13, Try.ntmps13
    go_wp2_with fail
    refine (c_DrawWaterShare _ _ _ _ HB.out (by omega) hc).mono ?_
    rintro e w1 ⟨aA, aH, bA, bH, rn, rd, rfl, hB1⟩
    rcases Bool.eq_false_or_eq_true (vS aA aH bA bH rn rd) with hok | hok
    · obtain ⟨N, D, hN, hD, hvf, h0, h1, he, hne⟩ := vS_val hok
      have HV := Lib.hid hok
      have H3 := Lib.hid (vS_yes hok).1
      have HN := Lib.hid hN
      have HD := Lib.hid hD
      have HVF := Lib.hid hvf
      have HE := Lib.hid he
      have HNE := Lib.hid hne
      obtain ⟨n1, n2, n3, n4, _⟩ := vF_yes hvf
      obtain ⟨ha, hb0, hr⟩ := wv3_yes H3.out
      obtain ⟨a1, a2, a3, a4⟩ := vW_yes ha
      obtain ⟨b1, b2, b3, b4⟩ := vW_yes hb0
      have HA := Lib.hid ha
      have HBB := Lib.hid hb0
      clear hok hN hD hvf he hne ha hb0 hr
      go_wp2_with fail
      refine (c_implWaterShare _ _ _ _ _ _ _).mono ?_
      intro e w2 hp
      obtain ⟨rfl, hb⟩ := sh_ok HV.out HN.out HD.out hp
      clear hp
      have J2 := Lib.hid (blk_n3_1 hb)
      have K2 := Lib.hid (blk_n3_2 hb)
      have P2 := Lib.hid (blk_n3_3 hb)
      have hB2 := bel3 hB1 hb
      have zJ2 := J2.out.lt
      have zK2 := K2.out.lt
      have zP2 := P2.out.lt
      obtain ⟨cJ2, dJ2, fJ2, hJ2⟩ := J2.out.two
      obtain ⟨cK2, dK2, fK2, hK2⟩ := K2.out.two
      obtain ⟨cP2, dP2, fP2, hP2⟩ := P2.out.two
      clear hb
      go_wp2_with fail
      refine (c_specWaterShare _ _ _ _ _ _ _).mono ?_
      intro e w3 hp
      obtain ⟨rfl, hb⟩ := sh_ok HV.out HN.out HD.out hp
      clear hp
      have J3 := Lib.hid (blk_b1 J2.out hb)
      have K3 := Lib.hid (blk_b1 K2.out hb)
      have P3 := Lib.hid (blk_b1 P2.out hb)
      have O3 := Lib.hid (blk_n1 hb)
      have hB3 := bel1 hB2 hb
      have zJ3 := J3.out.lt
      have zK3 := K3.out.lt
      have zP3 := P3.out.lt
      have zO3 := O3.out.lt
      obtain ⟨cJ3, dJ3, fJ3, hJ3⟩ := J3.out.two
      obtain ⟨cK3, dK3, fK3, hK3⟩ := K3.out.two
      obtain ⟨cP3, dP3, fP3, hP3⟩ := P3.out.two
      obtain ⟨cO3, dO3, fO3, hO3⟩ := O3.out.two
      clear hb
      clear cJ2 dJ2 fJ2 hJ2 cK2 dK2 fK2 hK2 cP2 dP2 fP2 hP2
      obtain ⟨⟨s1, s2, s3⟩, ⟨u1, u2, u3⟩⟩ := share_ends H3.out HNE.out
      obtain ⟨_, _, _⟩ := vF_yes HVF.out
      obtain ⟨xn, hxn⟩ : ∃ x, nF aH aA = x := ⟨_, rfl⟩
      obtain ⟨xd, hxd⟩ : ∃ x, dF aH aA = x := ⟨_, rfl⟩
      obtain ⟨yn, hyn⟩ : ∃ x, nF bH bA = x := ⟨_, rfl⟩
      obtain ⟨yd, hyd⟩ : ∃ x, dF bH bA = x := ⟨_, rfl⟩
      rw [hxn, hxd] at s1 s2 s3
      rw [hyn, hyd] at u1 u2 u3
      have HS1 := Lib.hid s1
      have HS2 := Lib.hid s2
      have HS3 := Lib.hid s3
      have HU1 := Lib.hid u1
      have HU2 := Lib.hid u2
      have HU3 := Lib.hid u3
      have HXN := Lib.hid hxn
      have HXD := Lib.hid hxd
      have HYN := Lib.hid hyn
      have HYD := Lib.hid hyd
      have HXO := Lib.hid (ratio_ok HA.out)
      have HYO := Lib.hid (ratio_ok HBB.out)
      have hlt0 : decide (0 ≤ N) = true := by simpa using h0
      clear s1 s2 s3 u1 u2 u3 hxn hxd hyn hyd
      go_wp2_with fail
      refine (c_implWaterRatio _ _ _).mono ?_
      intro e w4 hp
      obtain ⟨rfl, hb⟩ := op_at HA.out HXN.out HXD.out HXO.out hp
      clear hp
      have J4 := Lib.hid (blk_b1 J3.out hb)
      have K4 := Lib.hid (blk_b1 K3.out hb)
      have O4 := Lib.hid (blk_b1 O3.out hb)
      have hB4 := bel1 hB3 hb
      have zJ4 := J4.out.lt
      have zK4 := K4.out.lt
      have zO4 := O4.out.lt
      obtain ⟨cJ4, dJ4, fJ4, hJ4⟩ := J4.out.two
      obtain ⟨cK4, dK4, fK4, hK4⟩ := K4.out.two
      obtain ⟨cO4, dO4, fO4, hO4⟩ := O4.out.two
      clear hb
      clear cJ3 dJ3 fJ3 hJ3 cK3 dK3 fK3 hK3 cP3 dP3 fP3 hP3 cO3 dO3 fO3 hO3
      go_wp2_with fail
      refine (c_implWaterRatio _ _ _).mono ?_
      intro e w5 hp
      obtain ⟨rfl, hb⟩ := op_at HBB.out HYN.out HYD.out HYO.out hp
      clear hp
      have J5 := Lib.hid (blk_b1 J4.out hb)
      have K5 := Lib.hid (blk_b1 K4.out hb)
      have O5 := Lib.hid (blk_b1 O4.out hb)
      have R5 := Lib.hid (blk_n1 hb)
      have hB5 := bel1 hB4 hb
      have zJ5 := J5.out.lt
      have zK5 := K5.out.lt
      have zO5 := O5.out.lt
      have zR5 := R5.out.lt
      obtain ⟨cJ5, dJ5, fJ5, hJ5⟩ := J5.out.two
      obtain ⟨cK5, dK5, fK5, hK5⟩ := K5.out.two
      obtain ⟨cO5, dO5, fO5, hO5⟩ := O5.out.two
      obtain ⟨cR5, dR5, fR5, hR5⟩ := R5.out.two
      clear hb
      clear cJ4 dJ4 fJ4 hJ4 cK4 dK4 fK4 hK4 cO4 dO4 fO4 hO4
      go_wp2_with fail
      refine (c_implWaterShare _ _ _ _ _ _ _).mono ?_
      intro e w6 hp
      obtain ⟨rfl, hb⟩ := sh_ok HS1.out HS2.out HS3.out hp
      clear hp
      have J6 := Lib.hid (blk_b1 J5.out hb)
      have K6 := Lib.hid (blk_b1 K5.out hb)
      have O6 := Lib.hid (blk_b1 O5.out hb)
      have Q6 := Lib.hid (blk_n1 hb)
      have hB6 := bel1 hB5 hb
      have zJ6 := J6.out.lt
      have zK6 := K6.out.lt
      have zO6 := O6.out.lt
      have zQ6 := Q6.out.lt
      obtain ⟨cJ6, dJ6, fJ6, hJ6⟩ := J6.out.two
      obtain ⟨cK6, dK6, fK6, hK6⟩ := K6.out.two
      obtain ⟨cO6, dO6, fO6, hO6⟩ := O6.out.two
      obtain ⟨cQ6, dQ6, fQ6, hQ6⟩ := Q6.out.two
      clear hb
      clear cJ5 dJ5 fJ5 hJ5 cK5 dK5 fK5 hK5 cO5 dO5 fO5 hO5 cR5 dR5 fR5 hR5
      go_wp2_with fail
      refine (c_implWaterShare _ _ _ _ _ _ _).mono ?_
      intro e w7 hp
      obtain ⟨rfl, hb⟩ := sh_ok HU1.out HU2.out HU3.out hp
      clear hp
      have O7 := Lib.hid (blk_b1 O6.out hb)
      have S7 := Lib.hid (blk_n1 hb)
      have hB7 := bel1 hB6 hb
      have zO7 := O7.out.lt
      have zS7 := S7.out.lt
      obtain ⟨cO7, dO7, fO7, hO7⟩ := O7.out.two
      obtain ⟨cS7, dS7, fS7, hS7⟩ := S7.out.two
      clear hb
      clear cJ6 dJ6 fJ6 hJ6 cK6 dK6 fK6 hK6 cO6 dO6 fO6 hO6 cQ6 dQ6 fQ6 hQ6
      have HS := Lib.hid (box_new (t := 26) (x := 0) (y := 1) (box_cons (box_cons (box_mk hB7) O7.out) S7.out))
      go_wp2_with fail
      refine wp_region_noPanic ?_
      refine wp_region_held_drew (S := (fun W => ((W.cell? ⟨w7.heap.size, 0, none⟩ = some (.int .i64 0) ∧ W.cell? ⟨w7.heap.size, 1, none⟩ = some (.int .i64 1)) ∧ (W.cell? ⟨w6.heap.size, 0, none⟩ = some (.int .i64 1) ∧ W.cell? ⟨w6.heap.size, 1, none⟩ = some (.int .i64 1)) ∧ (W.cell? ⟨w2.heap.size, 0, none⟩ = some (.int .i64 N) ∧ W.cell? ⟨w2.heap.size, 1, none⟩ = some (.int .i64 D)) ∧ True) ∧ Below w.heap.size w W)) (by kernel_rfl) (box_drew HS.out) (fun hH0 => ?_)
      refine wpAnyH_take (i := 0) (oi := { dst := some 85, op := Go.Op.move (Go.Operand.tmp 11), type := 4, pos := "laws.go:4135", after := #[], guard := none }) (v := ?_) rfl (by kernel_rfl) (by kernel_rfl) (by kernel_rfl) (fun _ _ _ h => h) (Or.inl ⟨by rfl, ?_⟩) (by assumption) ?_
      rotate_left
      · (intro w hSw; (try dsimp only at hSw); go_simp; try with_reducible rfl)
      try simp only [Act.put, List.setIfInBounds_toArray, List.set_cons_zero, List.set_cons_succ]
      refine wpAnyH_take (i := 1) (oi := { dst := some 86, op := Go.Op.move (Go.Operand.tmp 85), type := 4, pos := "laws.go:4135", after := #[{ on := 0, ground := Go.Ground.data }], guard := none }) (v := ?_) rfl (by kernel_rfl) (by kernel_rfl) (by kernel_rfl) (fun _ _ _ h => h) (Or.inl ⟨by rfl, ?_⟩) (by assumption) ?_
      rotate_left
      · (intro w hSw; (try dsimp only at hSw); go_simp; try with_reducible rfl)
      try simp only [Act.put, List.setIfInBounds_toArray, List.set_cons_zero, List.set_cons_succ]
      refine wpAnyH_take (i := 2) (oi := { dst := some 87, op := Go.Op.move (Go.Operand.tmp 13), type := 4, pos := "laws.go:4135", after := #[{ on := 1, ground := Go.Ground.guard }], guard := some (1, true) }) (v := ?_) rfl (by kernel_rfl) (by kernel_rfl) (by kernel_rfl) (fun _ _ _ h => h) (Or.inl ⟨by rfl, ?_⟩) (by assumption) ?_
      rotate_left
      · (intro w hSw; (try dsimp only at hSw); go_simp; try with_reducible rfl)
      try simp only [Act.put, List.setIfInBounds_toArray, List.set_cons_zero, List.set_cons_succ]
      refine wpAnyH_take (i := 3) (oi := { dst := some 88, op := Go.Op.pick (Go.Operand.tmp 86) (Go.Operand.tmp 87) (Go.Operand.const (Go.Value.bool false)), type := 4, pos := "laws.go:4135", after := #[{ on := 1, ground := Go.Ground.data }, { on := 2, ground := Go.Ground.data }], guard := none }) (v := ?_) rfl (by kernel_rfl) (by kernel_rfl) (by kernel_rfl) (fun _ _ _ h => h) (Or.inl ⟨by rfl, ?_⟩) (by assumption) ?_
      rotate_left
      · (intro w hSw; (try dsimp only at hSw); go_simp; try with_reducible rfl)
      try simp only [Act.put, List.setIfInBounds_toArray, List.set_cons_zero, List.set_cons_succ]
      refine wpAnyH_take (i := 4) (oi := { dst := some 89, op := Go.Op.move (Go.Operand.tmp 88), type := 4, pos := "laws.go:4135", after := #[{ on := 3, ground := Go.Ground.data }, { on := 1, ground := Go.Ground.chain }], guard := none }) (v := ?_) rfl (by kernel_rfl) (by kernel_rfl) (by kernel_rfl) (fun _ _ _ h => h) (Or.inl ⟨by rfl, ?_⟩) (by assumption) ?_
      rotate_left
      · (intro w hSw; (try dsimp only at hSw); go_simp; try with_reducible rfl)
      try simp only [Act.put, List.setIfInBounds_toArray, List.set_cons_zero, List.set_cons_succ]
      refine wpAnyH_take (i := 5) (oi := { dst := some 90, op := Go.Op.move (Go.Operand.tmp 15), type := 4, pos := "laws.go:4135", after := #[{ on := 4, ground := Go.Ground.guard }], guard := some (4, true) }) (v := ?_) rfl (by kernel_rfl) (by kernel_rfl) (by kernel_rfl) (fun _ _ _ h => h) (Or.inl ⟨by rfl, ?_⟩) (by assumption) ?_
      rotate_left
      · (intro w hSw; (try dsimp only at hSw); go_simp; try with_reducible rfl)
      try simp only [Act.put, List.setIfInBounds_toArray, List.set_cons_zero, List.set_cons_succ]
      refine wpAnyH_take (i := 6) (oi := { dst := some 91, op := Go.Op.pick (Go.Operand.tmp 89) (Go.Operand.tmp 90) (Go.Operand.const (Go.Value.bool false)), type := 4, pos := "laws.go:4135", after := #[{ on := 4, ground := Go.Ground.data }, { on := 5, ground := Go.Ground.data }], guard := none }) (v := ?_) rfl (by kernel_rfl) (by kernel_rfl) (by kernel_rfl) (fun _ _ _ h => h) (Or.inl ⟨by rfl, ?_⟩) (by assumption) ?_
      rotate_left
      · (intro w hSw; (try dsimp only at hSw); go_simp; try with_reducible rfl)
      try simp only [Act.put, List.setIfInBounds_toArray, List.set_cons_zero, List.set_cons_succ]
      refine wpAnyH_take (i := 7) (oi := { dst := some 92, op := Go.Op.move (Go.Operand.tmp 91), type := 4, pos := "laws.go:4135", after := #[{ on := 6, ground := Go.Ground.data }, { on := 4, ground := Go.Ground.chain }], guard := none }) (v := ?_) rfl (by kernel_rfl) (by kernel_rfl) (by kernel_rfl) (fun _ _ _ h => h) (Or.inl ⟨by rfl, ?_⟩) (by assumption) ?_
      rotate_left
      · (intro w hSw; (try dsimp only at hSw); go_simp; try with_reducible rfl)
      try simp only [Act.put, List.setIfInBounds_toArray, List.set_cons_zero, List.set_cons_succ]
      refine wpAnyH_take (i := 8) (oi := { dst := some 93, op := Go.Op.move (Go.Operand.tmp 17), type := 4, pos := "laws.go:4135", after := #[{ on := 7, ground := Go.Ground.guard }], guard := some (7, true) }) (v := ?_) rfl (by kernel_rfl) (by kernel_rfl) (by kernel_rfl) (fun _ _ _ h => h) (Or.inl ⟨by rfl, ?_⟩) (by assumption) ?_
      rotate_left
      · (intro w hSw; (try dsimp only at hSw); go_simp; try with_reducible rfl)
      try simp only [Act.put, List.setIfInBounds_toArray, List.set_cons_zero, List.set_cons_succ]
      refine wpAnyH_take (i := 9) (oi := { dst := some 94, op := Go.Op.pick (Go.Operand.tmp 92) (Go.Operand.tmp 93) (Go.Operand.const (Go.Value.bool false)), type := 4, pos := "laws.go:4135", after := #[{ on := 7, ground := Go.Ground.data }, { on := 8, ground := Go.Ground.data }], guard := none }) (v := ?_) rfl (by kernel_rfl) (by kernel_rfl) (by kernel_rfl) (fun _ _ _ h => h) (Or.inl ⟨by rfl, ?_⟩) (by assumption) ?_
      rotate_left
      · (intro w hSw; (try dsimp only at hSw); go_simp; try with_reducible rfl)
      try simp only [Act.put, List.setIfInBounds_toArray, List.set_cons_zero, List.set_cons_succ]
      refine wpAnyH_take (i := 10) (oi := { dst := some 95, op := Go.Op.move (Go.Operand.tmp 94), type := 4, pos := "laws.go:4135", after := #[{ on := 9, ground := Go.Ground.data }, { on := 7, ground := Go.Ground.chain }], guard := none }) (v := ?_) rfl (by kernel_rfl) (by kernel_rfl) (by kernel_rfl) (fun _ _ _ h => h) (Or.inl ⟨by rfl, ?_⟩) (by assumption) ?_
      rotate_left
      · (intro w hSw; (try dsimp only at hSw); go_simp; try with_reducible rfl)
      try simp only [Act.put, List.setIfInBounds_toArray, List.set_cons_zero, List.set_cons_succ]
      refine wpAnyH_take (i := 11) (oi := { dst := some 96, op := Go.Op.load 26 (Go.Operand.tmp 14), type := 26, pos := "laws.go:4135", after := #[{ on := 10, ground := Go.Ground.guard }], guard := some (10, true) }) (v := ?_) rfl (by kernel_rfl) (by kernel_rfl) (by kernel_rfl) (fun _ _ _ h => h) (Or.inl ⟨by rfl, ?_⟩) (by assumption) ?_
      rotate_left
      · (intro w hSw; (try dsimp only at hSw); go_simp; try with_reducible rfl)
      try simp only [Act.put, List.setIfInBounds_toArray, List.set_cons_zero, List.set_cons_succ]
      refine wpAnyH_ready (rs := [12]) (by kernel_rfl) (by simp) ?_
      refine (AllReadyH.cons (o := { dst := some 97, op := Go.Op.call { callee := Go.Callee.value (Go.Operand.func 23), args := #[Go.Operand.const (Go.Value.int Go.IntKind.i64 1)], argTypes := #[3] }, type := 26, pos := "laws.go:4135", after := #[{ on := 10, ground := Go.Ground.chain }, { on := 10, ground := Go.Ground.guard }], guard := some (10, true) }) rfl (fun K hK => ?_) AllReadyH.nil)
      go_simp
      refine (c_frac 1 _).mono ?_
      rintro e w8 ⟨rfl, hb⟩
      have hS := box_below (bs := [(w7.heap.size, 0, 1), (w6.heap.size, 1, 1), (w2.heap.size, N, D)]) (box_drew HS.out) hb
      clear hb
      go_wp2_with fail
      refine hK.out _ _ hS (fun hH13 => ?_)
      clear hK K hH0
      try simp only [Act.put, List.setIfInBounds_toArray, List.set_cons_zero, List.set_cons_succ]
      refine wpAnyH_take (i := 13) (oi := { dst := some 98, op := Go.Op.binOp Go.BinOp.eql 26 (Go.Operand.tmp 96) (Go.Operand.tmp 97) 26, type := 4, pos := "laws.go:4135", after := #[{ on := 11, ground := Go.Ground.data }, { on := 12, ground := Go.Ground.data }, { on := 10, ground := Go.Ground.guard }], guard := some (10, true) }) (v := ?_) rfl (by kernel_rfl) (by kernel_rfl) (by kernel_rfl) (fun _ _ _ h => h) (Or.inl ⟨by rfl, ?_⟩) (by assumption) ?_
      rotate_left
      · (intro w hSw; (try dsimp only at hSw); go_simp; try with_reducible rfl)
      try simp only [Act.put, List.setIfInBounds_toArray, List.set_cons_zero, List.set_cons_succ]
      refine wpAnyH_take (i := 14) (oi := { dst := some 99, op := Go.Op.pick (Go.Operand.tmp 95) (Go.Operand.tmp 98) (Go.Operand.const (Go.Value.bool false)), type := 4, pos := "laws.go:4135", after := #[{ on := 10, ground := Go.Ground.data }, { on := 13, ground := Go.Ground.data }], guard := none }) (v := ?_) rfl (by kernel_rfl) (by kernel_rfl) (by kernel_rfl) (fun _ _ _ h => h) (Or.inl ⟨by rfl, ?_⟩) (by assumption) ?_
      rotate_left
      · (intro w hSw; (try dsimp only at hSw); go_simp; try with_reducible rfl)
      try simp only [Act.put, List.setIfInBounds_toArray, List.set_cons_zero, List.set_cons_succ]
      refine wpAnyH_take (i := 15) (oi := { dst := some 100, op := Go.Op.move (Go.Operand.tmp 99), type := 4, pos := "laws.go:4135", after := #[{ on := 14, ground := Go.Ground.data }, { on := 12, ground := Go.Ground.chain }], guard := none }) (v := ?_) rfl (by kernel_rfl) (by kernel_rfl) (by kernel_rfl) (fun _ _ _ h => h) (Or.inl ⟨by rfl, ?_⟩) (by assumption) ?_
      rotate_left
      · (intro w hSw; (try dsimp only at hSw); go_simp; try with_reducible rfl)
      try simp only [Act.put, List.setIfInBounds_toArray, List.set_cons_zero, List.set_cons_succ]
      refine wpAnyH_take (i := 16) (oi := { dst := some 101, op := Go.Op.load 26 (Go.Operand.tmp 16), type := 26, pos := "laws.go:4135", after := #[{ on := 15, ground := Go.Ground.guard }], guard := some (15, true) }) (v := ?_) rfl (by kernel_rfl) (by kernel_rfl) (by kernel_rfl) (fun _ _ _ h => h) (Or.inl ⟨by rfl, ?_⟩) (by assumption) ?_
      rotate_left
      · (intro w hSw; (try dsimp only at hSw); go_simp; try with_reducible rfl)
      try simp only [Act.put, List.setIfInBounds_toArray, List.set_cons_zero, List.set_cons_succ]
      refine wpAnyH_ready (rs := [17]) (by kernel_rfl) (by simp) ?_
      refine (AllReadyH.cons (o := { dst := some 102, op := Go.Op.call { callee := Go.Callee.value (Go.Operand.func 23), args := #[Go.Operand.const (Go.Value.int Go.IntKind.i64 0)], argTypes := #[3] }, type := 26, pos := "laws.go:4135", after := #[{ on := 15, ground := Go.Ground.chain }, { on := 15, ground := Go.Ground.guard }], guard := some (15, true) }) rfl (fun K hK => ?_) AllReadyH.nil)
      go_simp
      refine (c_frac 0 _).mono ?_
      rintro e w9 ⟨rfl, hb⟩
      have hS := box_below (bs := [(w7.heap.size, 0, 1), (w6.heap.size, 1, 1), (w2.heap.size, N, D)]) hS hb
      clear hb
      go_wp2_with fail
      refine hK.out _ _ hS (fun hH18 => ?_)
      clear hK K hH13
      try simp only [Act.put, List.setIfInBounds_toArray, List.set_cons_zero, List.set_cons_succ]
      refine wpAnyH_take (i := 18) (oi := { dst := some 103, op := Go.Op.binOp Go.BinOp.eql 26 (Go.Operand.tmp 101) (Go.Operand.tmp 102) 26, type := 4, pos := "laws.go:4135", after := #[{ on := 16, ground := Go.Ground.data }, { on := 17, ground := Go.Ground.data }, { on := 15, ground := Go.Ground.guard }], guard := some (15, true) }) (v := ?_) rfl (by kernel_rfl) (by kernel_rfl) (by kernel_rfl) (fun _ _ _ h => h) (Or.inl ⟨by rfl, ?_⟩) (by assumption) ?_
      rotate_left
      · (intro w hSw; (try dsimp only at hSw); go_simp; try with_reducible rfl)
      try simp only [Act.put, List.setIfInBounds_toArray, List.set_cons_zero, List.set_cons_succ]
      refine wpAnyH_take (i := 19) (oi := { dst := some 104, op := Go.Op.pick (Go.Operand.tmp 100) (Go.Operand.tmp 103) (Go.Operand.const (Go.Value.bool false)), type := 4, pos := "laws.go:4135", after := #[{ on := 15, ground := Go.Ground.data }, { on := 18, ground := Go.Ground.data }], guard := none }) (v := ?_) rfl (by kernel_rfl) (by kernel_rfl) (by kernel_rfl) (fun _ _ _ h => h) (Or.inl ⟨by rfl, ?_⟩) (by assumption) ?_
      rotate_left
      · (intro w hSw; (try dsimp only at hSw); go_simp; try with_reducible rfl)
      try simp only [Act.put, List.setIfInBounds_toArray, List.set_cons_zero, List.set_cons_succ]
      refine wpAnyH_take (i := 20) (oi := { dst := some 105, op := Go.Op.move (Go.Operand.tmp 104), type := 4, pos := "laws.go:4135", after := #[{ on := 19, ground := Go.Ground.data }, { on := 17, ground := Go.Ground.chain }], guard := none }) (v := ?_) rfl (by kernel_rfl) (by kernel_rfl) (by kernel_rfl) (fun _ _ _ h => h) (Or.inl ⟨by rfl, ?_⟩) (by assumption) ?_
      rotate_left
      · (intro w hSw; (try dsimp only at hSw); go_simp; try with_reducible rfl)
      try simp only [Act.put, List.setIfInBounds_toArray, List.set_cons_zero, List.set_cons_succ]
      refine wpAnyH_take (i := 21) (oi := { dst := some 106, op := Go.Op.fieldAddr 26 (Go.Operand.tmp 6) 0, type := 0, pos := "laws.go:4135", after := #[{ on := 20, ground := Go.Ground.guard }], guard := some (20, true) }) (v := ?_) rfl (by kernel_rfl) (by kernel_rfl) (by kernel_rfl) (fun _ _ _ h => h) (Or.inl ⟨by rfl, ?_⟩) (by assumption) ?_
      rotate_left
      · (intro w hSw; (try dsimp only at hSw); go_simp; try with_reducible rfl)
      try simp only [Act.put, List.setIfInBounds_toArray, List.set_cons_zero, List.set_cons_succ]
      refine wpAnyH_take (i := 22) (oi := { dst := some 107, op := Go.Op.load 3 (Go.Operand.tmp 106), type := 3, pos := "laws.go:4135", after := #[{ on := 21, ground := Go.Ground.data }, { on := 20, ground := Go.Ground.guard }], guard := some (20, true) }) (v := ?_) rfl (by kernel_rfl) (by kernel_rfl) (by kernel_rfl) (fun _ _ _ h => h) (Or.inl ⟨by rfl, ?_⟩) (by assumption) ?_
      rotate_left
      · (intro w hSw; (try dsimp only at hSw); go_simp; try with_reducible rfl)
      try simp only [Act.put, List.setIfInBounds_toArray, List.set_cons_zero, List.set_cons_succ]
      refine wpAnyH_take (i := 23) (oi := { dst := some 108, op := Go.Op.binOp Go.BinOp.geq 3 (Go.Operand.tmp 107) (Go.Operand.const (Go.Value.int Go.IntKind.i64 0)) 3, type := 4, pos := "laws.go:4135", after := #[{ on := 22, ground := Go.Ground.data }, { on := 20, ground := Go.Ground.guard }], guard := some (20, true) }) (v := ?_) rfl (by kernel_rfl) (by kernel_rfl) (by kernel_rfl) (fun _ _ _ h => h) (Or.inl ⟨by rfl, ?_⟩) (by assumption) ?_
      rotate_left
      · (intro w hSw; (try dsimp only at hSw); go_simp; try with_reducible rfl)
      try simp only [Act.put, List.setIfInBounds_toArray, List.set_cons_zero, List.set_cons_succ]
      refine wpAnyH_take (i := 24) (oi := { dst := some 109, op := Go.Op.pick (Go.Operand.tmp 105) (Go.Operand.tmp 108) (Go.Operand.const (Go.Value.bool false)), type := 4, pos := "laws.go:4135", after := #[{ on := 20, ground := Go.Ground.data }, { on := 23, ground := Go.Ground.data }], guard := none }) (v := ?_) rfl (by kernel_rfl) (by kernel_rfl) (by kernel_rfl) (fun _ _ _ h => h) (Or.inl ⟨by rfl, ?_⟩) (by assumption) ?_
      rotate_left
      · (intro w hSw; (try dsimp only at hSw); go_simp; try with_reducible rfl)
      try simp only [Act.put, List.setIfInBounds_toArray, List.set_cons_zero, List.set_cons_succ]
      refine wpAnyH_take (i := 25) (oi := { dst := some 2, op := Go.Op.assign (Go.Operand.tmp 109), type := 4, pos := "laws.go:4135", after := #[{ on := 24, ground := Go.Ground.data }, { on := 20, ground := Go.Ground.chain }, { on := 0, ground := Go.Ground.phase }, { on := 1, ground := Go.Ground.phase }, { on := 2, ground := Go.Ground.phase }, { on := 3, ground := Go.Ground.phase }, { on := 4, ground := Go.Ground.phase }, { on := 5, ground := Go.Ground.phase }, { on := 6, ground := Go.Ground.phase }, { on := 7, ground := Go.Ground.phase }, { on := 8, ground := Go.Ground.phase }, { on := 9, ground := Go.Ground.phase }, { on := 10, ground := Go.Ground.phase }, { on := 11, ground := Go.Ground.phase }, { on := 12, ground := Go.Ground.phase }, { on := 13, ground := Go.Ground.phase }, { on := 14, ground := Go.Ground.phase }, { on := 15, ground := Go.Ground.phase }, { on := 16, ground := Go.Ground.phase }, { on := 17, ground := Go.Ground.phase }, { on := 18, ground := Go.Ground.phase }, { on := 19, ground := Go.Ground.phase }, { on := 20, ground := Go.Ground.phase }, { on := 21, ground := Go.Ground.phase }, { on := 22, ground := Go.Ground.phase }, { on := 23, ground := Go.Ground.phase }, { on := 24, ground := Go.Ground.phase }], guard := none }) (v := ?_) rfl (by kernel_rfl) (by kernel_rfl) (by kernel_rfl) (fun _ _ _ h => h) (Or.inl ⟨by rfl, ?_⟩) (by assumption) ?_
      rotate_left
      · (intro w hSw; (try dsimp only at hSw); go_simp; try with_reducible rfl)
      try simp only [Act.put, List.setIfInBounds_toArray, List.set_cons_zero, List.set_cons_succ]
      refine wpAnyH_done (by kernel_rfl) ?_ _
      refine NoPanic.normal ?_
      go_wp2
      go_ret
      exact ⟨rfl, box_end (bs := [(w7.heap.size, 0, 1), (w6.heap.size, 1, 1), (w2.heap.size, N, D)]) (by assumption)⟩
    · have HO := Lib.hid hok
      clear hok
      go_wp2_with fail
      refine (c_implWaterShare _ _ _ _ _ _ _).mono ?_
      intro e w2 hp
      obtain ⟨rfl, hb⟩ := sh_bad HO.out hp
      clear hp
      have J2 := Lib.hid (blk_n3_1 hb)
      have K2 := Lib.hid (blk_n3_2 hb)
      have P2 := Lib.hid (blk_n3_3 hb)
      have hB2 := bel3 hB1 hb
      have zJ2 := J2.out.lt
      have zK2 := K2.out.lt
      have zP2 := P2.out.lt
      obtain ⟨cJ2, dJ2, fJ2, hJ2⟩ := J2.out.two
      obtain ⟨cK2, dK2, fK2, hK2⟩ := K2.out.two
      obtain ⟨cP2, dP2, fP2, hP2⟩ := P2.out.two
      clear hb
      go_wp2_with fail
      refine (c_specWaterShare _ _ _ _ _ _ _).mono ?_
      intro e w3 hp
      obtain ⟨rfl, hb⟩ := sh_bad HO.out hp
      clear hp
      have J3 := Lib.hid (blk_b1 J2.out hb)
      have K3 := Lib.hid (blk_b1 K2.out hb)
      have P3 := Lib.hid (blk_b1 P2.out hb)
      have O3 := Lib.hid (blk_n1 hb)
      have hB3 := bel1 hB2 hb
      have zJ3 := J3.out.lt
      have zK3 := K3.out.lt
      have zP3 := P3.out.lt
      have zO3 := O3.out.lt
      obtain ⟨cO3, dO3, fO3, hO3⟩ := O3.out.two
      clear hb
      clear cJ2 dJ2 fJ2 hJ2 cK2 dK2 fK2 hK2 cP2 dP2 fP2 hP2
      go_wp2
      go_ret
      exact ⟨rfl, hB3.alloc hB3.size _⟩
end Go.Proofs.Ytbbipieadjggkaa
