/-
  The walk of the law FnLag: it returns true and writes nothing that was there.
-/
import Derived.Test.YtfngdemjlglliaaLagLawW
import Derived.Test.YtfngdemjlglliaaLagDraw
import Derived.Test.YtfngdemjlglliaaLagImpl
import Derived.Test.YtfngdemjlglliaaLagSpec
import Derived.Test.YtfngdemjlglliaaFracAddImpl
import Derived.Deep.RegionHeld3
namespace Go.Proofs.Ytfngdemjlglliaa
open Go.RowKit

set_option maxHeartbeats 8000000 in
set_option maxRecDepth 4000 in
theorem walk_FnLag (A : Option Addr) (n c : Nat) (w : World) (h : RdB w A n) (hn : n ≤ maxLen) (hc : n ≤ c) :
    Calls Try.prog 4 #[.slice A n c] w fun e w' => e = .returned (.bool true) ∧ Below w.heap.size w w' := by
  unfold maxLen at hn
  have HB := Lib.hid h
  clear h
  by_cases hbig : 1048576 < n
  · go_enter Try.func4, Try.ntmps4
    go_wp2
    go_ret
    exact ⟨rfl, Below.refl _ _⟩
  · have hd1 : decide ((1048576 : Int) < (n : Int)) = false := by simp; omega
    go_enter Try.func4, Try.ntmps4
    go_wp2_with fail
    refine (c_DrawGasLag _ _ _ _ HB.out (by omega) hc).mono ?_
    rintro e w1 ⟨A1, n1, c1, a, B1, m1, cm1, b, x, rfl, hn1, hm1, hA, hB, hB1⟩
    have HA := Lib.hid hA
    have HBB := Lib.hid hB
    have hC1 : Below w1.heap.size w1 w1 := Below.refl _ _
    clear hA hB HB
    rcases Bool.eq_false_or_eq_true (okL a b x) with hok | hok
    · obtain ⟨N, hN⟩ : ∃ y, nL a b x = y := ⟨_, rfl⟩
      obtain ⟨D, hD⟩ : ∃ y, dL a b x = y := ⟨_, rfl⟩
      have HK := Lib.hid hok
      have HN := Lib.hid hN
      have HD := Lib.hid hD
      have hNN : (N != N) = false := by simp
      have hDD : (D != D) = false := by simp
      clear hok hN hD
      go_wp2_with fail
      refine (c_implGasLag _ _ _ a _ _ _ b x _ (by omega) (by omega) (HA.out.below (by have hsz := hC1.size; first | exact hC1 | go_grown)) (HBB.out.below (by have hsz := hC1.size; first | exact hC1 | go_grown))).mono ?_
      intro e w2 hp
      obtain ⟨rfl, hb⟩ := hp.val ⟨HK.out, HN.out, HD.out⟩
      clear hp
      have hC2 := bel0 hC1 hb
      have hB2 := bel0 hB1 hb
      clear hb
      go_wp2_with fail
      refine (c_specGasLag _ _ _ a _ _ _ b x _ (by omega) (by omega) (HA.out.below (by have hsz := hC2.size; first | exact hC2 | go_grown)) (HBB.out.below (by have hsz := hC2.size; first | exact hC2 | go_grown))).mono ?_
      intro e w3 hp
      obtain ⟨rfl, hb⟩ := hp.val ⟨HK.out, HN.out, HD.out⟩
      clear hp
      have hC3 := bel1 hC2 hb
      have O3 := Lib.hid (blk_n1 hb)
      have hB3 := bel1 hB2 hb
      have zO3 := O3.out.lt
      obtain ⟨cO3, dO3, fO3, hO3⟩ := O3.out.two
      clear hb
      obtain ⟨ha, hb0, _, _⟩ := l_yes HK.out
      obtain ⟨n0, d0, hn0, hd0, _, _, _, _, _⟩ := c_nam ha
      obtain ⟨n2, d2, hn2, hd2, _, _, _, _, _⟩ := c_nam hb0
      obtain ⟨t0, t1, t2, t3⟩ := lag_back HK.out hn0 hd0 hn2 hd2 HN.out HD.out
      have HSELF := Lib.hid (lag_self ha)
      have KA := Lib.hid ha
      have KB := Lib.hid hb0
      have N0 := Lib.hid hn0
      have D0 := Lib.hid hd0
      have N2 := Lib.hid hn2
      have D2 := Lib.hid hd2
      have T0 := Lib.hid t0
      have T1 := Lib.hid t1
      have T2 := Lib.hid t2
      have T3 := Lib.hid t3
      clear ha hb0 hn0 hd0 hn2 hd2 t0 t1 t2 t3
      go_wp2_with fail
      refine (c_implCurveAt _ _ _ a x _ (by omega) (HA.out.below (by have hsz := hC3.size; first | exact hC3 | go_grown))).mono ?_
      intro e w4 hp
      obtain ⟨rfl, hb⟩ := hp.val ⟨KA.out, N0.out, D0.out⟩
      clear hp
      have hC4 := bel1 hC3 hb
      have O4 := Lib.hid (blk_b1 O3.out hb)
      have V4 := Lib.hid (blk_n1 hb)
      have hB4 := bel1 hB3 hb
      have zO4 := O4.out.lt
      have zV4 := V4.out.lt
      obtain ⟨cO4, dO4, fO4, hO4⟩ := O4.out.two
      clear hb
      clear cO3 dO3 fO3 hO3
      go_wp2_with fail
      refine (c_implCurveAt _ _ _ b x _ (by omega) (HBB.out.below (by have hsz := hC4.size; first | exact hC4 | go_grown))).mono ?_
      intro e w5 hp
      obtain ⟨rfl, hb⟩ := hp.val ⟨KB.out, N2.out, D2.out⟩
      clear hp
      have hC5 := bel1 hC4 hb
      have O5 := Lib.hid (blk_b1 O4.out hb)
      have V5 := Lib.hid (blk_b1 V4.out hb)
      have P5 := Lib.hid (blk_n1 hb)
      have hB5 := bel1 hB4 hb
      have zO5 := O5.out.lt
      have zV5 := V5.out.lt
      have zP5 := P5.out.lt
      obtain ⟨cO5, dO5, fO5, hO5⟩ := O5.out.two
      clear hb
      clear cO4 dO4 fO4 hO4
      go_wp2_with fail
      refine (c_implFracAdd n2 d2 N D _).mono ?_
      intro e w6 hp
      obtain ⟨rfl, hb⟩ := op_at T0.out T2.out T3.out T1.out hp
      clear hp
      have hC6 := bel1 hC5 hb
      have O6 := Lib.hid (blk_b1 O5.out hb)
      have V6 := Lib.hid (blk_b1 V5.out hb)
      have P6 := Lib.hid (blk_b1 P5.out hb)
      have Q6 := Lib.hid (blk_n1 hb)
      have hB6 := bel1 hB5 hb
      have zO6 := O6.out.lt
      have zV6 := V6.out.lt
      have zP6 := P6.out.lt
      have zQ6 := Q6.out.lt
      obtain ⟨cP6, dP6, fP6, hP6⟩ := P6.out.two
      clear hb
      clear cO5 dO5 fO5 hO5
      go_wp2_with fail
      refine (c_implGasLag _ _ _ a _ _ _ a x _ (by omega) (by omega) (HA.out.below (by have hsz := hC6.size; first | exact hC6 | go_grown)) (HA.out.below (by have hsz := hC6.size; first | exact hC6 | go_grown))).mono ?_
      intro e w7 hp
      obtain ⟨rfl, hb⟩ := hp.val ⟨HSELF.out.1, HSELF.out.2.1, HSELF.out.2.2⟩
      clear hp
      have hC7 := bel1 hC6 hb
      have O7 := Lib.hid (blk_b1 O6.out hb)
      have V7 := Lib.hid (blk_b1 V6.out hb)
      have P7 := Lib.hid (blk_b1 P6.out hb)
      have Q7 := Lib.hid (blk_b1 Q6.out hb)
      have R7 := Lib.hid (blk_n1 hb)
      have hB7 := bel1 hB6 hb
      have zO7 := O7.out.lt
      have zV7 := V7.out.lt
      have zP7 := P7.out.lt
      have zQ7 := Q7.out.lt
      have zR7 := R7.out.lt
      clear hb
      clear cP6 dP6 fP6 hP6
      have HS0 := Lib.hid (box_new (t := 27) (x := 0) (y := 1) (box_cons (box_cons (box_mk hB7) P7.out) R7.out))
      go_wp2_with fail
      refine wp_region_noPanic ?_
      refine wp_region_held_drew (S := (fun W => ((W.cell? ⟨w7.heap.size, 0, none⟩ = some (.int .i64 0) ∧ W.cell? ⟨w7.heap.size, 1, none⟩ = some (.int .i64 1)) ∧ (W.cell? ⟨w6.heap.size, 0, none⟩ = some (.int .i64 n0) ∧ W.cell? ⟨w6.heap.size, 1, none⟩ = some (.int .i64 d0)) ∧ (W.cell? ⟨w4.heap.size, 0, none⟩ = some (.int .i64 n0) ∧ W.cell? ⟨w4.heap.size, 1, none⟩ = some (.int .i64 d0)) ∧ True) ∧ Below w.heap.size w W)) (by kernel_rfl) (box_drew HS0.out) (fun hH0 => ?_)
      refine wpAnyH_take (i := 0) (oi := { dst := some 86, op := Go.Op.move (Go.Operand.tmp 11), type := 4, pos := "laws.go:4670", after := #[], guard := none }) (v := ?_) rfl (by kernel_rfl) (by kernel_rfl) (by kernel_rfl) (fun _ _ _ h => h) (Or.inl ⟨by rfl, ?_⟩) (by assumption) ?_
      rotate_left
      · (intro w hSw; (try dsimp only at hSw); go_simp; try with_reducible rfl)
      try simp only [Act.put, List.setIfInBounds_toArray, List.set_cons_zero, List.set_cons_succ]
      refine wpAnyH_take (i := 1) (oi := { dst := some 87, op := Go.Op.move (Go.Operand.tmp 86), type := 4, pos := "laws.go:4670", after := #[{ on := 0, ground := Go.Ground.data }], guard := none }) (v := ?_) rfl (by kernel_rfl) (by kernel_rfl) (by kernel_rfl) (fun _ _ _ h => h) (Or.inl ⟨by rfl, ?_⟩) (by assumption) ?_
      rotate_left
      · (intro w hSw; (try dsimp only at hSw); go_simp; try with_reducible rfl)
      try simp only [Act.put, List.setIfInBounds_toArray, List.set_cons_zero, List.set_cons_succ]
      refine wpAnyH_take (i := 2) (oi := { dst := some 88, op := Go.Op.move (Go.Operand.tmp 13), type := 4, pos := "laws.go:4670", after := #[{ on := 1, ground := Go.Ground.guard }], guard := some (1, true) }) (v := ?_) rfl (by kernel_rfl) (by kernel_rfl) (by kernel_rfl) (fun _ _ _ h => h) (Or.inl ⟨by rfl, ?_⟩) (by assumption) ?_
      rotate_left
      · (intro w hSw; (try dsimp only at hSw); go_simp; try with_reducible rfl)
      try simp only [Act.put, List.setIfInBounds_toArray, List.set_cons_zero, List.set_cons_succ]
      refine wpAnyH_take (i := 3) (oi := { dst := some 89, op := Go.Op.pick (Go.Operand.tmp 87) (Go.Operand.tmp 88) (Go.Operand.const (Go.Value.bool false)), type := 4, pos := "laws.go:4670", after := #[{ on := 1, ground := Go.Ground.data }, { on := 2, ground := Go.Ground.data }], guard := none }) (v := ?_) rfl (by kernel_rfl) (by kernel_rfl) (by kernel_rfl) (fun _ _ _ h => h) (Or.inl ⟨by rfl, ?_⟩) (by assumption) ?_
      rotate_left
      · (intro w hSw; (try dsimp only at hSw); go_simp; try with_reducible rfl)
      try simp only [Act.put, List.setIfInBounds_toArray, List.set_cons_zero, List.set_cons_succ]
      refine wpAnyH_take (i := 4) (oi := { dst := some 90, op := Go.Op.move (Go.Operand.tmp 89), type := 4, pos := "laws.go:4670", after := #[{ on := 3, ground := Go.Ground.data }, { on := 1, ground := Go.Ground.chain }], guard := none }) (v := ?_) rfl (by kernel_rfl) (by kernel_rfl) (by kernel_rfl) (fun _ _ _ h => h) (Or.inl ⟨by rfl, ?_⟩) (by assumption) ?_
      rotate_left
      · (intro w hSw; (try dsimp only at hSw); go_simp; try with_reducible rfl)
      try simp only [Act.put, List.setIfInBounds_toArray, List.set_cons_zero, List.set_cons_succ]
      refine wpAnyH_take (i := 5) (oi := { dst := some 91, op := Go.Op.move (Go.Operand.tmp 15), type := 4, pos := "laws.go:4670", after := #[{ on := 4, ground := Go.Ground.guard }], guard := some (4, true) }) (v := ?_) rfl (by kernel_rfl) (by kernel_rfl) (by kernel_rfl) (fun _ _ _ h => h) (Or.inl ⟨by rfl, ?_⟩) (by assumption) ?_
      rotate_left
      · (intro w hSw; (try dsimp only at hSw); go_simp; try with_reducible rfl)
      try simp only [Act.put, List.setIfInBounds_toArray, List.set_cons_zero, List.set_cons_succ]
      refine wpAnyH_take (i := 6) (oi := { dst := some 92, op := Go.Op.pick (Go.Operand.tmp 90) (Go.Operand.tmp 91) (Go.Operand.const (Go.Value.bool false)), type := 4, pos := "laws.go:4670", after := #[{ on := 4, ground := Go.Ground.data }, { on := 5, ground := Go.Ground.data }], guard := none }) (v := ?_) rfl (by kernel_rfl) (by kernel_rfl) (by kernel_rfl) (fun _ _ _ h => h) (Or.inl ⟨by rfl, ?_⟩) (by assumption) ?_
      rotate_left
      · (intro w hSw; (try dsimp only at hSw); go_simp; try with_reducible rfl)
      try simp only [Act.put, List.setIfInBounds_toArray, List.set_cons_zero, List.set_cons_succ]
      refine wpAnyH_take (i := 7) (oi := { dst := some 93, op := Go.Op.move (Go.Operand.tmp 92), type := 4, pos := "laws.go:4670", after := #[{ on := 6, ground := Go.Ground.data }, { on := 4, ground := Go.Ground.chain }], guard := none }) (v := ?_) rfl (by kernel_rfl) (by kernel_rfl) (by kernel_rfl) (fun _ _ _ h => h) (Or.inl ⟨by rfl, ?_⟩) (by assumption) ?_
      rotate_left
      · (intro w hSw; (try dsimp only at hSw); go_simp; try with_reducible rfl)
      try simp only [Act.put, List.setIfInBounds_toArray, List.set_cons_zero, List.set_cons_succ]
      refine wpAnyH_take (i := 8) (oi := { dst := some 94, op := Go.Op.move (Go.Operand.tmp 17), type := 4, pos := "laws.go:4670", after := #[{ on := 7, ground := Go.Ground.guard }], guard := some (7, true) }) (v := ?_) rfl (by kernel_rfl) (by kernel_rfl) (by kernel_rfl) (fun _ _ _ h => h) (Or.inl ⟨by rfl, ?_⟩) (by assumption) ?_
      rotate_left
      · (intro w hSw; (try dsimp only at hSw); go_simp; try with_reducible rfl)
      try simp only [Act.put, List.setIfInBounds_toArray, List.set_cons_zero, List.set_cons_succ]
      refine wpAnyH_take (i := 9) (oi := { dst := some 95, op := Go.Op.pick (Go.Operand.tmp 93) (Go.Operand.tmp 94) (Go.Operand.const (Go.Value.bool false)), type := 4, pos := "laws.go:4670", after := #[{ on := 7, ground := Go.Ground.data }, { on := 8, ground := Go.Ground.data }], guard := none }) (v := ?_) rfl (by kernel_rfl) (by kernel_rfl) (by kernel_rfl) (fun _ _ _ h => h) (Or.inl ⟨by rfl, ?_⟩) (by assumption) ?_
      rotate_left
      · (intro w hSw; (try dsimp only at hSw); go_simp; try with_reducible rfl)
      try simp only [Act.put, List.setIfInBounds_toArray, List.set_cons_zero, List.set_cons_succ]
      refine wpAnyH_take (i := 10) (oi := { dst := some 96, op := Go.Op.move (Go.Operand.tmp 95), type := 4, pos := "laws.go:4670", after := #[{ on := 9, ground := Go.Ground.data }, { on := 7, ground := Go.Ground.chain }], guard := none }) (v := ?_) rfl (by kernel_rfl) (by kernel_rfl) (by kernel_rfl) (fun _ _ _ h => h) (Or.inl ⟨by rfl, ?_⟩) (by assumption) ?_
      rotate_left
      · (intro w hSw; (try dsimp only at hSw); go_simp; try with_reducible rfl)
      try simp only [Act.put, List.setIfInBounds_toArray, List.set_cons_zero, List.set_cons_succ]
      refine wpAnyH_take (i := 11) (oi := { dst := some 97, op := Go.Op.load 27 (Go.Operand.tmp 14), type := 27, pos := "laws.go:4670", after := #[{ on := 10, ground := Go.Ground.guard }], guard := some (10, true) }) (v := ?_) rfl (by kernel_rfl) (by kernel_rfl) (by kernel_rfl) (fun _ _ _ h => h) (Or.inl ⟨by rfl, ?_⟩) (by assumption) ?_
      rotate_left
      · (intro w hSw; (try dsimp only at hSw); go_simp; try with_reducible rfl)
      try simp only [Act.put, List.setIfInBounds_toArray, List.set_cons_zero, List.set_cons_succ]
      refine wpAnyH_take (i := 12) (oi := { dst := some 98, op := Go.Op.load 27 (Go.Operand.tmp 10), type := 27, pos := "laws.go:4670", after := #[{ on := 10, ground := Go.Ground.guard }], guard := some (10, true) }) (v := ?_) rfl (by kernel_rfl) (by kernel_rfl) (by kernel_rfl) (fun _ _ _ h => h) (Or.inl ⟨by rfl, ?_⟩) (by assumption) ?_
      rotate_left
      · (intro w hSw; (try dsimp only at hSw); go_simp; try with_reducible rfl)
      try simp only [Act.put, List.setIfInBounds_toArray, List.set_cons_zero, List.set_cons_succ]
      refine wpAnyH_take (i := 13) (oi := { dst := some 99, op := Go.Op.binOp Go.BinOp.eql 27 (Go.Operand.tmp 97) (Go.Operand.tmp 98) 27, type := 4, pos := "laws.go:4670", after := #[{ on := 11, ground := Go.Ground.data }, { on := 12, ground := Go.Ground.data }, { on := 10, ground := Go.Ground.guard }], guard := some (10, true) }) (v := ?_) rfl (by kernel_rfl) (by kernel_rfl) (by kernel_rfl) (fun _ _ _ h => h) (Or.inl ⟨by rfl, ?_⟩) (by assumption) ?_
      rotate_left
      · (intro w hSw; (try dsimp only at hSw); go_simp; try with_reducible rfl)
      try simp only [Act.put, List.setIfInBounds_toArray, List.set_cons_zero, List.set_cons_succ]
      refine wpAnyH_take (i := 14) (oi := { dst := some 100, op := Go.Op.pick (Go.Operand.tmp 96) (Go.Operand.tmp 99) (Go.Operand.const (Go.Value.bool false)), type := 4, pos := "laws.go:4670", after := #[{ on := 10, ground := Go.Ground.data }, { on := 13, ground := Go.Ground.data }], guard := none }) (v := ?_) rfl (by kernel_rfl) (by kernel_rfl) (by kernel_rfl) (fun _ _ _ h => h) (Or.inl ⟨by rfl, ?_⟩) (by assumption) ?_
      rotate_left
      · (intro w hSw; (try dsimp only at hSw); go_simp; try with_reducible rfl)
      try simp only [Act.put, List.setIfInBounds_toArray, List.set_cons_zero, List.set_cons_succ]
      refine wpAnyH_take (i := 15) (oi := { dst := some 101, op := Go.Op.move (Go.Operand.tmp 100), type := 4, pos := "laws.go:4670", after := #[{ on := 14, ground := Go.Ground.data }, { on := 10, ground := Go.Ground.chain }], guard := none }) (v := ?_) rfl (by kernel_rfl) (by kernel_rfl) (by kernel_rfl) (fun _ _ _ h => h) (Or.inl ⟨by rfl, ?_⟩) (by assumption) ?_
      rotate_left
      · (intro w hSw; (try dsimp only at hSw); go_simp; try with_reducible rfl)
      try simp only [Act.put, List.setIfInBounds_toArray, List.set_cons_zero, List.set_cons_succ]
      refine wpAnyH_take (i := 16) (oi := { dst := some 102, op := Go.Op.load 27 (Go.Operand.tmp 16), type := 27, pos := "laws.go:4670", after := #[{ on := 15, ground := Go.Ground.guard }], guard := some (15, true) }) (v := ?_) rfl (by kernel_rfl) (by kernel_rfl) (by kernel_rfl) (fun _ _ _ h => h) (Or.inl ⟨by rfl, ?_⟩) (by assumption) ?_
      rotate_left
      · (intro w hSw; (try dsimp only at hSw); go_simp; try with_reducible rfl)
      try simp only [Act.put, List.setIfInBounds_toArray, List.set_cons_zero, List.set_cons_succ]
      refine wpAnyH_ready (rs := [17]) (by kernel_rfl) (by simp) ?_
      refine (AllReadyH.cons (o := { dst := some 103, op := Go.Op.call { callee := Go.Callee.value (Go.Operand.func 13), args := #[Go.Operand.const (Go.Value.int Go.IntKind.i64 0)], argTypes := #[3] }, type := 27, pos := "laws.go:4670", after := #[{ on := 15, ground := Go.Ground.chain }, { on := 15, ground := Go.Ground.guard }], guard := some (15, true) }) rfl (fun K hK => ?_) AllReadyH.nil)
      go_simp
      refine (c_frac 0 _).mono ?_
      rintro e w8 ⟨rfl, hb⟩
      have hS := box_below (bs := [(w7.heap.size, 0, 1), (w6.heap.size, n0, d0), (w4.heap.size, n0, d0)]) (box_drew HS0.out) hb
      clear hb
      go_wp2_with fail
      refine hK.out _ _ hS (fun hH18 => ?_)
      clear hK K hH0
      try simp only [Act.put, List.setIfInBounds_toArray, List.set_cons_zero, List.set_cons_succ]
      refine wpAnyH_take (i := 18) (oi := { dst := some 104, op := Go.Op.binOp Go.BinOp.eql 27 (Go.Operand.tmp 102) (Go.Operand.tmp 103) 27, type := 4, pos := "laws.go:4670", after := #[{ on := 16, ground := Go.Ground.data }, { on := 17, ground := Go.Ground.data }, { on := 15, ground := Go.Ground.guard }], guard := some (15, true) }) (v := ?_) rfl (by kernel_rfl) (by kernel_rfl) (by kernel_rfl) (fun _ _ _ h => h) (Or.inl ⟨by rfl, ?_⟩) (by assumption) ?_
      rotate_left
      · (intro w hSw; (try dsimp only at hSw); go_simp; try with_reducible rfl)
      try simp only [Act.put, List.setIfInBounds_toArray, List.set_cons_zero, List.set_cons_succ]
      refine wpAnyH_take (i := 19) (oi := { dst := some 105, op := Go.Op.pick (Go.Operand.tmp 101) (Go.Operand.tmp 104) (Go.Operand.const (Go.Value.bool false)), type := 4, pos := "laws.go:4670", after := #[{ on := 15, ground := Go.Ground.data }, { on := 18, ground := Go.Ground.data }], guard := none }) (v := ?_) rfl (by kernel_rfl) (by kernel_rfl) (by kernel_rfl) (fun _ _ _ h => h) (Or.inl ⟨by rfl, ?_⟩) (by assumption) ?_
      rotate_left
      · (intro w hSw; (try dsimp only at hSw); go_simp; try with_reducible rfl)
      try simp only [Act.put, List.setIfInBounds_toArray, List.set_cons_zero, List.set_cons_succ]
      refine wpAnyH_take (i := 20) (oi := { dst := some 2, op := Go.Op.assign (Go.Operand.tmp 105), type := 4, pos := "laws.go:4670", after := #[{ on := 19, ground := Go.Ground.data }, { on := 17, ground := Go.Ground.chain }, { on := 0, ground := Go.Ground.phase }, { on := 1, ground := Go.Ground.phase }, { on := 2, ground := Go.Ground.phase }, { on := 3, ground := Go.Ground.phase }, { on := 4, ground := Go.Ground.phase }, { on := 5, ground := Go.Ground.phase }, { on := 6, ground := Go.Ground.phase }, { on := 7, ground := Go.Ground.phase }, { on := 8, ground := Go.Ground.phase }, { on := 9, ground := Go.Ground.phase }, { on := 10, ground := Go.Ground.phase }, { on := 11, ground := Go.Ground.phase }, { on := 12, ground := Go.Ground.phase }, { on := 13, ground := Go.Ground.phase }, { on := 14, ground := Go.Ground.phase }, { on := 15, ground := Go.Ground.phase }, { on := 16, ground := Go.Ground.phase }, { on := 17, ground := Go.Ground.phase }, { on := 18, ground := Go.Ground.phase }, { on := 19, ground := Go.Ground.phase }], guard := none }) (v := ?_) rfl (by kernel_rfl) (by kernel_rfl) (by kernel_rfl) (fun _ _ _ h => h) (Or.inl ⟨by rfl, ?_⟩) (by assumption) ?_
      rotate_left
      · (intro w hSw; (try dsimp only at hSw); go_simp; try with_reducible rfl)
      try simp only [Act.put, List.setIfInBounds_toArray, List.set_cons_zero, List.set_cons_succ]
      refine wpAnyH_done (by kernel_rfl) ?_ _
      refine NoPanic.normal ?_
      go_wp2
      go_ret
      exact ⟨rfl, box_end (bs := [(w7.heap.size, 0, 1), (w6.heap.size, n0, d0), (w4.heap.size, n0, d0)]) hS⟩
    · have HK := Lib.hid (l_none hok)
      clear hok
      go_wp2_with fail
      refine (c_implGasLag _ _ _ a _ _ _ b x _ (by omega) (by omega) (HA.out.below (by have hsz := hC1.size; first | exact hC1 | go_grown)) (HBB.out.below (by have hsz := hC1.size; first | exact hC1 | go_grown))).mono ?_
      intro e w2 hp
      obtain ⟨rfl, hb⟩ := hp.val ⟨HK.out.1, HK.out.2.1, HK.out.2.2⟩
      clear hp
      have hC2 := bel0 hC1 hb
      have hB2 := bel0 hB1 hb
      clear hb
      go_wp2_with fail
      refine (c_specGasLag _ _ _ a _ _ _ b x _ (by omega) (by omega) (HA.out.below (by have hsz := hC2.size; first | exact hC2 | go_grown)) (HBB.out.below (by have hsz := hC2.size; first | exact hC2 | go_grown))).mono ?_
      intro e w3 hp
      obtain ⟨rfl, hb⟩ := hp.val ⟨HK.out.1, HK.out.2.1, HK.out.2.2⟩
      clear hp
      have hC3 := bel1 hC2 hb
      have O3 := Lib.hid (blk_n1 hb)
      have hB3 := bel1 hB2 hb
      have zO3 := O3.out.lt
      obtain ⟨cO3, dO3, fO3, hO3⟩ := O3.out.two
      clear hb
      go_wp2
      go_ret
      exact ⟨rfl, hB3.alloc hB3.size _⟩
end Go.Proofs.Ytfngdemjlglliaa
