/-
  The walk of the law FnLagEnds: it returns true and writes nothing that was there.
-/
import Derived.Test.YtfngdemjlglliaaLagLawW
import Derived.Test.YtfngdemjlglliaaLagDraw
import Derived.Test.YtfngdemjlglliaaLagImpl
import Derived.Test.YtfngdemjlglliaaLagSpec
import Derived.Test.YtfngdemjlglliaaFracAddImpl
import Derived.Test.YtfngdemjlglliaaBoxG
import Derived.Deep.RegionHeld3
namespace Go.Proofs.Ytfngdemjlglliaa
open Go.RowKit

/-- what both loops keep -/
def EndsRel (m : Nat) (w w1 : World) (g : Nat) (N D : Int) (i : Value) (wr : World) : Prop :=
  ∃ k : Nat, k ≤ m ∧ i = .int .i64 k ∧ Blk wr g 27 #[.int .i64 N, .int .i64 D] ∧ Below w.heap.size w wr ∧ Below w1.heap.size w1 wr

set_option maxHeartbeats 8000000 in
set_option maxRecDepth 4000 in
theorem walk_FnLagEnds (A : Option Addr) (n c : Nat) (w : World) (h : RdB w A n) (hn : n ≤ maxLen) (hc : n ≤ c) :
    Calls Try.prog 3 #[.slice A n c] w fun e w' => e = .returned (.bool true) ∧ Below w.heap.size w w' := by
  unfold maxLen at hn
  have HB := Lib.hid h
  clear h
  by_cases hbig : 1048576 < n
  · go_enter Try.func3, Try.ntmps3
    go_wp2
    go_ret
    exact ⟨rfl, Below.refl _ _⟩
  · have hd1 : decide ((1048576 : Int) < (n : Int)) = false := by simp; omega
    go_enter Try.func3, Try.ntmps3
    go_wp2_with fail
    refine (c_DrawGasLag _ _ _ _ HB.out (by omega) hc).mono ?_
    rintro e w1 ⟨A1, n1, c1, a, B1, m1, cm1, b, x, rfl, hn1, hm1, hA, hB, hB1⟩
    have HA := Lib.hid hA
    have HBB := Lib.hid hB
    have hC1 : Below w1.heap.size w1 w1 := Below.refl _ _
    clear hA hB HB
    rcases Bool.eq_false_or_eq_true (okL a b x) with hok | hok
    · obtain ⟨N, hN⟩ : ∃ y, nL a b x = y := ⟨_, rfl⟩
      obtain ⟨D, hD⟩ : ∃ y, dL a b x = y := ⟨_, rfl⟩
      have HK := Lib.hid hok
      have HN := Lib.hid hN
      have HD := Lib.hid hD
      have hNN : (N != N) = false := by simp
      have hDD : (D != D) = false := by simp
      clear hok hN hD
      go_wp2_with fail
      refine (c_implGasLag _ _ _ a _ _ _ b x _ (by omega) (by omega) (HA.out.below (by have hsz := hC1.size; first | exact hC1 | go_grown)) (HBB.out.below (by have hsz := hC1.size; first | exact hC1 | go_grown))).mono ?_
      intro e w2 hp
      obtain ⟨rfl, hb⟩ := hp.val ⟨HK.out, HN.out, HD.out⟩
      clear hp
      have hC2 := bel0 hC1 hb
      have hB2 := bel0 hB1 hb
      clear hb
      go_wp2_with fail
      refine (c_specGasLag _ _ _ a _ _ _ b x _ (by omega) (by omega) (HA.out.below (by have hsz := hC2.size; first | exact hC2 | go_grown)) (HBB.out.below (by have hsz := hC2.size; first | exact hC2 | go_grown))).mono ?_
      intro e w3 hp
      obtain ⟨rfl, hb⟩ := hp.val ⟨HK.out, HN.out, HD.out⟩
      clear hp
      have hC3 := bel1 hC2 hb
      have O3 := Lib.hid (blk_n1 hb)
      have hB3 := bel1 hB2 hb
      have zO3 := O3.out.lt
      obtain ⟨cO3, dO3, fO3, hO3⟩ := O3.out.two
      clear hb
      obtain ⟨ha, hb0, _, _⟩ := l_yes HK.out
      have HVA := Lib.hid (c_yes ha).1
      have HVB := Lib.hid (c_yes hb0).1
      have hD0 := l_den HK.out
      rw [HD.out] at hD0
      have HLA := Lib.hid HA.out.len
      have HLB := Lib.hid HBB.out.len
      have hn2 : 2 ≤ n1 := by have := (vC_yes HVA.out).2.2.1; have := HLA.out; omega
      have hm2 : 2 ≤ m1 := by have := (vC_yes HVB.out).2.2.1; have := HLB.out; omega
      clear ha hb0
      obtain ⟨ba, oa, rfl, hba, hca⟩ := HA.out.at_ (by omega)
      obtain ⟨bb, ob, rfl, hbb, hcb⟩ := HBB.out.at_ (by omega)
      have HCA := Lib.hid hca
      have HCB := Lib.hid hcb
      have O4 := Lib.hid (O3.out.alloc (.cells #[.int .i64 N, .int .i64 D] 27))
      have hB4 := hB3.alloc hB3.size (.cells #[.int .i64 N, .int .i64 D] 27)
      have hC4 := hC3.alloc hC3.size (.cells #[.int .i64 N, .int .i64 D] 27)
      clear hca hcb
      go_wp2_with fail
      go_loopw [10] (fun i wr => EndsRel n1 w w1 w2.heap.size N D i wr) (fun i _ => n1 - (intOf i).toNat)
      case atStart => exact ⟨0, Nat.zero_le _, rfl, O4.out, hB4, hC4⟩
      case round =>
        obtain ⟨i, hi, rfl, hO, hB, hC⟩ := hrel
        have O5 := Lib.hid hO
        have hB5 := hB
        have hC5 := hC
        clear hO hB hC
        by_cases hlt : i < n1
        · go_wp2_with fail
          go_loopw [11] (fun k wq => EndsRel m1 w w1 w2.heap.size N D k wq) (fun k _ => m1 - (intOf k).toNat)
          case atStart => exact ⟨0, Nat.zero_le _, rfl, O5.out, hB5, hC5⟩
          case round =>
            obtain ⟨k, hk, rfl, hO, hB, hC⟩ := hrel
            have O6 := Lib.hid hO
            have hB6 := hB
            have hC6 := hC
            have hsz6 := hC6.size
            have hsb6 := hB6.size
            clear hO hB hC
            by_cases hlk : k < m1
            · obtain ⟨p0, p1⟩ := HCA.out i hlt
              obtain ⟨q0, q1⟩ := HCB.out k hlk
              rw [← hC6.cell (p := ⟨ba, oa + i * 2, none⟩) hba] at p0
              rw [← hC6.cell (p := ⟨ba, oa + i * 2 + 1, none⟩) hba] at p1
              rw [← hC6.cell (p := ⟨bb, ob + k * 2, none⟩) hbb] at q0
              rw [← hC6.cell (p := ⟨bb, ob + k * 2 + 1, none⟩) hbb] at q1
              have hil : i < a.length := by have := HLA.out; omega
              have hkl : k < b.length := by have := HLB.out; omega
              obtain ⟨_, _, y0, y1⟩ := (vC_yes HVA.out).1 i hil
              obtain ⟨_, _, z0, z1⟩ := (vC_yes HVB.out).1 k hkl
              have i0 : (0 : Int) ≤ (i : Int) := by omega
              have i1 : (i : Int) < (n1 : Int) := by omega
              have k0 : (0 : Int) ≤ (k : Int) := by omega
              have k1 : (k : Int) < (m1 : Int) := by omega
              by_cases he : px a i = px b k
              · obtain ⟨e1, e2, e3⟩ := lag_ends HVA.out HVB.out hil hkl he
                have E1 := Lib.hid e1
                have E2 := Lib.hid e2
                have E3 := Lib.hid e3
                have he' : (px b k != px b k) = false := by simp
                clear e1 e2 e3
                obtain ⟨ya, hya⟩ : ∃ y, py a i = y := ⟨_, rfl⟩
                obtain ⟨yb, hyb⟩ : ∃ y, py b k = y := ⟨_, rfl⟩
                rw [he] at p0 E1 E2 E3
                rw [hya] at p1 y0 y1 E2
                rw [hyb] at q1 z0 z1 E2
                clear he hya hyb
                have hw : IntKind.i64.wrap (ya - yb) = ya - yb := IntWalk.i64_in _ (by omega)
                go_wp2_with fail
                go_quiet (fail)
                have hB7 := below_drewC (n := nq) hB6
                have hC7 := below_drewC (n := nq) hC6
                have hsz7 : w1.heap.size ≤ (wr.drewN nq).heap.size := hC7.size
                go_wp2_with fail
                refine (c_implGasLag _ _ _ a _ _ _ b (px b k) _ (by omega) (by omega) (HA.out.below hC7) (HBB.out.below hC7)).mono ?_
                intro e w8 hp
                obtain ⟨rfl, hb⟩ := hp.val ⟨E1.out, E2.out, E3.out⟩
                clear hp
                have O8 := Lib.hid (show Blk w8 w2.heap.size 27 #[.int .i64 N, .int .i64 D] from blk_b0 (by exact blk_drewN O6.out) hb)
                have hB8 := bel0 hB7 hb
                have hC8 := bel0 hC7 hb
                have p1' : w8.cell? ⟨ba, oa + i * 2 + 1, none⟩ = some (.int .i64 ya) := by rw [hb.cell (p := ⟨ba, oa + i * 2 + 1, none⟩) (by show ba < wr.heap.size; omega)]; exact p1
                have q1' : w8.cell? ⟨bb, ob + k * 2 + 1, none⟩ = some (.int .i64 yb) := by rw [hb.cell (p := ⟨bb, ob + k * 2 + 1, none⟩) (by show bb < wr.heap.size; omega)]; exact q1
                have HS0 := Lib.hid (boxG_new (t := 27) (x := ya - yb) (y := 1) (boxG_cons (boxG_cons (boxG_mk hB8) q1') p1'))
                have O9 := Lib.hid (O8.out.alloc (.cells #[.int .i64 (ya - yb), .int .i64 1] 27))
                have hC9 := hC8.alloc hC8.size (.cells #[.int .i64 (ya - yb), .int .i64 1] 27)
                have hyy : (ya - yb != ya - yb) = false := by simp
                clear hb p0 p1 q0 q1 p1' q1' O8 hB8 hC8
                go_wp2_with fail
                refine wp_region_noPanic ?_
                refine wp_region_held_drew (S := (fun W => (W.cell? ⟨w8.heap.size, 0, none⟩ = some (.int .i64 (ya - yb)) ∧ W.cell? ⟨w8.heap.size, 1, none⟩ = some (.int .i64 1) ∧ W.cell? ⟨ba, oa + i * 2 + 1, none⟩ = some (.int .i64 ya) ∧ W.cell? ⟨bb, ob + k * 2 + 1, none⟩ = some (.int .i64 yb) ∧ True) ∧ Below w.heap.size w W)) (by kernel_rfl) (boxG_drew HS0.out) (fun hH0 => ?_)
                refine wpAnyH_take (i := 0) (oi := { dst := some 91, op := Go.Op.move (Go.Operand.tmp 13), type := 4, pos := "laws.go:4782", after := #[], guard := none }) (v := ?_) rfl (by kernel_rfl) (by kernel_rfl) (by kernel_rfl) (fun _ _ _ h => h) (Or.inl ⟨by rfl, ?_⟩) (by assumption) ?_
                rotate_left
                · (intro w hSw; (try dsimp only at hSw); go_simp; try with_reducible rfl)
                try simp only [Act.put, List.setIfInBounds_toArray, List.set_cons_zero, List.set_cons_succ]
                refine wpAnyH_take (i := 1) (oi := { dst := some 92, op := Go.Op.unOp Go.UnOp.not 4 (Go.Operand.tmp 91), type := 4, pos := "laws.go:4782", after := #[{ on := 0, ground := Go.Ground.data }], guard := none }) (v := ?_) rfl (by kernel_rfl) (by kernel_rfl) (by kernel_rfl) (fun _ _ _ h => h) (Or.inl ⟨by rfl, ?_⟩) (by assumption) ?_
                rotate_left
                · (intro w hSw; (try dsimp only at hSw); go_simp; try with_reducible rfl)
                try simp only [Act.put, List.setIfInBounds_toArray, List.set_cons_zero, List.set_cons_succ]
                refine wpAnyH_take (i := 2) (oi := { dst := some 93, op := Go.Op.move (Go.Operand.tmp 92), type := 4, pos := "laws.go:4782", after := #[{ on := 1, ground := Go.Ground.data }], guard := none }) (v := ?_) rfl (by kernel_rfl) (by kernel_rfl) (by kernel_rfl) (fun _ _ _ h => h) (Or.inl ⟨by rfl, ?_⟩) (by assumption) ?_
                rotate_left
                · (intro w hSw; (try dsimp only at hSw); go_simp; try with_reducible rfl)
                try simp only [Act.put, List.setIfInBounds_toArray, List.set_cons_zero, List.set_cons_succ]
                refine wpAnyH_take (i := 3) (oi := { dst := some 94, op := Go.Op.load 27 (Go.Operand.tmp 12), type := 27, pos := "laws.go:4782", after := #[{ on := 2, ground := Go.Ground.guard }], guard := some (2, false) }) (v := ?_) rfl (by kernel_rfl) (by kernel_rfl) (by kernel_rfl) (fun _ _ _ h => h) (Or.inl ⟨by rfl, ?_⟩) (by assumption) ?_
                rotate_left
                · (intro w hSw; (try dsimp only at hSw); go_simp; try with_reducible rfl)
                try simp only [Act.put, List.setIfInBounds_toArray, List.set_cons_zero, List.set_cons_succ]
                refine wpAnyH_take (i := 4) (oi := { dst := some 95, op := Go.Op.move (Go.Operand.tmp 3), type := 23, pos := "laws.go:4782", after := #[{ on := 2, ground := Go.Ground.guard }], guard := some (2, false) }) (v := ?_) rfl (by kernel_rfl) (by kernel_rfl) (by kernel_rfl) (fun _ _ _ h => h) (Or.inl ⟨by rfl, ?_⟩) (by assumption) ?_
                rotate_left
                · (intro w hSw; (try dsimp only at hSw); go_simp; try with_reducible rfl)
                try simp only [Act.put, List.setIfInBounds_toArray, List.set_cons_zero, List.set_cons_succ]
                refine wpAnyH_take (i := 5) (oi := { dst := some 96, op := Go.Op.move (Go.Operand.tmp 10), type := 3, pos := "laws.go:4782", after := #[{ on := 2, ground := Go.Ground.guard }], guard := some (2, false) }) (v := ?_) rfl (by kernel_rfl) (by kernel_rfl) (by kernel_rfl) (fun _ _ _ h => h) (Or.inl ⟨by rfl, ?_⟩) (by assumption) ?_
                rotate_left
                · (intro w hSw; (try dsimp only at hSw); go_simp; try with_reducible rfl)
                try simp only [Act.put, List.setIfInBounds_toArray, List.set_cons_zero, List.set_cons_succ]
                refine wpAnyH_take (i := 6) (oi := { dst := some 97, op := Go.Op.indexAddr 23 (Go.Operand.tmp 95) (Go.Operand.tmp 96), type := 0, pos := "laws.go:4782", after := #[{ on := 4, ground := Go.Ground.data }, { on := 5, ground := Go.Ground.data }, { on := 2, ground := Go.Ground.guard }], guard := some (2, false) }) (v := ?_) rfl (by kernel_rfl) (by kernel_rfl) (by kernel_rfl) (fun _ _ _ h => h) (Or.inl ⟨by rfl, ?_⟩) (by assumption) ?_
                rotate_left
                · (intro w hSw; (try dsimp only at hSw); go_simp; try with_reducible rfl)
                try simp only [Act.put, List.setIfInBounds_toArray, List.set_cons_zero, List.set_cons_succ]
                refine wpAnyH_take (i := 7) (oi := { dst := some 98, op := Go.Op.fieldAddr 31 (Go.Operand.tmp 97) 1, type := 0, pos := "laws.go:4782", after := #[{ on := 6, ground := Go.Ground.data }, { on := 2, ground := Go.Ground.guard }], guard := some (2, false) }) (v := ?_) rfl (by kernel_rfl) (by kernel_rfl) (by kernel_rfl) (fun _ _ _ h => h) (Or.inl ⟨by rfl, ?_⟩) (by assumption) ?_
                rotate_left
                · (intro w hSw; (try dsimp only at hSw); go_simp; try with_reducible rfl)
                try simp only [Act.put, List.setIfInBounds_toArray, List.set_cons_zero, List.set_cons_succ]
                refine wpAnyH_take (i := 8) (oi := { dst := some 99, op := Go.Op.load 3 (Go.Operand.tmp 98), type := 3, pos := "laws.go:4782", after := #[{ on := 7, ground := Go.Ground.data }, { on := 2, ground := Go.Ground.guard }], guard := some (2, false) }) (v := ?_) rfl (by kernel_rfl) (by kernel_rfl) (by kernel_rfl) (fun _ _ _ h => h) (Or.inl ⟨by rfl, ?_⟩) (by assumption) ?_
                rotate_left
                · (intro w hSw; (try dsimp only at hSw); go_simp; try with_reducible rfl)
                try simp only [Act.put, List.setIfInBounds_toArray, List.set_cons_zero, List.set_cons_succ]
                refine wpAnyH_take (i := 9) (oi := { dst := some 100, op := Go.Op.move (Go.Operand.tmp 4), type := 23, pos := "laws.go:4782", after := #[{ on := 2, ground := Go.Ground.guard }], guard := some (2, false) }) (v := ?_) rfl (by kernel_rfl) (by kernel_rfl) (by kernel_rfl) (fun _ _ _ h => h) (Or.inl ⟨by rfl, ?_⟩) (by assumption) ?_
                rotate_left
                · (intro w hSw; (try dsimp only at hSw); go_simp; try with_reducible rfl)
                try simp only [Act.put, List.setIfInBounds_toArray, List.set_cons_zero, List.set_cons_succ]
                refine wpAnyH_take (i := 10) (oi := { dst := some 101, op := Go.Op.move (Go.Operand.tmp 11), type := 3, pos := "laws.go:4782", after := #[{ on := 2, ground := Go.Ground.guard }], guard := some (2, false) }) (v := ?_) rfl (by kernel_rfl) (by kernel_rfl) (by kernel_rfl) (fun _ _ _ h => h) (Or.inl ⟨by rfl, ?_⟩) (by assumption) ?_
                rotate_left
                · (intro w hSw; (try dsimp only at hSw); go_simp; try with_reducible rfl)
                try simp only [Act.put, List.setIfInBounds_toArray, List.set_cons_zero, List.set_cons_succ]
                refine wpAnyH_take (i := 11) (oi := { dst := some 102, op := Go.Op.indexAddr 23 (Go.Operand.tmp 100) (Go.Operand.tmp 101), type := 0, pos := "laws.go:4782", after := #[{ on := 9, ground := Go.Ground.data }, { on := 10, ground := Go.Ground.data }, { on := 2, ground := Go.Ground.guard }], guard := some (2, false) }) (v := ?_) rfl (by kernel_rfl) (by kernel_rfl) (by kernel_rfl) (fun _ _ _ h => h) (Or.inl ⟨by rfl, ?_⟩) (by assumption) ?_
                rotate_left
                · (intro w hSw; (try dsimp only at hSw); go_simp; try with_reducible rfl)
                try simp only [Act.put, List.setIfInBounds_toArray, List.set_cons_zero, List.set_cons_succ]
                refine wpAnyH_take (i := 12) (oi := { dst := some 103, op := Go.Op.fieldAddr 31 (Go.Operand.tmp 102) 1, type := 0, pos := "laws.go:4782", after := #[{ on := 11, ground := Go.Ground.data }, { on := 2, ground := Go.Ground.guard }], guard := some (2, false) }) (v := ?_) rfl (by kernel_rfl) (by kernel_rfl) (by kernel_rfl) (fun _ _ _ h => h) (Or.inl ⟨by rfl, ?_⟩) (by assumption) ?_
                rotate_left
                · (intro w hSw; (try dsimp only at hSw); go_simp; try with_reducible rfl)
                try simp only [Act.put, List.setIfInBounds_toArray, List.set_cons_zero, List.set_cons_succ]
                refine wpAnyH_take (i := 13) (oi := { dst := some 104, op := Go.Op.load 3 (Go.Operand.tmp 103), type := 3, pos := "laws.go:4782", after := #[{ on := 12, ground := Go.Ground.data }, { on := 2, ground := Go.Ground.guard }], guard := some (2, false) }) (v := ?_) rfl (by kernel_rfl) (by kernel_rfl) (by kernel_rfl) (fun _ _ _ h => h) (Or.inl ⟨by rfl, ?_⟩) (by assumption) ?_
                rotate_left
                · (intro w hSw; (try dsimp only at hSw); go_simp; try with_reducible rfl)
                try simp only [Act.put, List.setIfInBounds_toArray, List.set_cons_zero, List.set_cons_succ]
                refine wpAnyH_take (i := 14) (oi := { dst := some 105, op := Go.Op.binOp Go.BinOp.sub 3 (Go.Operand.tmp 99) (Go.Operand.tmp 104) 3, type := 3, pos := "laws.go:4782", after := #[{ on := 8, ground := Go.Ground.data }, { on := 13, ground := Go.Ground.data }, { on := 2, ground := Go.Ground.guard }], guard := some (2, false) }) (v := ?_) rfl (by kernel_rfl) (by kernel_rfl) (by kernel_rfl) (fun _ _ _ h => h) (Or.inl ⟨by rfl, ?_⟩) (by assumption) ?_
                rotate_left
                · (intro w hSw; (try dsimp only at hSw); go_simp; try with_reducible rfl)
                try simp only [Act.put, List.setIfInBounds_toArray, List.set_cons_zero, List.set_cons_succ]
                refine wpAnyH_ready (rs := [15]) (by kernel_rfl) (by simp) ?_
                refine (AllReadyH.cons (o := { dst := some 106, op := Go.Op.call { callee := Go.Callee.value (Go.Operand.func 13), args := #[Go.Operand.tmp 105], argTypes := #[3] }, type := 27, pos := "laws.go:4782", after := #[{ on := 14, ground := Go.Ground.data }, { on := 2, ground := Go.Ground.chain }, { on := 2, ground := Go.Ground.guard }], guard := some (2, false) }) rfl (fun K hK => ?_) AllReadyH.nil)
                go_simp
                refine (c_frac (ya - yb) _).mono ?_
                rintro e w10 ⟨rfl, hb⟩
                have hS := boxG_below (cs := [(w8.heap.size, 0, ya - yb), (w8.heap.size, 1, 1), (ba, oa + i * 2 + 1, ya), (bb, ob + k * 2 + 1, yb)]) (boxG_drew HS0.out) hb
                have O10 := Lib.hid (blk_b0 O9.out.drew hb)
                have hC10 := bel0 hC9.drew hb
                clear hb
                go_wp2_with fail
                refine hK.out _ _ hS (fun hH16 => ?_)
                clear hK K hH0
                try simp only [Act.put, List.setIfInBounds_toArray, List.set_cons_zero, List.set_cons_succ]
                refine wpAnyH_take (i := 16) (oi := { dst := some 107, op := Go.Op.binOp Go.BinOp.neq 27 (Go.Operand.tmp 94) (Go.Operand.tmp 106) 27, type := 4, pos := "laws.go:4782", after := #[{ on := 3, ground := Go.Ground.data }, { on := 15, ground := Go.Ground.data }, { on := 2, ground := Go.Ground.guard }], guard := some (2, false) }) (v := ?_) rfl (by kernel_rfl) (by kernel_rfl) (by kernel_rfl) (fun _ _ _ h => h) (Or.inl ⟨by rfl, ?_⟩) (by assumption) ?_
                rotate_left
                · (intro w hSw; (try dsimp only at hSw); go_simp; try with_reducible rfl)
                try simp only [Act.put, List.setIfInBounds_toArray, List.set_cons_zero, List.set_cons_succ]
                refine wpAnyH_take (i := 17) (oi := { dst := some 108, op := Go.Op.pick (Go.Operand.tmp 93) (Go.Operand.const (Go.Value.bool true)) (Go.Operand.tmp 107), type := 4, pos := "laws.go:4782", after := #[{ on := 2, ground := Go.Ground.data }, { on := 16, ground := Go.Ground.data }], guard := none }) (v := ?_) rfl (by kernel_rfl) (by kernel_rfl) (by kernel_rfl) (fun _ _ _ h => h) (Or.inl ⟨by rfl, ?_⟩) (by assumption) ?_
                rotate_left
                · (intro w hSw; (try dsimp only at hSw); go_simp; try with_reducible rfl)
                try simp only [Act.put, List.setIfInBounds_toArray, List.set_cons_zero, List.set_cons_succ]
                refine wpAnyH_done (by kernel_rfl) ?_ _
                refine NoPanic.normal ?_
                go_wp2
                go_roundw
                case rel => exact ⟨k + 1, by omega, by go_num, O10.out, boxG_end (cs := [(w8.heap.size, 0, ya - yb), (w8.heap.size, 1, 1), (ba, oa + i * 2 + 1, ya), (bb, ob + k * 2 + 1, yb)]) hS, hC10⟩
                case measure => simp [intOf]; omega
              · have he' : (px a i != px b k) = true := by simpa using he
                clear he
                go_wp2_with fail
                go_quiet (fail)
                have hB7 := below_drewC (n := nq) hB6
                have hC7 := below_drewC (n := nq) hC6
                go_wp2
                go_roundw
                case rel => exact ⟨k + 1, by omega, by go_num, blk_drewN O6.out, hB7, hC7⟩
                case measure => simp [intOf]; omega
            · obtain rfl : k = m1 := by omega
              go_wp2
              go_roundw
              case rel => exact ⟨i + 1, by omega, by go_num, O6.out, hB6, hC6⟩
              case measure => simp [intOf]; omega
        · obtain rfl : i = n1 := by omega
          obtain ⟨c0, c1', _, _⟩ := O5.out.two
          have hD' : decide (0 < D) = true := by simpa using hD0
          go_wp2
          go_ret
          exact ⟨rfl, hB5⟩
    · have HK := Lib.hid (l_none hok)
      clear hok
      go_wp2_with fail
      refine (c_implGasLag _ _ _ a _ _ _ b x _ (by omega) (by omega) (HA.out.below (by have hsz := hC1.size; first | exact hC1 | go_grown)) (HBB.out.below (by have hsz := hC1.size; first | exact hC1 | go_grown))).mono ?_
      intro e w2 hp
      obtain ⟨rfl, hb⟩ := hp.val ⟨HK.out.1, HK.out.2.1, HK.out.2.2⟩
      clear hp
      have hC2 := bel0 hC1 hb
      have hB2 := bel0 hB1 hb
      clear hb
      go_wp2_with fail
      refine (c_specGasLag _ _ _ a _ _ _ b x _ (by omega) (by omega) (HA.out.below (by have hsz := hC2.size; first | exact hC2 | go_grown)) (HBB.out.below (by have hsz := hC2.size; first | exact hC2 | go_grown))).mono ?_
      intro e w3 hp
      obtain ⟨rfl, hb⟩ := hp.val ⟨HK.out.1, HK.out.2.1, HK.out.2.2⟩
      clear hp
      have hC3 := bel1 hC2 hb
      have O3 := Lib.hid (blk_n1 hb)
      have hB3 := bel1 hB2 hb
      have zO3 := O3.out.lt
      obtain ⟨cO3, dO3, fO3, hO3⟩ := O3.out.two
      clear hb
      go_wp2
      go_ret
      exact ⟨rfl, hB3.alloc hB3.size _⟩
end Go.Proofs.Ytfngdemjlglliaa
