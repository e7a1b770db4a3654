/-
  The walk of the law FnDeltaStandard: it returns true and writes nothing that was there.
-/
import Derived.Test.YtbbipieadjggkaaWaterA
import Derived.Test.YtbbipieadjggkaaIsoDrawD
import Derived.Test.YtbbipieadjggkaaLawWords
import Derived.Test.YtbbipieadjggkaaFracAddImpl
import Derived.Test.YtbbipieadjggkaaFracMulImpl
import Derived.Test.YtbbipieadjggkaaFracDivImpl
import Derived.Test.YtbbipieadjggkaaFracLessImpl
import Derived.Deep.RegionHeld3
namespace Go.Proofs.Ytbbipieadjggkaa
open Go.RowKit

theorem cell_away {W : World} {b b' o k : Nat} {v : Value} (hne : b ≠ b') : (W.setCell ⟨b', k, none⟩ v).cell? ⟨b, o, none⟩ = W.cell? ⟨b, o, none⟩ := World.cell?_of_block (w := W) (a := ⟨b, o, none⟩) (Below.heap_setCell W ⟨b', k, none⟩ v b hne)
def Six2 (g1 g2 : Nat) (a h sn sd N D : Int) (w W : World) : Prop :=
  (W.cell? ⟨g1, 0, none⟩ = some (.int .i64 a) ∧ W.cell? ⟨g1, 1, none⟩ = some (.int .i64 h) ∧ W.cell? ⟨g1 + 1, 0, none⟩ = some (.int .i64 sn) ∧ W.cell? ⟨g1 + 1, 1, none⟩ = some (.int .i64 sd) ∧ W.cell? ⟨g2, 0, none⟩ = some (.int .i64 N) ∧ W.cell? ⟨g2, 1, none⟩ = some (.int .i64 D)) ∧ Below w.heap.size w W
theorem six2_below {g1 g2 : Nat} {a h sn sd N D : Int} {w W W' : World} (h0 : Six2 g1 g2 a h sn sd N D w W) (hb : Below W.heap.size W W') : Six2 g1 g2 a h sn sd N D w W' := by
  obtain ⟨⟨a, b, c, d, e, f⟩, g⟩ := h0
  exact ⟨⟨cell_keep hb a, cell_keep hb b, cell_keep hb c, cell_keep hb d, cell_keep hb e, cell_keep hb f⟩, bel0 g hb⟩
theorem six2_alloc {g1 g2 : Nat} {a h sn sd N D : Int} {w W : World} (h0 : Six2 g1 g2 a h sn sd N D w W) (o : Obj) : Six2 g1 g2 a h sn sd N D w (W.alloc o) := six2_below h0 ((Below.refl _ _).alloc (Nat.le_refl _) _)
theorem six2_drew {g1 g2 : Nat} {a h sn sd N D : Int} {w W : World} (h0 : Six2 g1 g2 a h sn sd N D w W) : Six2 g1 g2 a h sn sd N D w W.drew := ⟨h0.1, h0.2.drew⟩
theorem six2_lt {g1 g2 : Nat} {a h sn sd N D : Int} {w W : World} (h0 : Six2 g1 g2 a h sn sd N D w W) : w.heap.size ≤ W.heap.size ∧ g1 + 1 < W.heap.size ∧ g2 < W.heap.size :=
  ⟨h0.2.size, cell_lt h0.1.2.2.1, cell_lt h0.1.2.2.2.2.1⟩
theorem six2_lt1 {g1 g2 : Nat} {a h sn sd N D : Int} {w W : World} (h0 : Six2 g1 g2 a h sn sd N D w W) : w.heap.size ≤ W.heap.size + 1 ∧ g1 + 1 < W.heap.size + 1 ∧ g2 < W.heap.size + 1 := by
  have := six2_lt h0
  omega
theorem six2_set {g1 g2 g : Nat} {a h sn sd N D : Int} {w W : World} (h0 : Six2 g1 g2 a h sn sd N D w W) (hg : w.heap.size ≤ g ∧ g1 + 1 < g ∧ g2 < g) (u v : Value) : Six2 g1 g2 a h sn sd N D w ((W.setCell ⟨g, 0, none⟩ u).setCell ⟨g, 1, none⟩ v) := by
  obtain ⟨⟨a, b, c, d, e, f⟩, k⟩ := h0
  have F : ∀ {b o : Nat} {x : Value}, b < g → W.cell? ⟨b, o, none⟩ = some x → ((W.setCell ⟨g, 0, none⟩ u).setCell ⟨g, 1, none⟩ v).cell? ⟨b, o, none⟩ = some x := fun hlt hx => by
    rw [cell_away (by omega), cell_away (by omega)]; exact hx
  exact ⟨⟨F (by omega) a, F (by omega) b, F (by omega) c, F (by omega) d, F (by omega) e, F (by omega) f⟩, (k.setCell hg.1 _).setCell hg.1 _⟩
theorem blk_set2 {W : World} {g : Nat} {t : TypeId} {a b : Value} (h : Blk W g t #[a, b]) (u v : Value) : Blk ((W.setCell ⟨g, 0, none⟩ u).setCell ⟨g, 1, none⟩ v) g t #[u, v] := by
  have := (h.put 0 u).put 1 v
  simpa using this
def Five (g1 g2 g6 : Nat) (h N D N' D' : Int) (w W : World) : Prop :=
  (W.cell? ⟨g1, 1, none⟩ = some (.int .i64 h) ∧ W.cell? ⟨g6, 0, none⟩ = some (.int .i64 N') ∧ W.cell? ⟨g6, 1, none⟩ = some (.int .i64 D') ∧ W.cell? ⟨g2, 0, none⟩ = some (.int .i64 N) ∧ W.cell? ⟨g2, 1, none⟩ = some (.int .i64 D)) ∧ Below w.heap.size w W
theorem five_below {g1 g2 g6 : Nat} {h N D N' D' : Int} {w W W' : World} (h0 : Five g1 g2 g6 h N D N' D' w W) (hb : Below W.heap.size W W') : Five g1 g2 g6 h N D N' D' w W' := by
  obtain ⟨⟨a, b, c, d, e⟩, g⟩ := h0
  exact ⟨⟨cell_keep hb a, cell_keep hb b, cell_keep hb c, cell_keep hb d, cell_keep hb e⟩, bel0 g hb⟩
theorem five_drew {g1 g2 g6 : Nat} {h N D N' D' : Int} {w W : World} (h0 : Five g1 g2 g6 h N D N' D' w W) : Five g1 g2 g6 h N D N' D' w W.drew := ⟨h0.1, h0.2.drew⟩
theorem five_end {g1 g2 g6 : Nat} {h N D N' D' : Int} {w W : World} (h0 : Five g1 g2 g6 h N D N' D' w W) : Below w.heap.size w W := h0.2
theorem five_mk {g1 g2 : Nat} {a h sn sd N D N' D' : Int} {w W : World} {t : TypeId} (h0 : Six2 g1 g2 a h sn sd N D w W) : Five g1 g2 W.heap.size h N D N' D' w (W.alloc (.cells #[.int .i64 N', .int .i64 D'] t)) := by
  obtain ⟨⟨a, b, c, d, e, f⟩, g⟩ := six2_alloc h0 (.cells #[.int .i64 N', .int .i64 D'] t)
  exact ⟨⟨b, (blk_new W _ _).two.1, (blk_new W _ _).two.2.1, e, f⟩, g⟩
theorem six2_end {g1 g2 : Nat} {a h sn sd N D : Int} {w W : World} (h0 : Six2 g1 g2 a h sn sd N D w W) : Below w.heap.size w W := h0.2

set_option maxHeartbeats 4000000 in
theorem walk_FnDeltaStandard (A : Option Addr) (n c : Nat) (w : World) (h : RdB w A n) (hn : n ≤ maxLen) (hc : n ≤ c) :
    Calls Try.prog 8 #[.slice A n c] w fun e w' => e = .returned (.bool true) ∧ Below w.heap.size w w' := by
  unfold maxLen at hn
  have HB := Lib.hid h
  clear h
  by_cases hbig : 1048576 < n
  · go_enter Try.func8, Try.ntmps8
    go_wp2
    go_ret
    exact ⟨rfl, Below.refl _ _⟩
  · have hd1 : decide ((1048576 : Int) < (n : Int)) = false := by simp; omega
    go_enter Try.func8, Try.ntmps8
    go_wp2_with fail
    refine (c_DrawWaterDelta _ _ _ _ HB.out (by omega) hc).mono ?_
    rintro e w1 ⟨a, h, sn, sd, rfl, a0, a9, h0, h9, s0, s9, d0, d9, hB1⟩
    rcases Bool.eq_false_or_eq_true (okO (vD a h sn sd) (dX a h sn sd) (a * sn)) with hok | hok
    · obtain ⟨N, D, hN, hD, hv, hk, hvf, hf, HO⟩ := op_val hok
      have HN := Lib.hid hN
      have HD := Lib.hid hD
      have HV := Lib.hid hv
      have HF := Lib.hid hk
      have HVF := Lib.hid hvf
      obtain ⟨n1, n2, n3, n4, _⟩ := vF_yes hvf
      clear hok hN hD hk hvf hv
      go_wp2_with fail
      refine (c_implWaterDelta _ _ _ _ _).mono ?_
      intro e w2 hp
      obtain ⟨rfl, hb⟩ := HO _ _ _ hp
      clear hp
      have J2 := Lib.hid (blk_n2 hb)
      have K2 := Lib.hid (blk_n2' hb)
      have hB2 := bel2 hB1 hb
      have zJ2 := J2.out.lt
      have zK2 := K2.out.lt
      obtain ⟨cJ2, dJ2, _, _⟩ := J2.out.two
      obtain ⟨cK2, dK2, _, _⟩ := K2.out.two
      clear hb
      go_wp2_with fail
      refine (c_specWaterDelta _ _ _ _ _).mono ?_
      intro e w3 hp
      obtain ⟨rfl, hb⟩ := HO _ _ _ hp
      clear hp HO
      have J3 := Lib.hid (blk_b1 J2.out hb)
      have K3 := Lib.hid (blk_b1 K2.out hb)
      have O3 := Lib.hid (blk_n1 hb)
      have hB3 := bel1 hB2 hb
      have zJ3 := J3.out.lt
      have zK3 := K3.out.lt
      have zO3 := O3.out.lt
      obtain ⟨cJ3, dJ3, _, _⟩ := J3.out.two
      obtain ⟨cK3, dK3, _, _⟩ := K3.out.two
      obtain ⟨cO3, dO3, _, _⟩ := O3.out.two
      clear hb
      have HS0 := Lib.hid (show Six2 w1.heap.size w2.heap.size a h sn sd N D w w3 from ⟨⟨cJ3, dJ3, cK3, dK3, cO3, dO3⟩, hB3⟩)
      rcases Bool.eq_false_or_eq_true (okO (two sn sd 1 1) (sn * 1 + 1 * sd) (sd * 1)) with hok | hok
      · obtain ⟨t1, t2, ht1, ht2, hv', hk', hvf', hf', HO'⟩ := op_val hok
        have HO := Lib.hid HO'
        have HT := Lib.hid hf'
        obtain ⟨_, _, t3, t4, _⟩ := vF_yes hvf'
        have t5 : 1 ≤ t2 ∧ t2 ≤ 1000000000 := by obtain ⟨u1, u2, _⟩ := vF_yes hvf'; exact ⟨u1, u2⟩
        clear hok ht1 ht2 hv' hk' hvf' hf' HO'
        rcases Bool.eq_false_or_eq_true (okO (vD a h t1 t2) (dX a h t1 t2) (a * t1)) with hok | hok
        · obtain ⟨N', D', hN, hD, hv', hk', hvf', hf', HO2'⟩ := op_val hok
          have HO2 := Lib.hid HO2'
          obtain ⟨hv1, hs1, h1s⟩ := vD_yes HV.out
          have hd := delta_standard hv1 hs1 h1s HF.out HT.out (vD_yes hv').2.2 hk'
          by_cases hz : h = 0
          · obtain ⟨e1, e2⟩ := hd.1 hz
            obtain rfl : N' = -1000 := by rw [hN]; exact e1
            obtain rfl : D' = 1 := by rw [hD]; exact e2
            subst hz
            clear hok hN hD hv' hk' hvf' hf' HO2' hv1 hs1 h1s hd e1 e2
            go_wp2_with fail
            go_region_held3 (fun W => (W.cell? ⟨w1.heap.size, 0, none⟩ = some (.int .i64 a) ∧ W.cell? ⟨w1.heap.size, 1, none⟩ = some (.int .i64 0) ∧ W.cell? ⟨w1.heap.size + 1, 0, none⟩ = some (.int .i64 sn) ∧ W.cell? ⟨w1.heap.size + 1, 1, none⟩ = some (.int .i64 sd) ∧ W.cell? ⟨w2.heap.size, 0, none⟩ = some (.int .i64 N) ∧ W.cell? ⟨w2.heap.size, 1, none⟩ = some (.int .i64 D)) ∧ Below w.heap.size w W) (first | exact six2_alloc HS0.out _ | exact six2_drew (six2_alloc HS0.out _) | assumption | exact six2_alloc (by assumption) _ | exact six2_set (by assumption) hY _ _) (first | (go_at_call 25; (with_reducible refine (c_implFracAdd sn sd 1 1 _).mono ?_); intro e w5 hp; obtain ⟨rfl, hb⟩ := HO.out _ _ _ hp; (first | (have hX := blk_n1 hb; obtain ⟨q0, q1, q2, q3⟩ := hX.two; (first | have hY := six2_lt hS | have hY := six2_lt HS0.out)) | (have hX := blk_b0 hX hb; obtain ⟨q0, q1, q2, q3⟩ := hX.two) | skip); have hS := six2_below (by assumption) hb; clear hb hp) | (go_at_call 23; (with_reducible refine (c_frac 1 _).mono ?_); rintro e w5 ⟨rfl, hb⟩; (first | (have hX := blk_n2d hb; obtain ⟨q0, q1, q2, q3⟩ := hX.two; have hY := six2_lt1 HS0.out) | skip); have hS := six2_below (by assumption) hb; clear hb))
            all_goals
              go_wp2_with fail
              refine (c_implWaterDelta a 0 t1 t2 _).mono ?_
              intro e w6 hp
              obtain ⟨rfl, hb⟩ := HO2.out _ _ _ hp
              have hS6 := six2_below (by assumption) hb
              have HS7 := Lib.hid (five_mk (N' := -1000) (D' := 1) (t := 26) hS6)
              have HS6 := Lib.hid hS6
              clear hb hp hS6
              go_wp2_with fail
              refine wp_region_held_drew (S := (fun W => (W.cell? ⟨w1.heap.size, 1, none⟩ = some (.int .i64 0) ∧ W.cell? ⟨w6.heap.size, 0, none⟩ = some (.int .i64 (-1000)) ∧ W.cell? ⟨w6.heap.size, 1, none⟩ = some (.int .i64 1) ∧ W.cell? ⟨w2.heap.size, 0, none⟩ = some (.int .i64 N) ∧ W.cell? ⟨w2.heap.size, 1, none⟩ = some (.int .i64 D)) ∧ Below w.heap.size w W)) (by kernel_rfl) (five_drew HS7.out) (fun hHeld => ?_)
              refine wpAnyH_take (i := 0) (oi := { dst := some 65, op := Go.Op.move (Go.Operand.tmp 10), type := 4, pos := "laws.go:4219", after := #[], guard := none }) (v := ?_) rfl (by kernel_rfl) (by kernel_rfl) (by kernel_rfl) (fun _ _ _ h => h) (Or.inl ⟨by rfl, ?_⟩) (by assumption) ?_
              rotate_left
              · (intro w hSw; (try dsimp only at hSw); go_simp; try with_reducible rfl)
              try simp only [Act.put, List.setIfInBounds_toArray, List.set_cons_zero, List.set_cons_succ]
              refine wpAnyH_take (i := 1) (oi := { dst := some 66, op := Go.Op.unOp Go.UnOp.not 4 (Go.Operand.tmp 65), type := 4, pos := "laws.go:4219", after := #[{ on := 0, ground := Go.Ground.data }], guard := none }) (v := ?_) rfl (by kernel_rfl) (by kernel_rfl) (by kernel_rfl) (fun _ _ _ h => h) (Or.inl ⟨by rfl, ?_⟩) (by assumption) ?_
              rotate_left
              · (intro w hSw; (try dsimp only at hSw); go_simp; try with_reducible rfl)
              try simp only [Act.put, List.setIfInBounds_toArray, List.set_cons_zero, List.set_cons_succ]
              refine wpAnyH_take (i := 2) (oi := { dst := some 67, op := Go.Op.move (Go.Operand.tmp 66), type := 4, pos := "laws.go:4219", after := #[{ on := 1, ground := Go.Ground.data }], guard := none }) (v := ?_) rfl (by kernel_rfl) (by kernel_rfl) (by kernel_rfl) (fun _ _ _ h => h) (Or.inl ⟨by rfl, ?_⟩) (by assumption) ?_
              rotate_left
              · (intro w hSw; (try dsimp only at hSw); go_simp; try with_reducible rfl)
              try simp only [Act.put, List.setIfInBounds_toArray, List.set_cons_zero, List.set_cons_succ]
              refine wpAnyH_take (i := 3) (oi := { dst := some 68, op := Go.Op.move (Go.Operand.tmp 12), type := 4, pos := "laws.go:4219", after := #[{ on := 2, ground := Go.Ground.guard }], guard := some (2, false) }) (v := ?_) rfl (by kernel_rfl) (by kernel_rfl) (by kernel_rfl) (fun _ _ _ h => h) (Or.inl ⟨by rfl, ?_⟩) (by assumption) ?_
              rotate_left
              · (intro w hSw; (try dsimp only at hSw); go_simp; try with_reducible rfl)
              try simp only [Act.put, List.setIfInBounds_toArray, List.set_cons_zero, List.set_cons_succ]
              refine wpAnyH_take (i := 4) (oi := { dst := some 69, op := Go.Op.unOp Go.UnOp.not 4 (Go.Operand.tmp 68), type := 4, pos := "laws.go:4219", after := #[{ on := 3, ground := Go.Ground.data }, { on := 2, ground := Go.Ground.guard }], guard := some (2, false) }) (v := ?_) rfl (by kernel_rfl) (by kernel_rfl) (by kernel_rfl) (fun _ _ _ h => h) (Or.inl ⟨by rfl, ?_⟩) (by assumption) ?_
              rotate_left
              · (intro w hSw; (try dsimp only at hSw); go_simp; try with_reducible rfl)
              try simp only [Act.put, List.setIfInBounds_toArray, List.set_cons_zero, List.set_cons_succ]
              refine wpAnyH_take (i := 5) (oi := { dst := some 70, op := Go.Op.pick (Go.Operand.tmp 67) (Go.Operand.const (Go.Value.bool true)) (Go.Operand.tmp 69), type := 4, pos := "laws.go:4219", after := #[{ on := 2, ground := Go.Ground.data }, { on := 4, ground := Go.Ground.data }], guard := none }) (v := ?_) rfl (by kernel_rfl) (by kernel_rfl) (by kernel_rfl) (fun _ _ _ h => h) (Or.inl ⟨by rfl, ?_⟩) (by assumption) ?_
              rotate_left
              · (intro w hSw; (try dsimp only at hSw); go_simp; try with_reducible rfl)
              try simp only [Act.put, List.setIfInBounds_toArray, List.set_cons_zero, List.set_cons_succ]
              refine wpAnyH_take (i := 6) (oi := { dst := some 71, op := Go.Op.move (Go.Operand.tmp 70), type := 4, pos := "laws.go:4219", after := #[{ on := 5, ground := Go.Ground.data }, { on := 2, ground := Go.Ground.chain }], guard := none }) (v := ?_) rfl (by kernel_rfl) (by kernel_rfl) (by kernel_rfl) (fun _ _ _ h => h) (Or.inl ⟨by rfl, ?_⟩) (by assumption) ?_
              rotate_left
              · (intro w hSw; (try dsimp only at hSw); go_simp; try with_reducible rfl)
              try simp only [Act.put, List.setIfInBounds_toArray, List.set_cons_zero, List.set_cons_succ]
              refine wpAnyH_take (i := 7) (oi := { dst := some 72, op := Go.Op.fieldAddr 24 (Go.Operand.tmp 3) 1, type := 0, pos := "laws.go:4219", after := #[{ on := 6, ground := Go.Ground.guard }], guard := some (6, false) }) (v := ?_) rfl (by kernel_rfl) (by kernel_rfl) (by kernel_rfl) (fun _ _ _ h => h) (Or.inl ⟨by rfl, ?_⟩) (by assumption) ?_
              rotate_left
              · (intro w hSw; (try dsimp only at hSw); go_simp; try with_reducible rfl)
              try simp only [Act.put, List.setIfInBounds_toArray, List.set_cons_zero, List.set_cons_succ]
              refine wpAnyH_take (i := 8) (oi := { dst := some 73, op := Go.Op.load 3 (Go.Operand.tmp 72), type := 3, pos := "laws.go:4219", after := #[{ on := 7, ground := Go.Ground.data }, { on := 6, ground := Go.Ground.guard }], guard := some (6, false) }) (v := ?_) rfl (by kernel_rfl) (by kernel_rfl) (by kernel_rfl) (fun _ _ _ h => h) (Or.inl ⟨by rfl, ?_⟩) (by assumption) ?_
              rotate_left
              · (intro w hSw; (try dsimp only at hSw); go_simp; try with_reducible rfl)
              try simp only [Act.put, List.setIfInBounds_toArray, List.set_cons_zero, List.set_cons_succ]
              refine wpAnyH_take (i := 9) (oi := { dst := some 74, op := Go.Op.binOp Go.BinOp.eql 3 (Go.Operand.tmp 73) (Go.Operand.const (Go.Value.int Go.IntKind.i64 0)) 3, type := 4, pos := "laws.go:4219", after := #[{ on := 8, ground := Go.Ground.data }, { on := 6, ground := Go.Ground.guard }], guard := some (6, false) }) (v := ?_) rfl (by kernel_rfl) (by kernel_rfl) (by kernel_rfl) (fun _ _ _ h => h) (Or.inl ⟨by rfl, ?_⟩) (by assumption) ?_
              rotate_left
              · (intro w hSw; (try dsimp only at hSw); go_simp; try with_reducible rfl)
              try simp only [Act.put, List.setIfInBounds_toArray, List.set_cons_zero, List.set_cons_succ]
              refine wpAnyH_take (i := 10) (oi := { dst := some 75, op := Go.Op.move (Go.Operand.tmp 74), type := 4, pos := "laws.go:4219", after := #[{ on := 9, ground := Go.Ground.data }, { on := 6, ground := Go.Ground.chain }, { on := 6, ground := Go.Ground.guard }], guard := some (6, false) }) (v := ?_) rfl (by kernel_rfl) (by kernel_rfl) (by kernel_rfl) (fun _ _ _ h => h) (Or.inl ⟨by rfl, ?_⟩) (by assumption) ?_
              rotate_left
              · (intro w hSw; (try dsimp only at hSw); go_simp; try with_reducible rfl)
              try simp only [Act.put, List.setIfInBounds_toArray, List.set_cons_zero, List.set_cons_succ]
              refine wpAnyH_take (i := 11) (oi := { dst := some 76, op := Go.Op.load 26 (Go.Operand.tmp 11), type := 26, pos := "laws.go:4219", after := #[{ on := 10, ground := Go.Ground.guard }], guard := some (10, true) }) (v := ?_) rfl (by kernel_rfl) (by kernel_rfl) (by kernel_rfl) (fun _ _ _ h => h) (Or.inl ⟨by rfl, ?_⟩) (by assumption) ?_
              rotate_left
              · (intro w hSw; (try dsimp only at hSw); go_simp; try with_reducible rfl)
              try simp only [Act.put, List.setIfInBounds_toArray, List.set_cons_zero, List.set_cons_succ]
              refine wpAnyH_ready (rs := [12]) (by kernel_rfl) (by simp) ?_
              refine AllReadyH.cons (o := { dst := some 77, op := Go.Op.call { callee := Go.Callee.value (Go.Operand.func 23), args := #[Go.Operand.const (Go.Value.int Go.IntKind.i64 (-1000))], argTypes := #[3] }, type := 26, pos := "laws.go:4219", after := #[{ on := 10, ground := Go.Ground.chain }, { on := 10, ground := Go.Ground.guard }], guard := some (10, true) }) rfl (fun K hK => ?_) AllReadyH.nil
              go_simp
              refine (c_frac (-1000) _).mono ?_
              rintro e w7 ⟨rfl, hb⟩
              have hS := five_below (five_drew HS7.out) hb
              clear hb
              go_wp2_with fail
              refine hK.out _ _ hS (fun hHeld => ?_)
              clear hK K
              try simp only [Act.put, List.setIfInBounds_toArray, List.set_cons_zero, List.set_cons_succ]
              refine wpAnyH_take (i := 13) (oi := { dst := some 78, op := Go.Op.binOp Go.BinOp.eql 26 (Go.Operand.tmp 76) (Go.Operand.tmp 77) 26, type := 4, pos := "laws.go:4219", after := #[{ on := 11, ground := Go.Ground.data }, { on := 12, ground := Go.Ground.data }, { on := 10, ground := Go.Ground.guard }], guard := some (10, true) }) (v := ?_) rfl (by kernel_rfl) (by kernel_rfl) (by kernel_rfl) (fun _ _ _ h => h) (Or.inl ⟨by rfl, ?_⟩) (by assumption) ?_
              rotate_left
              · (intro w hSw; (try dsimp only at hSw); go_simp; try with_reducible rfl)
              try simp only [Act.put, List.setIfInBounds_toArray, List.set_cons_zero, List.set_cons_succ]
              refine wpAnyH_take (i := 14) (oi := { dst := some 79, op := Go.Op.pick (Go.Operand.tmp 75) (Go.Operand.tmp 78) (Go.Operand.const (Go.Value.bool false)), type := 4, pos := "laws.go:4219", after := #[{ on := 10, ground := Go.Ground.data }, { on := 13, ground := Go.Ground.data }, { on := 6, ground := Go.Ground.guard }], guard := some (6, false) }) (v := ?_) rfl (by kernel_rfl) (by kernel_rfl) (by kernel_rfl) (fun _ _ _ h => h) (Or.inl ⟨by rfl, ?_⟩) (by assumption) ?_
              rotate_left
              · (intro w hSw; (try dsimp only at hSw); go_simp; try with_reducible rfl)
              try simp only [Act.put, List.setIfInBounds_toArray, List.set_cons_zero, List.set_cons_succ]
              refine wpAnyH_take (i := 15) (oi := { dst := some 80, op := Go.Op.pick (Go.Operand.tmp 71) (Go.Operand.const (Go.Value.bool true)) (Go.Operand.tmp 79), type := 4, pos := "laws.go:4219", after := #[{ on := 6, ground := Go.Ground.data }, { on := 14, ground := Go.Ground.data }], guard := none }) (v := ?_) rfl (by kernel_rfl) (by kernel_rfl) (by kernel_rfl) (fun _ _ _ h => h) (Or.inl ⟨by rfl, ?_⟩) (by assumption) ?_
              rotate_left
              · (intro w hSw; (try dsimp only at hSw); go_simp; try with_reducible rfl)
              try simp only [Act.put, List.setIfInBounds_toArray, List.set_cons_zero, List.set_cons_succ]
              refine wpAnyH_take (i := 16) (oi := { dst := some 81, op := Go.Op.move (Go.Operand.tmp 80), type := 4, pos := "laws.go:4219", after := #[{ on := 15, ground := Go.Ground.data }, { on := 12, ground := Go.Ground.chain }], guard := none }) (v := ?_) rfl (by kernel_rfl) (by kernel_rfl) (by kernel_rfl) (fun _ _ _ h => h) (Or.inl ⟨by rfl, ?_⟩) (by assumption) ?_
              rotate_left
              · (intro w hSw; (try dsimp only at hSw); go_simp; try with_reducible rfl)
              try simp only [Act.put, List.setIfInBounds_toArray, List.set_cons_zero, List.set_cons_succ]
              refine wpAnyH_take (i := 17) (oi := { dst := some 82, op := Go.Op.load 26 (Go.Operand.tmp 11), type := 26, pos := "laws.go:4219", after := #[{ on := 16, ground := Go.Ground.guard }], guard := some (16, false) }) (v := undef) rfl (by kernel_rfl) (by kernel_rfl) (by kernel_rfl) (fun _ _ _ h => h) (Or.inr ⟨by rfl, rfl⟩) (by assumption) ?_
              try simp only [Act.put, List.setIfInBounds_toArray, List.set_cons_zero, List.set_cons_succ]
              refine wpAnyH_take (i := 18) (oi := { dst := some 83, op := Go.Op.load 26 (Go.Operand.tmp 5), type := 26, pos := "laws.go:4219", after := #[{ on := 16, ground := Go.Ground.guard }], guard := some (16, false) }) (v := undef) rfl (by kernel_rfl) (by kernel_rfl) (by kernel_rfl) (fun _ _ _ h => h) (Or.inr ⟨by rfl, rfl⟩) (by assumption) ?_
              try simp only [Act.put, List.setIfInBounds_toArray, List.set_cons_zero, List.set_cons_succ]
              refine wpAnyH_take (i := 19) (oi := { dst := some 84, op := Go.Op.call { callee := Go.Callee.value (Go.Operand.func 18), args := #[Go.Operand.tmp 82, Go.Operand.tmp 83], argTypes := #[26, 26] }, type := 4, pos := "laws.go:4219", after := #[{ on := 17, ground := Go.Ground.data }, { on := 18, ground := Go.Ground.data }, { on := 16, ground := Go.Ground.chain }, { on := 16, ground := Go.Ground.guard }], guard := some (16, false) }) (v := undef) rfl (by kernel_rfl) (by kernel_rfl) (by kernel_rfl) (fun _ _ _ h => h) (Or.inr ⟨by rfl, rfl⟩) (by assumption) ?_
              try simp only [Act.put, List.setIfInBounds_toArray, List.set_cons_zero, List.set_cons_succ]
              refine wpAnyH_take (i := 20) (oi := { dst := some 85, op := Go.Op.pick (Go.Operand.tmp 81) (Go.Operand.const (Go.Value.bool true)) (Go.Operand.tmp 84), type := 4, pos := "laws.go:4219", after := #[{ on := 16, ground := Go.Ground.data }, { on := 19, ground := Go.Ground.data }], guard := none }) (v := ?_) rfl (by kernel_rfl) (by kernel_rfl) (by kernel_rfl) (fun _ _ _ h => h) (Or.inl ⟨by rfl, ?_⟩) (by assumption) ?_
              rotate_left
              · (intro w hSw; (try dsimp only at hSw); go_simp; try with_reducible rfl)
              try simp only [Act.put, List.setIfInBounds_toArray, List.set_cons_zero, List.set_cons_succ]
              refine wpAnyH_take (i := 21) (oi := { dst := some 2, op := Go.Op.assign (Go.Operand.tmp 85), type := 4, pos := "laws.go:4219", after := #[{ on := 20, ground := Go.Ground.data }, { on := 19, ground := Go.Ground.chain }, { on := 0, ground := Go.Ground.phase }, { on := 1, ground := Go.Ground.phase }, { on := 2, ground := Go.Ground.phase }, { on := 3, ground := Go.Ground.phase }, { on := 4, ground := Go.Ground.phase }, { on := 5, ground := Go.Ground.phase }, { on := 6, ground := Go.Ground.phase }, { on := 7, ground := Go.Ground.phase }, { on := 8, ground := Go.Ground.phase }, { on := 9, ground := Go.Ground.phase }, { on := 10, ground := Go.Ground.phase }, { on := 11, ground := Go.Ground.phase }, { on := 12, ground := Go.Ground.phase }, { on := 13, ground := Go.Ground.phase }, { on := 14, ground := Go.Ground.phase }, { on := 15, ground := Go.Ground.phase }, { on := 16, ground := Go.Ground.phase }, { on := 17, ground := Go.Ground.phase }, { on := 18, ground := Go.Ground.phase }, { on := 19, ground := Go.Ground.phase }, { on := 20, ground := Go.Ground.phase }], guard := none }) (v := ?_) rfl (by kernel_rfl) (by kernel_rfl) (by kernel_rfl) (fun _ _ _ h => h) (Or.inl ⟨by rfl, ?_⟩) (by assumption) ?_
              rotate_left
              · (intro w hSw; (try dsimp only at hSw); go_simp; try with_reducible rfl)
              try simp only [Act.put, List.setIfInBounds_toArray, List.set_cons_zero, List.set_cons_succ]
              refine wpAnyH_done (by kernel_rfl) ?_ _
              go_wp2
              go_ret
              exact ⟨rfl, five_end hS⟩
          · have HE := Lib.hid (show lessF N' D' N D = true by rw [HN.out, HD.out, hN, hD]; exact hd.2 hz)
            have hz' : (h == 0) = false := by simpa using hz
            have hz2 : decide (h = 0) = false := by simpa using hz
            have hz3 : (h != 0) = true := by simpa using hz
            have hz4 : 0 < h := by omega
            clear hok hN hD hv' hk' hvf' hf' HO2' hv1 hs1 h1s hd
            go_wp2_with fail
            go_region_held3 (fun W => (W.cell? ⟨w1.heap.size, 0, none⟩ = some (.int .i64 a) ∧ W.cell? ⟨w1.heap.size, 1, none⟩ = some (.int .i64 h) ∧ W.cell? ⟨w1.heap.size + 1, 0, none⟩ = some (.int .i64 sn) ∧ W.cell? ⟨w1.heap.size + 1, 1, none⟩ = some (.int .i64 sd) ∧ W.cell? ⟨w2.heap.size, 0, none⟩ = some (.int .i64 N) ∧ W.cell? ⟨w2.heap.size, 1, none⟩ = some (.int .i64 D)) ∧ Below w.heap.size w W) (first | exact six2_alloc HS0.out _ | exact six2_drew (six2_alloc HS0.out _) | assumption | exact six2_alloc (by assumption) _ | exact six2_set (by assumption) hY _ _) (first | (go_at_call 25; (with_reducible refine (c_implFracAdd sn sd 1 1 _).mono ?_); intro e w5 hp; obtain ⟨rfl, hb⟩ := HO.out _ _ _ hp; (first | (have hX := blk_n1 hb; obtain ⟨q0, q1, q2, q3⟩ := hX.two; (first | have hY := six2_lt hS | have hY := six2_lt HS0.out)) | (have hX := blk_b0 hX hb; obtain ⟨q0, q1, q2, q3⟩ := hX.two) | skip); have hS := six2_below (by assumption) hb; clear hb hp) | (go_at_call 23; (with_reducible refine (c_frac 1 _).mono ?_); rintro e w5 ⟨rfl, hb⟩; (first | (have hX := blk_n2d hb; obtain ⟨q0, q1, q2, q3⟩ := hX.two; have hY := six2_lt1 HS0.out) | skip); have hS := six2_below (by assumption) hb; clear hb))
            all_goals
              go_wp2_with fail
              refine (c_implWaterDelta a h t1 t2 _).mono ?_
              intro e w6 hp
              obtain ⟨rfl, hb⟩ := HO2.out _ _ _ hp
              have hS6 := six2_below (by assumption) hb
              have HS7 := Lib.hid (five_mk (N' := N') (D' := D') (t := 26) hS6)
              have HS6 := Lib.hid hS6
              clear hb hp hS6
              go_wp2_with fail
              refine wp_region_held_drew (S := (fun W => (W.cell? ⟨w1.heap.size, 1, none⟩ = some (.int .i64 h) ∧ W.cell? ⟨w6.heap.size, 0, none⟩ = some (.int .i64 N') ∧ W.cell? ⟨w6.heap.size, 1, none⟩ = some (.int .i64 D') ∧ W.cell? ⟨w2.heap.size, 0, none⟩ = some (.int .i64 N) ∧ W.cell? ⟨w2.heap.size, 1, none⟩ = some (.int .i64 D)) ∧ Below w.heap.size w W)) (by kernel_rfl) (five_drew HS7.out) (fun hHeld => ?_)
              refine wpAnyH_take (i := 0) (oi := { dst := some 65, op := Go.Op.move (Go.Operand.tmp 10), type := 4, pos := "laws.go:4219", after := #[], guard := none }) (v := ?_) rfl (by kernel_rfl) (by kernel_rfl) (by kernel_rfl) (fun _ _ _ h => h) (Or.inl ⟨by rfl, ?_⟩) (by assumption) ?_
              rotate_left
              · (intro w hSw; (try dsimp only at hSw); go_simp; try with_reducible rfl)
              try simp only [Act.put, List.setIfInBounds_toArray, List.set_cons_zero, List.set_cons_succ]
              refine wpAnyH_take (i := 1) (oi := { dst := some 66, op := Go.Op.unOp Go.UnOp.not 4 (Go.Operand.tmp 65), type := 4, pos := "laws.go:4219", after := #[{ on := 0, ground := Go.Ground.data }], guard := none }) (v := ?_) rfl (by kernel_rfl) (by kernel_rfl) (by kernel_rfl) (fun _ _ _ h => h) (Or.inl ⟨by rfl, ?_⟩) (by assumption) ?_
              rotate_left
              · (intro w hSw; (try dsimp only at hSw); go_simp; try with_reducible rfl)
              try simp only [Act.put, List.setIfInBounds_toArray, List.set_cons_zero, List.set_cons_succ]
              refine wpAnyH_take (i := 2) (oi := { dst := some 67, op := Go.Op.move (Go.Operand.tmp 66), type := 4, pos := "laws.go:4219", after := #[{ on := 1, ground := Go.Ground.data }], guard := none }) (v := ?_) rfl (by kernel_rfl) (by kernel_rfl) (by kernel_rfl) (fun _ _ _ h => h) (Or.inl ⟨by rfl, ?_⟩) (by assumption) ?_
              rotate_left
              · (intro w hSw; (try dsimp only at hSw); go_simp; try with_reducible rfl)
              try simp only [Act.put, List.setIfInBounds_toArray, List.set_cons_zero, List.set_cons_succ]
              refine wpAnyH_take (i := 3) (oi := { dst := some 68, op := Go.Op.move (Go.Operand.tmp 12), type := 4, pos := "laws.go:4219", after := #[{ on := 2, ground := Go.Ground.guard }], guard := some (2, false) }) (v := ?_) rfl (by kernel_rfl) (by kernel_rfl) (by kernel_rfl) (fun _ _ _ h => h) (Or.inl ⟨by rfl, ?_⟩) (by assumption) ?_
              rotate_left
              · (intro w hSw; (try dsimp only at hSw); go_simp; try with_reducible rfl)
              try simp only [Act.put, List.setIfInBounds_toArray, List.set_cons_zero, List.set_cons_succ]
              refine wpAnyH_take (i := 4) (oi := { dst := some 69, op := Go.Op.unOp Go.UnOp.not 4 (Go.Operand.tmp 68), type := 4, pos := "laws.go:4219", after := #[{ on := 3, ground := Go.Ground.data }, { on := 2, ground := Go.Ground.guard }], guard := some (2, false) }) (v := ?_) rfl (by kernel_rfl) (by kernel_rfl) (by kernel_rfl) (fun _ _ _ h => h) (Or.inl ⟨by rfl, ?_⟩) (by assumption) ?_
              rotate_left
              · (intro w hSw; (try dsimp only at hSw); go_simp; try with_reducible rfl)
              try simp only [Act.put, List.setIfInBounds_toArray, List.set_cons_zero, List.set_cons_succ]
              refine wpAnyH_take (i := 5) (oi := { dst := some 70, op := Go.Op.pick (Go.Operand.tmp 67) (Go.Operand.const (Go.Value.bool true)) (Go.Operand.tmp 69), type := 4, pos := "laws.go:4219", after := #[{ on := 2, ground := Go.Ground.data }, { on := 4, ground := Go.Ground.data }], guard := none }) (v := ?_) rfl (by kernel_rfl) (by kernel_rfl) (by kernel_rfl) (fun _ _ _ h => h) (Or.inl ⟨by rfl, ?_⟩) (by assumption) ?_
              rotate_left
              · (intro w hSw; (try dsimp only at hSw); go_simp; try with_reducible rfl)
              try simp only [Act.put, List.setIfInBounds_toArray, List.set_cons_zero, List.set_cons_succ]
              refine wpAnyH_take (i := 6) (oi := { dst := some 71, op := Go.Op.move (Go.Operand.tmp 70), type := 4, pos := "laws.go:4219", after := #[{ on := 5, ground := Go.Ground.data }, { on := 2, ground := Go.Ground.chain }], guard := none }) (v := ?_) rfl (by kernel_rfl) (by kernel_rfl) (by kernel_rfl) (fun _ _ _ h => h) (Or.inl ⟨by rfl, ?_⟩) (by assumption) ?_
              rotate_left
              · (intro w hSw; (try dsimp only at hSw); go_simp; try with_reducible rfl)
              try simp only [Act.put, List.setIfInBounds_toArray, List.set_cons_zero, List.set_cons_succ]
              refine wpAnyH_take (i := 7) (oi := { dst := some 72, op := Go.Op.fieldAddr 24 (Go.Operand.tmp 3) 1, type := 0, pos := "laws.go:4219", after := #[{ on := 6, ground := Go.Ground.guard }], guard := some (6, false) }) (v := ?_) rfl (by kernel_rfl) (by kernel_rfl) (by kernel_rfl) (fun _ _ _ h => h) (Or.inl ⟨by rfl, ?_⟩) (by assumption) ?_
              rotate_left
              · (intro w hSw; (try dsimp only at hSw); go_simp; try with_reducible rfl)
              try simp only [Act.put, List.setIfInBounds_toArray, List.set_cons_zero, List.set_cons_succ]
              refine wpAnyH_take (i := 8) (oi := { dst := some 73, op := Go.Op.load 3 (Go.Operand.tmp 72), type := 3, pos := "laws.go:4219", after := #[{ on := 7, ground := Go.Ground.data }, { on := 6, ground := Go.Ground.guard }], guard := some (6, false) }) (v := ?_) rfl (by kernel_rfl) (by kernel_rfl) (by kernel_rfl) (fun _ _ _ h => h) (Or.inl ⟨by rfl, ?_⟩) (by assumption) ?_
              rotate_left
              · (intro w hSw; (try dsimp only at hSw); go_simp; try with_reducible rfl)
              try simp only [Act.put, List.setIfInBounds_toArray, List.set_cons_zero, List.set_cons_succ]
              refine wpAnyH_take (i := 9) (oi := { dst := some 74, op := Go.Op.binOp Go.BinOp.eql 3 (Go.Operand.tmp 73) (Go.Operand.const (Go.Value.int Go.IntKind.i64 0)) 3, type := 4, pos := "laws.go:4219", after := #[{ on := 8, ground := Go.Ground.data }, { on := 6, ground := Go.Ground.guard }], guard := some (6, false) }) (v := ?_) rfl (by kernel_rfl) (by kernel_rfl) (by kernel_rfl) (fun _ _ _ h => h) (Or.inl ⟨by rfl, ?_⟩) (by assumption) ?_
              rotate_left
              · (intro w hSw; (try dsimp only at hSw); go_simp; try with_reducible rfl)
              try simp only [Act.put, List.setIfInBounds_toArray, List.set_cons_zero, List.set_cons_succ]
              refine wpAnyH_take (i := 10) (oi := { dst := some 75, op := Go.Op.move (Go.Operand.tmp 74), type := 4, pos := "laws.go:4219", after := #[{ on := 9, ground := Go.Ground.data }, { on := 6, ground := Go.Ground.chain }, { on := 6, ground := Go.Ground.guard }], guard := some (6, false) }) (v := ?_) rfl (by kernel_rfl) (by kernel_rfl) (by kernel_rfl) (fun _ _ _ h => h) (Or.inl ⟨by rfl, ?_⟩) (by assumption) ?_
              rotate_left
              · (intro w hSw; (try dsimp only at hSw); go_simp; try with_reducible rfl)
              try simp only [Act.put, List.setIfInBounds_toArray, List.set_cons_zero, List.set_cons_succ]
              refine wpAnyH_take (i := 11) (oi := { dst := some 76, op := Go.Op.load 26 (Go.Operand.tmp 11), type := 26, pos := "laws.go:4219", after := #[{ on := 10, ground := Go.Ground.guard }], guard := some (10, true) }) (v := undef) rfl (by kernel_rfl) (by kernel_rfl) (by kernel_rfl) (fun _ _ _ h => h) (Or.inr ⟨by rfl, rfl⟩) (by assumption) ?_
              try simp only [Act.put, List.setIfInBounds_toArray, List.set_cons_zero, List.set_cons_succ]
              refine wpAnyH_take (i := 12) (oi := { dst := some 77, op := Go.Op.call { callee := Go.Callee.value (Go.Operand.func 23), args := #[Go.Operand.const (Go.Value.int Go.IntKind.i64 (-1000))], argTypes := #[3] }, type := 26, pos := "laws.go:4219", after := #[{ on := 10, ground := Go.Ground.chain }, { on := 10, ground := Go.Ground.guard }], guard := some (10, true) }) (v := undef) rfl (by kernel_rfl) (by kernel_rfl) (by kernel_rfl) (fun _ _ _ h => h) (Or.inr ⟨by rfl, rfl⟩) (by assumption) ?_
              try simp only [Act.put, List.setIfInBounds_toArray, List.set_cons_zero, List.set_cons_succ]
              refine wpAnyH_take (i := 13) (oi := { dst := some 78, op := Go.Op.binOp Go.BinOp.eql 26 (Go.Operand.tmp 76) (Go.Operand.tmp 77) 26, type := 4, pos := "laws.go:4219", after := #[{ on := 11, ground := Go.Ground.data }, { on := 12, ground := Go.Ground.data }, { on := 10, ground := Go.Ground.guard }], guard := some (10, true) }) (v := undef) rfl (by kernel_rfl) (by kernel_rfl) (by kernel_rfl) (fun _ _ _ h => h) (Or.inr ⟨by rfl, rfl⟩) (by assumption) ?_
              try simp only [Act.put, List.setIfInBounds_toArray, List.set_cons_zero, List.set_cons_succ]
              refine wpAnyH_take (i := 14) (oi := { dst := some 79, op := Go.Op.pick (Go.Operand.tmp 75) (Go.Operand.tmp 78) (Go.Operand.const (Go.Value.bool false)), type := 4, pos := "laws.go:4219", after := #[{ on := 10, ground := Go.Ground.data }, { on := 13, ground := Go.Ground.data }, { on := 6, ground := Go.Ground.guard }], guard := some (6, false) }) (v := ?_) rfl (by kernel_rfl) (by kernel_rfl) (by kernel_rfl) (fun _ _ _ h => h) (Or.inl ⟨by rfl, ?_⟩) (by assumption) ?_
              rotate_left
              · (intro w hSw; (try dsimp only at hSw); go_simp; try with_reducible rfl)
              try simp only [Act.put, List.setIfInBounds_toArray, List.set_cons_zero, List.set_cons_succ]
              refine wpAnyH_take (i := 15) (oi := { dst := some 80, op := Go.Op.pick (Go.Operand.tmp 71) (Go.Operand.const (Go.Value.bool true)) (Go.Operand.tmp 79), type := 4, pos := "laws.go:4219", after := #[{ on := 6, ground := Go.Ground.data }, { on := 14, ground := Go.Ground.data }], guard := none }) (v := ?_) rfl (by kernel_rfl) (by kernel_rfl) (by kernel_rfl) (fun _ _ _ h => h) (Or.inl ⟨by rfl, ?_⟩) (by assumption) ?_
              rotate_left
              · (intro w hSw; (try dsimp only at hSw); go_simp; try with_reducible rfl)
              try simp only [Act.put, List.setIfInBounds_toArray, List.set_cons_zero, List.set_cons_succ]
              refine wpAnyH_take (i := 16) (oi := { dst := some 81, op := Go.Op.move (Go.Operand.tmp 80), type := 4, pos := "laws.go:4219", after := #[{ on := 15, ground := Go.Ground.data }, { on := 12, ground := Go.Ground.chain }], guard := none }) (v := ?_) rfl (by kernel_rfl) (by kernel_rfl) (by kernel_rfl) (fun _ _ _ h => h) (Or.inl ⟨by rfl, ?_⟩) (by assumption) ?_
              rotate_left
              · (intro w hSw; (try dsimp only at hSw); go_simp; try with_reducible rfl)
              try simp only [Act.put, List.setIfInBounds_toArray, List.set_cons_zero, List.set_cons_succ]
              refine wpAnyH_take (i := 17) (oi := { dst := some 82, op := Go.Op.load 26 (Go.Operand.tmp 11), type := 26, pos := "laws.go:4219", after := #[{ on := 16, ground := Go.Ground.guard }], guard := some (16, false) }) (v := ?_) rfl (by kernel_rfl) (by kernel_rfl) (by kernel_rfl) (fun _ _ _ h => h) (Or.inl ⟨by rfl, ?_⟩) (by assumption) ?_
              rotate_left
              · (intro w hSw; (try dsimp only at hSw); go_simp; try with_reducible rfl)
              try simp only [Act.put, List.setIfInBounds_toArray, List.set_cons_zero, List.set_cons_succ]
              refine wpAnyH_take (i := 18) (oi := { dst := some 83, op := Go.Op.load 26 (Go.Operand.tmp 5), type := 26, pos := "laws.go:4219", after := #[{ on := 16, ground := Go.Ground.guard }], guard := some (16, false) }) (v := ?_) rfl (by kernel_rfl) (by kernel_rfl) (by kernel_rfl) (fun _ _ _ h => h) (Or.inl ⟨by rfl, ?_⟩) (by assumption) ?_
              rotate_left
              · (intro w hSw; (try dsimp only at hSw); go_simp; try with_reducible rfl)
              try simp only [Act.put, List.setIfInBounds_toArray, List.set_cons_zero, List.set_cons_succ]
              refine wpAnyH_ready (rs := [19]) (by kernel_rfl) (by simp) ?_
              refine AllReadyH.cons (o := { dst := some 84, op := Go.Op.call { callee := Go.Callee.value (Go.Operand.func 18), args := #[Go.Operand.tmp 82, Go.Operand.tmp 83], argTypes := #[26, 26] }, type := 4, pos := "laws.go:4219", after := #[{ on := 17, ground := Go.Ground.data }, { on := 18, ground := Go.Ground.data }, { on := 16, ground := Go.Ground.chain }, { on := 16, ground := Go.Ground.guard }], guard := some (16, false) }) rfl (fun K hK => ?_) AllReadyH.nil
              go_simp
              refine (c_implFracLess N' D' N D _).mono ?_
              rintro e w7 ⟨he, hb⟩
              rw [HE.out] at he
              subst he
              have hS := five_below (five_drew HS7.out) hb
              clear hb
              go_wp2_with fail
              refine hK.out _ _ hS (fun hHeld => ?_)
              clear hK K
              try simp only [Act.put, List.setIfInBounds_toArray, List.set_cons_zero, List.set_cons_succ]
              refine wpAnyH_take (i := 20) (oi := { dst := some 85, op := Go.Op.pick (Go.Operand.tmp 81) (Go.Operand.const (Go.Value.bool true)) (Go.Operand.tmp 84), type := 4, pos := "laws.go:4219", after := #[{ on := 16, ground := Go.Ground.data }, { on := 19, ground := Go.Ground.data }], guard := none }) (v := ?_) rfl (by kernel_rfl) (by kernel_rfl) (by kernel_rfl) (fun _ _ _ h => h) (Or.inl ⟨by rfl, ?_⟩) (by assumption) ?_
              rotate_left
              · (intro w hSw; (try dsimp only at hSw); go_simp; try with_reducible rfl)
              try simp only [Act.put, List.setIfInBounds_toArray, List.set_cons_zero, List.set_cons_succ]
              refine wpAnyH_take (i := 21) (oi := { dst := some 2, op := Go.Op.assign (Go.Operand.tmp 85), type := 4, pos := "laws.go:4219", after := #[{ on := 20, ground := Go.Ground.data }, { on := 19, ground := Go.Ground.chain }, { on := 0, ground := Go.Ground.phase }, { on := 1, ground := Go.Ground.phase }, { on := 2, ground := Go.Ground.phase }, { on := 3, ground := Go.Ground.phase }, { on := 4, ground := Go.Ground.phase }, { on := 5, ground := Go.Ground.phase }, { on := 6, ground := Go.Ground.phase }, { on := 7, ground := Go.Ground.phase }, { on := 8, ground := Go.Ground.phase }, { on := 9, ground := Go.Ground.phase }, { on := 10, ground := Go.Ground.phase }, { on := 11, ground := Go.Ground.phase }, { on := 12, ground := Go.Ground.phase }, { on := 13, ground := Go.Ground.phase }, { on := 14, ground := Go.Ground.phase }, { on := 15, ground := Go.Ground.phase }, { on := 16, ground := Go.Ground.phase }, { on := 17, ground := Go.Ground.phase }, { on := 18, ground := Go.Ground.phase }, { on := 19, ground := Go.Ground.phase }, { on := 20, ground := Go.Ground.phase }], guard := none }) (v := ?_) rfl (by kernel_rfl) (by kernel_rfl) (by kernel_rfl) (fun _ _ _ h => h) (Or.inl ⟨by rfl, ?_⟩) (by assumption) ?_
              rotate_left
              · (intro w hSw; (try dsimp only at hSw); go_simp; try with_reducible rfl)
              try simp only [Act.put, List.setIfInBounds_toArray, List.set_cons_zero, List.set_cons_succ]
              refine wpAnyH_done (by kernel_rfl) ?_ _
              go_wp2
              go_ret
              exact ⟨rfl, five_end hS⟩
        · have HO2 := Lib.hid hok
          clear hok
          go_wp2_with fail
          go_region_held3 (fun W => (W.cell? ⟨w1.heap.size, 0, none⟩ = some (.int .i64 a) ∧ W.cell? ⟨w1.heap.size, 1, none⟩ = some (.int .i64 h) ∧ W.cell? ⟨w1.heap.size + 1, 0, none⟩ = some (.int .i64 sn) ∧ W.cell? ⟨w1.heap.size + 1, 1, none⟩ = some (.int .i64 sd) ∧ W.cell? ⟨w2.heap.size, 0, none⟩ = some (.int .i64 N) ∧ W.cell? ⟨w2.heap.size, 1, none⟩ = some (.int .i64 D)) ∧ Below w.heap.size w W) (first | exact six2_alloc HS0.out _ | exact six2_drew (six2_alloc HS0.out _) | assumption | exact six2_alloc (by assumption) _ | exact six2_set (by assumption) hY _ _) (first | (go_at_call 25; (with_reducible refine (c_implFracAdd sn sd 1 1 _).mono ?_); intro e w5 hp; obtain ⟨rfl, hb⟩ := HO.out _ _ _ hp; (first | (have hX := blk_n1 hb; obtain ⟨q0, q1, q2, q3⟩ := hX.two; (first | have hY := six2_lt hS | have hY := six2_lt HS0.out)) | (have hX := blk_b0 hX hb; obtain ⟨q0, q1, q2, q3⟩ := hX.two) | skip); have hS := six2_below (by assumption) hb; clear hb hp) | (go_at_call 23; (with_reducible refine (c_frac 1 _).mono ?_); rintro e w5 ⟨rfl, hb⟩; (first | (have hX := blk_n2d hb; obtain ⟨q0, q1, q2, q3⟩ := hX.two; have hY := six2_lt1 HS0.out) | skip); have hS := six2_below (by assumption) hb; clear hb))
          all_goals
            go_wp2_with fail
            refine (c_implWaterDelta a h t1 t2 _).mono ?_
            intro e w6 hp
            obtain ⟨rfl, hb⟩ := op_bad HO2.out hp
            have hS6 := six2_below (by assumption) hb
            clear hb hp
            have HS6 := Lib.hid hS6
            clear hS6
            go_wp2_with fail
            go_quiet (fail)
            go_wp2
            go_ret
            exact ⟨rfl, below_drewN (six2_end (six2_alloc HS6.out _))⟩
      · have HO := Lib.hid hok
        have HO2 := Lib.hid (show okO (vD a h 0 0) (dX a h 0 0) (a * 0) = false by simp [okO, vD, vF])
        clear hok
        go_wp2_with fail
        go_region_held3 (fun W => (W.cell? ⟨w1.heap.size, 0, none⟩ = some (.int .i64 a) ∧ W.cell? ⟨w1.heap.size, 1, none⟩ = some (.int .i64 h) ∧ W.cell? ⟨w1.heap.size + 1, 0, none⟩ = some (.int .i64 sn) ∧ W.cell? ⟨w1.heap.size + 1, 1, none⟩ = some (.int .i64 sd) ∧ W.cell? ⟨w2.heap.size, 0, none⟩ = some (.int .i64 N) ∧ W.cell? ⟨w2.heap.size, 1, none⟩ = some (.int .i64 D)) ∧ Below w.heap.size w W) (first | exact six2_alloc HS0.out _ | exact six2_drew (six2_alloc HS0.out _) | assumption | exact six2_alloc (by assumption) _ | exact six2_set (by assumption) hY _ _) (first | (go_at_call 25; (with_reducible refine (c_implFracAdd sn sd 1 1 _).mono ?_); intro e w5 hp; obtain ⟨rfl, hb⟩ := op_bad HO.out hp; (first | (have hX := blk_n1 hb; obtain ⟨q0, q1, q2, q3⟩ := hX.two; (first | have hY := six2_lt hS | have hY := six2_lt HS0.out)) | (have hX := blk_b0 hX hb; obtain ⟨q0, q1, q2, q3⟩ := hX.two) | skip); have hS := six2_below (by assumption) hb; clear hb hp) | (go_at_call 23; (with_reducible refine (c_frac 1 _).mono ?_); rintro e w5 ⟨rfl, hb⟩; (first | (have hX := blk_n2d hb; obtain ⟨q0, q1, q2, q3⟩ := hX.two; have hY := six2_lt1 HS0.out) | skip); have hS := six2_below (by assumption) hb; clear hb))
        all_goals
          go_wp2_with fail
          refine (c_implWaterDelta a h 0 0 _).mono ?_
          intro e w6 hp
          obtain ⟨rfl, hb⟩ := op_bad HO2.out hp
          have hS6 := six2_below (by assumption) hb
          clear hb hp
          have HS6 := Lib.hid hS6
          clear hS6
          go_wp2_with fail
          go_quiet (fail)
          go_wp2
          go_ret
          exact ⟨rfl, below_drewN (six2_end (six2_alloc HS6.out _))⟩
    · have HO := Lib.hid hok
      clear hok
      go_wp2_with fail
      refine (c_implWaterDelta _ _ _ _ _).mono ?_
      intro e w2 hp
      obtain ⟨rfl, hb⟩ := op_bad HO.out hp
      clear hp
      have J2 := Lib.hid (blk_n2 hb)
      have K2 := Lib.hid (blk_n2' hb)
      have hB2 := bel2 hB1 hb
      have zJ2 := J2.out.lt
      have zK2 := K2.out.lt
      obtain ⟨cJ2, dJ2, _, _⟩ := J2.out.two
      obtain ⟨cK2, dK2, _, _⟩ := K2.out.two
      clear hb
      go_wp2_with fail
      refine (c_specWaterDelta _ _ _ _ _).mono ?_
      intro e w3 hp
      obtain ⟨rfl, hb⟩ := op_bad HO.out hp
      clear hp
      have J3 := Lib.hid (blk_b1 J2.out hb)
      have K3 := Lib.hid (blk_b1 K2.out hb)
      have O3 := Lib.hid (blk_n1 hb)
      have hB3 := bel1 hB2 hb
      have zJ3 := J3.out.lt
      have zK3 := K3.out.lt
      have zO3 := O3.out.lt
      obtain ⟨cO3, dO3, _, _⟩ := O3.out.two
      clear hb
      go_wp2
      go_ret
      exact ⟨rfl, hB3.alloc hB3.size _⟩
end Go.Proofs.Ytbbipieadjggkaa
