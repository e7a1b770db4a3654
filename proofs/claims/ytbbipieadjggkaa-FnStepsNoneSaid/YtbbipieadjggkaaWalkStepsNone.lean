/-
  The walk of the law FnStepsNone: it returns true and writes nothing that was there.
-/
import Derived.Test.YtbbipieadjggkaaStepsWords
import Derived.Test.YtbbipieadjggkaaDrawSteps
import Derived.Test.YtbbipieadjggkaaFracMulImpl
import Derived.Test.YtbbipieadjggkaaFracDivImpl
import Derived.Deep.RegionHeld3
namespace Go.Proofs.Ytbbipieadjggkaa
open Go.RowKit

set_option maxHeartbeats 8000000 in
theorem walk_FnStepsNone (A : Option Addr) (n c : Nat) (w : World) (h : RdB w A n) (hn : n ≤ maxLen) (hc : n ≤ c) :
    Calls Try.prog 6 #[.slice A n c] w fun e w' => e = .returned (.bool true) ∧ Below w.heap.size w w' := by
  unfold maxLen at hn
  have HB := Lib.hid h
  clear h
  by_cases hbig : 1048576 < n
  · go_enter Try.func6, Try.ntmps6
    go_wp2
    go_ret
    exact ⟨rfl, Below.refl _ _⟩
  · have hd1 : decide ((1048576 : Int) < (n : Int)) = false := by simp; omega
    go_enter Try.func6, Try.ntmps6
    go_wp2_with fail
    refine (c_DrawWaterSteps _ _ _ _ HB.out (by omega) hc).mono ?_
    rintro e w1 ⟨rn, rd, fn, fd, nn, rfl, _, _, _, _, _, _, _, _, _, _, hB1⟩
    rcases Bool.eq_false_or_eq_true (stV rn rd fn fd nn) with hok | hok
    · obtain ⟨m, rfl, hm, hr, hf, ho⟩ := stV_yes hok
      obtain ⟨N, hN⟩ : ∃ x, stN rn rd fn fd m = x := ⟨_, rfl⟩
      obtain ⟨D, hD⟩ : ∃ x, stD rn rd fn fd m = x := ⟨_, rfl⟩
      have HN := Lib.hid hN
      have HD := Lib.hid hD
      have HR := Lib.hid hr
      have HF := Lib.hid hf
      have HO := Lib.hid ho
      have HVF := Lib.hid (show vF N D = true by rw [← hN, ← hD]; exact st_vF hr ho)
      clear hok hr hf ho hN hD
      go_wp2_with fail
      refine (c_implWaterSteps _ _ _ _ _ _).mono ?_
      intro e w2 hp
      obtain ⟨rfl, hb⟩ := st_at rfl hm HR.out HF.out HO.out HN.out HD.out hp
      clear hp
      have J2 := Lib.hid (blk_n2 hb)
      have K2 := Lib.hid (blk_n2' hb)
      have hB2 := bel2 hB1 hb
      have zJ2 := J2.out.lt
      have zK2 := K2.out.lt
      obtain ⟨cJ2, dJ2, _, _⟩ := J2.out.two
      obtain ⟨cK2, dK2, _, _⟩ := K2.out.two
      clear hb
      go_wp2_with fail
      refine (c_specWaterSteps _ _ _ _ _ _).mono ?_
      intro e w3 hp
      obtain ⟨rfl, hb⟩ := st_at rfl hm HR.out HF.out HO.out HN.out HD.out hp
      clear hp
      have J3 := Lib.hid (blk_b1 J2.out hb)
      have K3 := Lib.hid (blk_b1 K2.out hb)
      have O3 := Lib.hid (blk_n1 hb)
      have hB3 := bel1 hB2 hb
      have zJ3 := J3.out.lt
      have zK3 := K3.out.lt
      have zO3 := O3.out.lt
      obtain ⟨cJ3, dJ3, _, _⟩ := J3.out.two
      obtain ⟨cK3, dK3, _, _⟩ := K3.out.two
      obtain ⟨cO3, dO3, _, _⟩ := O3.out.two
      clear hb
      have HS0 := Lib.hid (box_new (t := 26) (x := N) (y := D) (box_cons (box_cons (box_cons (box_mk hB3) K3.out) J3.out) O3.out))
      have HD1 := Lib.hid (st_one HR.out m)
      have HDP := Lib.hid (vF_yes HVF.out).1
      rcases Nat.eq_zero_or_pos m with hz | hz
      · subst hz
        have HZ := Lib.hid (show stO rn rd 0 1 0 = true ∧ stN rn rd 0 1 0 = rn ∧ stD rn rd 0 1 0 = rd from ⟨rfl, rfl, rfl⟩)
        have hgt : decide (0 < D) = true := by have := HDP.out; simp; omega
        go_wp2_with fail
        apply way_cut (B := fun g W => Boxes w ((g, rn, rd) :: [(w3.heap.size, N, D), (w2.heap.size, N, D), (w1.heap.size, rn, rd), (w1.heap.size + 1, fn, fd)]) W)
        · intro REST
          have HREST := Lib.hid REST
          clear REST
          go_region_held3 (fun W => ((W.cell? ⟨w3.heap.size, 0, none⟩ = some (.int .i64 N) ∧ W.cell? ⟨w3.heap.size, 1, none⟩ = some (.int .i64 D)) ∧ (W.cell? ⟨w2.heap.size, 0, none⟩ = some (.int .i64 N) ∧ W.cell? ⟨w2.heap.size, 1, none⟩ = some (.int .i64 D)) ∧ (W.cell? ⟨w1.heap.size, 0, none⟩ = some (.int .i64 rn) ∧ W.cell? ⟨w1.heap.size, 1, none⟩ = some (.int .i64 rd)) ∧ (W.cell? ⟨w1.heap.size + 1, 0, none⟩ = some (.int .i64 fn) ∧ W.cell? ⟨w1.heap.size + 1, 1, none⟩ = some (.int .i64 fd)) ∧ True) ∧ Below w.heap.size w W) (first | exact HS0.out | exact box_drew (HS0.out) | assumption | exact box_alloc (bs := [(w3.heap.size, N, D), (w2.heap.size, N, D), (w1.heap.size, rn, rd), (w1.heap.size + 1, fn, fd)]) (by assumption) _ | exact box_set (bs := [(w3.heap.size, N, D), (w2.heap.size, N, D), (w1.heap.size, rn, rd), (w1.heap.size + 1, fn, fd)]) (by assumption) hY _ _) (first | (go_at_call 20; (with_reducible refine (c_implWaterSteps rn rd 1 1 _ _).mono ?_); intro e w5 hp; obtain ⟨rfl, hb⟩ := st_at (m := 0) rfl hm HR.out (by decide) HD1.out.1 HD1.out.2.1 HD1.out.2.2 hp; clear hp; (first | (have hX := blk_n1 hb; obtain ⟨q0, q1, q2, q3⟩ := hX.two; have hY := box_lt hS) | (have hX := blk_b0 hX hb; obtain ⟨q0, q1, q2, q3⟩ := hX.two) | skip); have hS := box_below (bs := [(w3.heap.size, N, D), (w2.heap.size, N, D), (w1.heap.size, rn, rd), (w1.heap.size + 1, fn, fd)]) (by assumption) hb; clear hb) | (go_at_call 23; (with_reducible refine (c_frac 1 _).mono ?_); rintro e w5 ⟨rfl, hb⟩; (first | (have hX := blk_n2d hb; obtain ⟨q0, q1, q2, q3⟩ := hX.two; have hY := box_lt_a HS0.out) | skip); have hS := box_below (bs := [(w3.heap.size, N, D), (w2.heap.size, N, D), (w1.heap.size, rn, rd), (w1.heap.size + 1, fn, fd)]) (by assumption) hb; clear hb))
          all_goals
            first
            | (obtain ⟨g, hg⟩ : ∃ g, g = w5.heap.size := ⟨_, rfl⟩
               rw [← hg]
               refine absW (S := fun W => Boxes w ((g, rn, rd) :: [(w3.heap.size, N, D), (w2.heap.size, N, D), (w1.heap.size, rn, rd), (w1.heap.size + 1, fn, fd)]) W) ?_ (by rw [hg]; exact box_new (bs := [(w3.heap.size, N, D), (w2.heap.size, N, D), (w1.heap.size, rn, rd), (w1.heap.size + 1, fn, fd)]) hS)
               intro Wz hz
               exact HREST.out g Wz hz)
            | (obtain ⟨g, hg⟩ := blk_name hX
               rw [← hg]
               refine absW (S := fun W => Boxes w ((g, rn, rd) :: [(w3.heap.size, N, D), (w2.heap.size, N, D), (w1.heap.size, rn, rd), (w1.heap.size + 1, fn, fd)]) W) ?_ (by rw [hg]; exact box_upd (bs := [(w3.heap.size, N, D), (w2.heap.size, N, D), (w1.heap.size, rn, rd), (w1.heap.size + 1, fn, fd)]) (by assumption) hX)
               intro Wz hz
               exact HREST.out g Wz hz)
        intro g5 W5 h5
        have HS5 := Lib.hid h5
        clear h5
        go_wp2_with fail
        apply way_cut (B := fun g W => Boxes w ((g, rn, rd) :: [(g5, rn, rd), (w3.heap.size, N, D), (w2.heap.size, N, D), (w1.heap.size, rn, rd), (w1.heap.size + 1, fn, fd)]) W)
        · intro REST
          have HREST := Lib.hid REST
          clear REST
          go_region_held3 (fun W => ((W.cell? ⟨g5, 0, none⟩ = some (.int .i64 rn) ∧ W.cell? ⟨g5, 1, none⟩ = some (.int .i64 rd)) ∧ (W.cell? ⟨w3.heap.size, 0, none⟩ = some (.int .i64 N) ∧ W.cell? ⟨w3.heap.size, 1, none⟩ = some (.int .i64 D)) ∧ (W.cell? ⟨w2.heap.size, 0, none⟩ = some (.int .i64 N) ∧ W.cell? ⟨w2.heap.size, 1, none⟩ = some (.int .i64 D)) ∧ (W.cell? ⟨w1.heap.size, 0, none⟩ = some (.int .i64 rn) ∧ W.cell? ⟨w1.heap.size, 1, none⟩ = some (.int .i64 rd)) ∧ (W.cell? ⟨w1.heap.size + 1, 0, none⟩ = some (.int .i64 fn) ∧ W.cell? ⟨w1.heap.size + 1, 1, none⟩ = some (.int .i64 fd)) ∧ True) ∧ Below w.heap.size w W) (first | exact HS5.out | exact box_drew (HS5.out) | assumption | exact box_alloc (bs := [(g5, rn, rd), (w3.heap.size, N, D), (w2.heap.size, N, D), (w1.heap.size, rn, rd), (w1.heap.size + 1, fn, fd)]) (by assumption) _ | exact box_set (bs := [(g5, rn, rd), (w3.heap.size, N, D), (w2.heap.size, N, D), (w1.heap.size, rn, rd), (w1.heap.size + 1, fn, fd)]) (by assumption) hY _ _) (first | (go_at_call 20; (with_reducible refine (c_implWaterSteps rn rd 0 1 _ _).mono ?_); intro e w5 hp; obtain ⟨rfl, hb⟩ := st_at (m := 0) rfl hm HR.out (by decide) HZ.out.1 HZ.out.2.1 HZ.out.2.2 hp; clear hp; (first | (have hX := blk_n1 hb; obtain ⟨q0, q1, q2, q3⟩ := hX.two; have hY := box_lt hS) | (have hX := blk_b0 hX hb; obtain ⟨q0, q1, q2, q3⟩ := hX.two) | skip); have hS := box_below (bs := [(g5, rn, rd), (w3.heap.size, N, D), (w2.heap.size, N, D), (w1.heap.size, rn, rd), (w1.heap.size + 1, fn, fd)]) (by assumption) hb; clear hb) | (go_at_call 23; (with_reducible refine (c_frac 0 _).mono ?_); rintro e w5 ⟨rfl, hb⟩; (first | (have hX := blk_n1d hb; obtain ⟨q0, q1, q2, q3⟩ := hX.two; have hY := box_lt HS5.out) | skip); have hS := box_below (bs := [(g5, rn, rd), (w3.heap.size, N, D), (w2.heap.size, N, D), (w1.heap.size, rn, rd), (w1.heap.size + 1, fn, fd)]) (by assumption) hb; clear hb))
          all_goals
            first
            | (obtain ⟨g, hg⟩ : ∃ g, g = w5.heap.size := ⟨_, rfl⟩
               rw [← hg]
               refine absW (S := fun W => Boxes w ((g, rn, rd) :: [(g5, rn, rd), (w3.heap.size, N, D), (w2.heap.size, N, D), (w1.heap.size, rn, rd), (w1.heap.size + 1, fn, fd)]) W) ?_ (by rw [hg]; exact box_new (bs := [(g5, rn, rd), (w3.heap.size, N, D), (w2.heap.size, N, D), (w1.heap.size, rn, rd), (w1.heap.size + 1, fn, fd)]) hS)
               intro Wz hz
               exact HREST.out g Wz hz)
            | (obtain ⟨g, hg⟩ := blk_name hX
               rw [← hg]
               refine absW (S := fun W => Boxes w ((g, rn, rd) :: [(g5, rn, rd), (w3.heap.size, N, D), (w2.heap.size, N, D), (w1.heap.size, rn, rd), (w1.heap.size + 1, fn, fd)]) W) ?_ (by rw [hg]; exact box_upd (bs := [(g5, rn, rd), (w3.heap.size, N, D), (w2.heap.size, N, D), (w1.heap.size, rn, rd), (w1.heap.size + 1, fn, fd)]) (by assumption) hX)
               intro Wz hz
               exact HREST.out g Wz hz)
        intro g6 W6 h6
        have HS6 := Lib.hid h6
        clear h6
        go_wp2_with fail
        refine wp_region_noPanic ?_
        refine wp_region_held_drew (S := (fun W => ((W.cell? ⟨g6, 0, none⟩ = some (.int .i64 rn) ∧ W.cell? ⟨g6, 1, none⟩ = some (.int .i64 rd)) ∧ (W.cell? ⟨g5, 0, none⟩ = some (.int .i64 rn) ∧ W.cell? ⟨g5, 1, none⟩ = some (.int .i64 rd)) ∧ (W.cell? ⟨w3.heap.size, 0, none⟩ = some (.int .i64 N) ∧ W.cell? ⟨w3.heap.size, 1, none⟩ = some (.int .i64 D)) ∧ (W.cell? ⟨w2.heap.size, 0, none⟩ = some (.int .i64 N) ∧ W.cell? ⟨w2.heap.size, 1, none⟩ = some (.int .i64 D)) ∧ (W.cell? ⟨w1.heap.size, 0, none⟩ = some (.int .i64 rn) ∧ W.cell? ⟨w1.heap.size, 1, none⟩ = some (.int .i64 rd)) ∧ (W.cell? ⟨w1.heap.size + 1, 0, none⟩ = some (.int .i64 fn) ∧ W.cell? ⟨w1.heap.size + 1, 1, none⟩ = some (.int .i64 fd)) ∧ True) ∧ Below w.heap.size w W)) (by kernel_rfl) (box_drew HS6.out) (fun hH0 => ?_)
        refine wpAnyH_take (i := 0) (oi := { dst := some 71, op := Go.Op.move (Go.Operand.tmp 11), type := 4, pos := "laws.go:4270", after := #[], guard := none }) (v := ?_) rfl (by kernel_rfl) (by kernel_rfl) (by kernel_rfl) (fun _ _ _ h => h) (Or.inl ⟨by rfl, ?_⟩) (by assumption) ?_
        rotate_left
        · (intro w hSw; (try dsimp only at hSw); go_simp; try with_reducible rfl)
        try simp only [Act.put, List.setIfInBounds_toArray, List.set_cons_zero, List.set_cons_succ]
        refine wpAnyH_take (i := 1) (oi := { dst := some 72, op := Go.Op.move (Go.Operand.tmp 71), type := 4, pos := "laws.go:4270", after := #[{ on := 0, ground := Go.Ground.data }], guard := none }) (v := ?_) rfl (by kernel_rfl) (by kernel_rfl) (by kernel_rfl) (fun _ _ _ h => h) (Or.inl ⟨by rfl, ?_⟩) (by assumption) ?_
        rotate_left
        · (intro w hSw; (try dsimp only at hSw); go_simp; try with_reducible rfl)
        try simp only [Act.put, List.setIfInBounds_toArray, List.set_cons_zero, List.set_cons_succ]
        refine wpAnyH_take (i := 2) (oi := { dst := some 73, op := Go.Op.move (Go.Operand.tmp 13), type := 4, pos := "laws.go:4270", after := #[{ on := 1, ground := Go.Ground.guard }], guard := some (1, true) }) (v := ?_) rfl (by kernel_rfl) (by kernel_rfl) (by kernel_rfl) (fun _ _ _ h => h) (Or.inl ⟨by rfl, ?_⟩) (by assumption) ?_
        rotate_left
        · (intro w hSw; (try dsimp only at hSw); go_simp; try with_reducible rfl)
        try simp only [Act.put, List.setIfInBounds_toArray, List.set_cons_zero, List.set_cons_succ]
        refine wpAnyH_take (i := 3) (oi := { dst := some 74, op := Go.Op.pick (Go.Operand.tmp 72) (Go.Operand.tmp 73) (Go.Operand.const (Go.Value.bool false)), type := 4, pos := "laws.go:4270", after := #[{ on := 1, ground := Go.Ground.data }, { on := 2, ground := Go.Ground.data }], guard := none }) (v := ?_) rfl (by kernel_rfl) (by kernel_rfl) (by kernel_rfl) (fun _ _ _ h => h) (Or.inl ⟨by rfl, ?_⟩) (by assumption) ?_
        rotate_left
        · (intro w hSw; (try dsimp only at hSw); go_simp; try with_reducible rfl)
        try simp only [Act.put, List.setIfInBounds_toArray, List.set_cons_zero, List.set_cons_succ]
        refine wpAnyH_take (i := 4) (oi := { dst := some 75, op := Go.Op.move (Go.Operand.tmp 74), type := 4, pos := "laws.go:4270", after := #[{ on := 3, ground := Go.Ground.data }, { on := 1, ground := Go.Ground.chain }], guard := none }) (v := ?_) rfl (by kernel_rfl) (by kernel_rfl) (by kernel_rfl) (fun _ _ _ h => h) (Or.inl ⟨by rfl, ?_⟩) (by assumption) ?_
        rotate_left
        · (intro w hSw; (try dsimp only at hSw); go_simp; try with_reducible rfl)
        try simp only [Act.put, List.setIfInBounds_toArray, List.set_cons_zero, List.set_cons_succ]
        refine wpAnyH_take (i := 5) (oi := { dst := some 76, op := Go.Op.load 26 (Go.Operand.tmp 10), type := 26, pos := "laws.go:4270", after := #[{ on := 4, ground := Go.Ground.guard }], guard := some (4, true) }) (v := ?_) rfl (by kernel_rfl) (by kernel_rfl) (by kernel_rfl) (fun _ _ _ h => h) (Or.inl ⟨by rfl, ?_⟩) (by assumption) ?_
        rotate_left
        · (intro w hSw; (try dsimp only at hSw); go_simp; try with_reducible rfl)
        try simp only [Act.put, List.setIfInBounds_toArray, List.set_cons_zero, List.set_cons_succ]
        refine wpAnyH_take (i := 6) (oi := { dst := some 77, op := Go.Op.load 26 (Go.Operand.tmp 3), type := 26, pos := "laws.go:4270", after := #[{ on := 4, ground := Go.Ground.guard }], guard := some (4, true) }) (v := ?_) rfl (by kernel_rfl) (by kernel_rfl) (by kernel_rfl) (fun _ _ _ h => h) (Or.inl ⟨by rfl, ?_⟩) (by assumption) ?_
        rotate_left
        · (intro w hSw; (try dsimp only at hSw); go_simp; try with_reducible rfl)
        try simp only [Act.put, List.setIfInBounds_toArray, List.set_cons_zero, List.set_cons_succ]
        refine wpAnyH_take (i := 7) (oi := { dst := some 78, op := Go.Op.binOp Go.BinOp.eql 26 (Go.Operand.tmp 76) (Go.Operand.tmp 77) 26, type := 4, pos := "laws.go:4270", after := #[{ on := 5, ground := Go.Ground.data }, { on := 6, ground := Go.Ground.data }, { on := 4, ground := Go.Ground.guard }], guard := some (4, true) }) (v := ?_) rfl (by kernel_rfl) (by kernel_rfl) (by kernel_rfl) (fun _ _ _ h => h) (Or.inl ⟨by rfl, ?_⟩) (by assumption) ?_
        rotate_left
        · (intro w hSw; (try dsimp only at hSw); go_simp; try with_reducible rfl)
        try simp only [Act.put, List.setIfInBounds_toArray, List.set_cons_zero, List.set_cons_succ]
        refine wpAnyH_take (i := 8) (oi := { dst := some 79, op := Go.Op.pick (Go.Operand.tmp 75) (Go.Operand.tmp 78) (Go.Operand.const (Go.Value.bool false)), type := 4, pos := "laws.go:4270", after := #[{ on := 4, ground := Go.Ground.data }, { on := 7, ground := Go.Ground.data }], guard := none }) (v := ?_) rfl (by kernel_rfl) (by kernel_rfl) (by kernel_rfl) (fun _ _ _ h => h) (Or.inl ⟨by rfl, ?_⟩) (by assumption) ?_
        rotate_left
        · (intro w hSw; (try dsimp only at hSw); go_simp; try with_reducible rfl)
        try simp only [Act.put, List.setIfInBounds_toArray, List.set_cons_zero, List.set_cons_succ]
        refine wpAnyH_take (i := 9) (oi := { dst := some 80, op := Go.Op.move (Go.Operand.tmp 79), type := 4, pos := "laws.go:4270", after := #[{ on := 8, ground := Go.Ground.data }, { on := 4, ground := Go.Ground.chain }], guard := none }) (v := ?_) rfl (by kernel_rfl) (by kernel_rfl) (by kernel_rfl) (fun _ _ _ h => h) (Or.inl ⟨by rfl, ?_⟩) (by assumption) ?_
        rotate_left
        · (intro w hSw; (try dsimp only at hSw); go_simp; try with_reducible rfl)
        try simp only [Act.put, List.setIfInBounds_toArray, List.set_cons_zero, List.set_cons_succ]
        refine wpAnyH_take (i := 10) (oi := { dst := some 81, op := Go.Op.move (Go.Operand.tmp 5), type := 3, pos := "laws.go:4270", after := #[{ on := 9, ground := Go.Ground.guard }], guard := some (9, true) }) (v := ?_) rfl (by kernel_rfl) (by kernel_rfl) (by kernel_rfl) (fun _ _ _ h => h) (Or.inl ⟨by rfl, ?_⟩) (by assumption) ?_
        rotate_left
        · (intro w hSw; (try dsimp only at hSw); go_simp; try with_reducible rfl)
        try simp only [Act.put, List.setIfInBounds_toArray, List.set_cons_zero, List.set_cons_succ]
        refine wpAnyH_take (i := 11) (oi := { dst := some 82, op := Go.Op.binOp Go.BinOp.eql 3 (Go.Operand.tmp 81) (Go.Operand.const (Go.Value.int Go.IntKind.i64 0)) 3, type := 4, pos := "laws.go:4270", after := #[{ on := 10, ground := Go.Ground.data }, { on := 9, ground := Go.Ground.guard }], guard := some (9, true) }) (v := ?_) rfl (by kernel_rfl) (by kernel_rfl) (by kernel_rfl) (fun _ _ _ h => h) (Or.inl ⟨by rfl, ?_⟩) (by assumption) ?_
        rotate_left
        · (intro w hSw; (try dsimp only at hSw); go_simp; try with_reducible rfl)
        try simp only [Act.put, List.setIfInBounds_toArray, List.set_cons_zero, List.set_cons_succ]
        refine wpAnyH_take (i := 12) (oi := { dst := some 83, op := Go.Op.move (Go.Operand.tmp 82), type := 4, pos := "laws.go:4270", after := #[{ on := 11, ground := Go.Ground.data }, { on := 9, ground := Go.Ground.chain }, { on := 9, ground := Go.Ground.guard }], guard := some (9, true) }) (v := ?_) rfl (by kernel_rfl) (by kernel_rfl) (by kernel_rfl) (fun _ _ _ h => h) (Or.inl ⟨by rfl, ?_⟩) (by assumption) ?_
        rotate_left
        · (intro w hSw; (try dsimp only at hSw); go_simp; try with_reducible rfl)
        try simp only [Act.put, List.setIfInBounds_toArray, List.set_cons_zero, List.set_cons_succ]
        refine wpAnyH_take (i := 13) (oi := { dst := some 84, op := Go.Op.load 26 (Go.Operand.tmp 12), type := 26, pos := "laws.go:4270", after := #[{ on := 12, ground := Go.Ground.guard }], guard := some (12, false) }) (v := undef) rfl (by kernel_rfl) (by kernel_rfl) (by kernel_rfl) (fun _ _ _ h => h) (Or.inr ⟨by rfl, rfl⟩) (by assumption) ?_
        try simp only [Act.put, List.setIfInBounds_toArray, List.set_cons_zero, List.set_cons_succ]
        refine wpAnyH_take (i := 14) (oi := { dst := some 85, op := Go.Op.call { callee := Go.Callee.value (Go.Operand.func 23), args := #[Go.Operand.const (Go.Value.int Go.IntKind.i64 0)], argTypes := #[3] }, type := 26, pos := "laws.go:4270", after := #[{ on := 12, ground := Go.Ground.chain }, { on := 12, ground := Go.Ground.guard }], guard := some (12, false) }) (v := undef) rfl (by kernel_rfl) (by kernel_rfl) (by kernel_rfl) (fun _ _ _ h => h) (Or.inr ⟨by rfl, rfl⟩) (by assumption) ?_
        try simp only [Act.put, List.setIfInBounds_toArray, List.set_cons_zero, List.set_cons_succ]
        refine wpAnyH_take (i := 15) (oi := { dst := some 86, op := Go.Op.binOp Go.BinOp.eql 26 (Go.Operand.tmp 84) (Go.Operand.tmp 85) 26, type := 4, pos := "laws.go:4270", after := #[{ on := 13, ground := Go.Ground.data }, { on := 14, ground := Go.Ground.data }, { on := 12, ground := Go.Ground.guard }], guard := some (12, false) }) (v := undef) rfl (by kernel_rfl) (by kernel_rfl) (by kernel_rfl) (fun _ _ _ h => h) (Or.inr ⟨by rfl, rfl⟩) (by assumption) ?_
        try simp only [Act.put, List.setIfInBounds_toArray, List.set_cons_zero, List.set_cons_succ]
        refine wpAnyH_take (i := 16) (oi := { dst := some 87, op := Go.Op.pick (Go.Operand.tmp 83) (Go.Operand.const (Go.Value.bool true)) (Go.Operand.tmp 86), type := 4, pos := "laws.go:4270", after := #[{ on := 12, ground := Go.Ground.data }, { on := 15, ground := Go.Ground.data }, { on := 9, ground := Go.Ground.guard }], guard := some (9, true) }) (v := ?_) rfl (by kernel_rfl) (by kernel_rfl) (by kernel_rfl) (fun _ _ _ h => h) (Or.inl ⟨by rfl, ?_⟩) (by assumption) ?_
        rotate_left
        · (intro w hSw; (try dsimp only at hSw); go_simp; try with_reducible rfl)
        try simp only [Act.put, List.setIfInBounds_toArray, List.set_cons_zero, List.set_cons_succ]
        refine wpAnyH_take (i := 17) (oi := { dst := some 88, op := Go.Op.pick (Go.Operand.tmp 80) (Go.Operand.tmp 87) (Go.Operand.const (Go.Value.bool false)), type := 4, pos := "laws.go:4270", after := #[{ on := 9, ground := Go.Ground.data }, { on := 16, ground := Go.Ground.data }], guard := none }) (v := ?_) rfl (by kernel_rfl) (by kernel_rfl) (by kernel_rfl) (fun _ _ _ h => h) (Or.inl ⟨by rfl, ?_⟩) (by assumption) ?_
        rotate_left
        · (intro w hSw; (try dsimp only at hSw); go_simp; try with_reducible rfl)
        try simp only [Act.put, List.setIfInBounds_toArray, List.set_cons_zero, List.set_cons_succ]
        refine wpAnyH_take (i := 18) (oi := { dst := some 89, op := Go.Op.move (Go.Operand.tmp 88), type := 4, pos := "laws.go:4270", after := #[{ on := 17, ground := Go.Ground.data }, { on := 14, ground := Go.Ground.chain }], guard := none }) (v := ?_) rfl (by kernel_rfl) (by kernel_rfl) (by kernel_rfl) (fun _ _ _ h => h) (Or.inl ⟨by rfl, ?_⟩) (by assumption) ?_
        rotate_left
        · (intro w hSw; (try dsimp only at hSw); go_simp; try with_reducible rfl)
        try simp only [Act.put, List.setIfInBounds_toArray, List.set_cons_zero, List.set_cons_succ]
        refine wpAnyH_take (i := 19) (oi := { dst := some 90, op := Go.Op.fieldAddr 26 (Go.Operand.tmp 6) 1, type := 0, pos := "laws.go:4270", after := #[{ on := 18, ground := Go.Ground.guard }], guard := some (18, true) }) (v := ?_) rfl (by kernel_rfl) (by kernel_rfl) (by kernel_rfl) (fun _ _ _ h => h) (Or.inl ⟨by rfl, ?_⟩) (by assumption) ?_
        rotate_left
        · (intro w hSw; (try dsimp only at hSw); go_simp; try with_reducible rfl)
        try simp only [Act.put, List.setIfInBounds_toArray, List.set_cons_zero, List.set_cons_succ]
        refine wpAnyH_take (i := 20) (oi := { dst := some 91, op := Go.Op.load 3 (Go.Operand.tmp 90), type := 3, pos := "laws.go:4270", after := #[{ on := 19, ground := Go.Ground.data }, { on := 18, ground := Go.Ground.guard }], guard := some (18, true) }) (v := ?_) rfl (by kernel_rfl) (by kernel_rfl) (by kernel_rfl) (fun _ _ _ h => h) (Or.inl ⟨by rfl, ?_⟩) (by assumption) ?_
        rotate_left
        · (intro w hSw; (try dsimp only at hSw); go_simp; try with_reducible rfl)
        try simp only [Act.put, List.setIfInBounds_toArray, List.set_cons_zero, List.set_cons_succ]
        refine wpAnyH_take (i := 21) (oi := { dst := some 92, op := Go.Op.binOp Go.BinOp.gtr 3 (Go.Operand.tmp 91) (Go.Operand.const (Go.Value.int Go.IntKind.i64 0)) 3, type := 4, pos := "laws.go:4270", after := #[{ on := 20, ground := Go.Ground.data }, { on := 18, ground := Go.Ground.guard }], guard := some (18, true) }) (v := ?_) rfl (by kernel_rfl) (by kernel_rfl) (by kernel_rfl) (fun _ _ _ h => h) (Or.inl ⟨by rfl, ?_⟩) (by assumption) ?_
        rotate_left
        · (intro w hSw; (try dsimp only at hSw); go_simp; try with_reducible rfl)
        try simp only [Act.put, List.setIfInBounds_toArray, List.set_cons_zero, List.set_cons_succ]
        refine wpAnyH_take (i := 22) (oi := { dst := some 93, op := Go.Op.pick (Go.Operand.tmp 89) (Go.Operand.tmp 92) (Go.Operand.const (Go.Value.bool false)), type := 4, pos := "laws.go:4270", after := #[{ on := 18, ground := Go.Ground.data }, { on := 21, ground := Go.Ground.data }], guard := none }) (v := ?_) rfl (by kernel_rfl) (by kernel_rfl) (by kernel_rfl) (fun _ _ _ h => h) (Or.inl ⟨by rfl, ?_⟩) (by assumption) ?_
        rotate_left
        · (intro w hSw; (try dsimp only at hSw); go_simp; try with_reducible rfl)
        try simp only [Act.put, List.setIfInBounds_toArray, List.set_cons_zero, List.set_cons_succ]
        refine wpAnyH_take (i := 23) (oi := { dst := some 2, op := Go.Op.assign (Go.Operand.tmp 93), type := 4, pos := "laws.go:4270", after := #[{ on := 22, ground := Go.Ground.data }, { on := 18, ground := Go.Ground.chain }, { on := 0, ground := Go.Ground.phase }, { on := 1, ground := Go.Ground.phase }, { on := 2, ground := Go.Ground.phase }, { on := 3, ground := Go.Ground.phase }, { on := 4, ground := Go.Ground.phase }, { on := 5, ground := Go.Ground.phase }, { on := 6, ground := Go.Ground.phase }, { on := 7, ground := Go.Ground.phase }, { on := 8, ground := Go.Ground.phase }, { on := 9, ground := Go.Ground.phase }, { on := 10, ground := Go.Ground.phase }, { on := 11, ground := Go.Ground.phase }, { on := 12, ground := Go.Ground.phase }, { on := 13, ground := Go.Ground.phase }, { on := 14, ground := Go.Ground.phase }, { on := 15, ground := Go.Ground.phase }, { on := 16, ground := Go.Ground.phase }, { on := 17, ground := Go.Ground.phase }, { on := 18, ground := Go.Ground.phase }, { on := 19, ground := Go.Ground.phase }, { on := 20, ground := Go.Ground.phase }, { on := 21, ground := Go.Ground.phase }, { on := 22, ground := Go.Ground.phase }], guard := none }) (v := ?_) rfl (by kernel_rfl) (by kernel_rfl) (by kernel_rfl) (fun _ _ _ h => h) (Or.inl ⟨by rfl, ?_⟩) (by assumption) ?_
        rotate_left
        · (intro w hSw; (try dsimp only at hSw); go_simp; try with_reducible rfl)
        try simp only [Act.put, List.setIfInBounds_toArray, List.set_cons_zero, List.set_cons_succ]
        refine wpAnyH_done (by kernel_rfl) ?_ _
        refine NoPanic.normal ?_
        go_wp2
        go_ret
        exact ⟨rfl, box_end (bs := [(g6, rn, rd), (g5, rn, rd), (w3.heap.size, N, D), (w2.heap.size, N, D), (w1.heap.size, rn, rd), (w1.heap.size + 1, fn, fd)]) (by assumption)⟩
      · obtain ⟨k, rfl⟩ : ∃ k, m = k + 1 := ⟨m - 1, by omega⟩
        have HZ := Lib.hid (st_nil HR.out k)
        have hgt : decide (0 < D) = true := by have := HDP.out; simp; omega
        have hne : (((k : Int) + 1) == 0) = false := by simp; omega
        go_wp2_with fail
        apply way_cut (B := fun g W => Boxes w ((g, rn, rd) :: [(w3.heap.size, N, D), (w2.heap.size, N, D), (w1.heap.size, rn, rd), (w1.heap.size + 1, fn, fd)]) W)
        · intro REST
          have HREST := Lib.hid REST
          clear REST
          go_region_held3 (fun W => ((W.cell? ⟨w3.heap.size, 0, none⟩ = some (.int .i64 N) ∧ W.cell? ⟨w3.heap.size, 1, none⟩ = some (.int .i64 D)) ∧ (W.cell? ⟨w2.heap.size, 0, none⟩ = some (.int .i64 N) ∧ W.cell? ⟨w2.heap.size, 1, none⟩ = some (.int .i64 D)) ∧ (W.cell? ⟨w1.heap.size, 0, none⟩ = some (.int .i64 rn) ∧ W.cell? ⟨w1.heap.size, 1, none⟩ = some (.int .i64 rd)) ∧ (W.cell? ⟨w1.heap.size + 1, 0, none⟩ = some (.int .i64 fn) ∧ W.cell? ⟨w1.heap.size + 1, 1, none⟩ = some (.int .i64 fd)) ∧ True) ∧ Below w.heap.size w W) (first | exact HS0.out | exact box_drew (HS0.out) | assumption | exact box_alloc (bs := [(w3.heap.size, N, D), (w2.heap.size, N, D), (w1.heap.size, rn, rd), (w1.heap.size + 1, fn, fd)]) (by assumption) _ | exact box_set (bs := [(w3.heap.size, N, D), (w2.heap.size, N, D), (w1.heap.size, rn, rd), (w1.heap.size + 1, fn, fd)]) (by assumption) hY _ _) (first | (go_at_call 20; (with_reducible refine (c_implWaterSteps rn rd 1 1 _ _).mono ?_); intro e w5 hp; obtain ⟨rfl, hb⟩ := st_at (m := k + 1) rfl hm HR.out (by decide) HD1.out.1 HD1.out.2.1 HD1.out.2.2 hp; clear hp; (first | (have hX := blk_n1 hb; obtain ⟨q0, q1, q2, q3⟩ := hX.two; have hY := box_lt hS) | (have hX := blk_b0 hX hb; obtain ⟨q0, q1, q2, q3⟩ := hX.two) | skip); have hS := box_below (bs := [(w3.heap.size, N, D), (w2.heap.size, N, D), (w1.heap.size, rn, rd), (w1.heap.size + 1, fn, fd)]) (by assumption) hb; clear hb) | (go_at_call 23; (with_reducible refine (c_frac 1 _).mono ?_); rintro e w5 ⟨rfl, hb⟩; (first | (have hX := blk_n2d hb; obtain ⟨q0, q1, q2, q3⟩ := hX.two; have hY := box_lt_a HS0.out) | skip); have hS := box_below (bs := [(w3.heap.size, N, D), (w2.heap.size, N, D), (w1.heap.size, rn, rd), (w1.heap.size + 1, fn, fd)]) (by assumption) hb; clear hb))
          all_goals
            first
            | (obtain ⟨g, hg⟩ : ∃ g, g = w5.heap.size := ⟨_, rfl⟩
               rw [← hg]
               refine absW (S := fun W => Boxes w ((g, rn, rd) :: [(w3.heap.size, N, D), (w2.heap.size, N, D), (w1.heap.size, rn, rd), (w1.heap.size + 1, fn, fd)]) W) ?_ (by rw [hg]; exact box_new (bs := [(w3.heap.size, N, D), (w2.heap.size, N, D), (w1.heap.size, rn, rd), (w1.heap.size + 1, fn, fd)]) hS)
               intro Wz hz
               exact HREST.out g Wz hz)
            | (obtain ⟨g, hg⟩ := blk_name hX
               rw [← hg]
               refine absW (S := fun W => Boxes w ((g, rn, rd) :: [(w3.heap.size, N, D), (w2.heap.size, N, D), (w1.heap.size, rn, rd), (w1.heap.size + 1, fn, fd)]) W) ?_ (by rw [hg]; exact box_upd (bs := [(w3.heap.size, N, D), (w2.heap.size, N, D), (w1.heap.size, rn, rd), (w1.heap.size + 1, fn, fd)]) (by assumption) hX)
               intro Wz hz
               exact HREST.out g Wz hz)
        intro g5 W5 h5
        have HS5 := Lib.hid h5
        clear h5
        go_wp2_with fail
        apply way_cut (B := fun g W => Boxes w ((g, 0, 1) :: [(g5, rn, rd), (w3.heap.size, N, D), (w2.heap.size, N, D), (w1.heap.size, rn, rd), (w1.heap.size + 1, fn, fd)]) W)
        · intro REST
          have HREST := Lib.hid REST
          clear REST
          go_region_held3 (fun W => ((W.cell? ⟨g5, 0, none⟩ = some (.int .i64 rn) ∧ W.cell? ⟨g5, 1, none⟩ = some (.int .i64 rd)) ∧ (W.cell? ⟨w3.heap.size, 0, none⟩ = some (.int .i64 N) ∧ W.cell? ⟨w3.heap.size, 1, none⟩ = some (.int .i64 D)) ∧ (W.cell? ⟨w2.heap.size, 0, none⟩ = some (.int .i64 N) ∧ W.cell? ⟨w2.heap.size, 1, none⟩ = some (.int .i64 D)) ∧ (W.cell? ⟨w1.heap.size, 0, none⟩ = some (.int .i64 rn) ∧ W.cell? ⟨w1.heap.size, 1, none⟩ = some (.int .i64 rd)) ∧ (W.cell? ⟨w1.heap.size + 1, 0, none⟩ = some (.int .i64 fn) ∧ W.cell? ⟨w1.heap.size + 1, 1, none⟩ = some (.int .i64 fd)) ∧ True) ∧ Below w.heap.size w W) (first | exact HS5.out | exact box_drew (HS5.out) | assumption | exact box_alloc (bs := [(g5, rn, rd), (w3.heap.size, N, D), (w2.heap.size, N, D), (w1.heap.size, rn, rd), (w1.heap.size + 1, fn, fd)]) (by assumption) _ | exact box_set (bs := [(g5, rn, rd), (w3.heap.size, N, D), (w2.heap.size, N, D), (w1.heap.size, rn, rd), (w1.heap.size + 1, fn, fd)]) (by assumption) hY _ _) (first | (go_at_call 20; (with_reducible refine (c_implWaterSteps rn rd 0 1 _ _).mono ?_); intro e w5 hp; obtain ⟨rfl, hb⟩ := st_at (m := k + 1) rfl hm HR.out (by decide) HZ.out.1 HZ.out.2.1 HZ.out.2.2 hp; clear hp; (first | (have hX := blk_n1 hb; obtain ⟨q0, q1, q2, q3⟩ := hX.two; have hY := box_lt hS) | (have hX := blk_b0 hX hb; obtain ⟨q0, q1, q2, q3⟩ := hX.two) | skip); have hS := box_below (bs := [(g5, rn, rd), (w3.heap.size, N, D), (w2.heap.size, N, D), (w1.heap.size, rn, rd), (w1.heap.size + 1, fn, fd)]) (by assumption) hb; clear hb) | (go_at_call 23; (with_reducible refine (c_frac 0 _).mono ?_); rintro e w5 ⟨rfl, hb⟩; (first | (have hX := blk_n1d hb; obtain ⟨q0, q1, q2, q3⟩ := hX.two; have hY := box_lt HS5.out) | skip); have hS := box_below (bs := [(g5, rn, rd), (w3.heap.size, N, D), (w2.heap.size, N, D), (w1.heap.size, rn, rd), (w1.heap.size + 1, fn, fd)]) (by assumption) hb; clear hb))
          all_goals
            first
            | (obtain ⟨g, hg⟩ : ∃ g, g = w5.heap.size := ⟨_, rfl⟩
               rw [← hg]
               refine absW (S := fun W => Boxes w ((g, 0, 1) :: [(g5, rn, rd), (w3.heap.size, N, D), (w2.heap.size, N, D), (w1.heap.size, rn, rd), (w1.heap.size + 1, fn, fd)]) W) ?_ (by rw [hg]; exact box_new (bs := [(g5, rn, rd), (w3.heap.size, N, D), (w2.heap.size, N, D), (w1.heap.size, rn, rd), (w1.heap.size + 1, fn, fd)]) hS)
               intro Wz hz
               exact HREST.out g Wz hz)
            | (obtain ⟨g, hg⟩ := blk_name hX
               rw [← hg]
               refine absW (S := fun W => Boxes w ((g, 0, 1) :: [(g5, rn, rd), (w3.heap.size, N, D), (w2.heap.size, N, D), (w1.heap.size, rn, rd), (w1.heap.size + 1, fn, fd)]) W) ?_ (by rw [hg]; exact box_upd (bs := [(g5, rn, rd), (w3.heap.size, N, D), (w2.heap.size, N, D), (w1.heap.size, rn, rd), (w1.heap.size + 1, fn, fd)]) (by assumption) hX)
               intro Wz hz
               exact HREST.out g Wz hz)
        intro g6 W6 h6
        have HS6 := Lib.hid h6
        clear h6
        go_wp2_with fail
        refine wp_region_noPanic ?_
        refine wp_region_held_drew (S := (fun W => ((W.cell? ⟨g6, 0, none⟩ = some (.int .i64 0) ∧ W.cell? ⟨g6, 1, none⟩ = some (.int .i64 1)) ∧ (W.cell? ⟨g5, 0, none⟩ = some (.int .i64 rn) ∧ W.cell? ⟨g5, 1, none⟩ = some (.int .i64 rd)) ∧ (W.cell? ⟨w3.heap.size, 0, none⟩ = some (.int .i64 N) ∧ W.cell? ⟨w3.heap.size, 1, none⟩ = some (.int .i64 D)) ∧ (W.cell? ⟨w2.heap.size, 0, none⟩ = some (.int .i64 N) ∧ W.cell? ⟨w2.heap.size, 1, none⟩ = some (.int .i64 D)) ∧ (W.cell? ⟨w1.heap.size, 0, none⟩ = some (.int .i64 rn) ∧ W.cell? ⟨w1.heap.size, 1, none⟩ = some (.int .i64 rd)) ∧ (W.cell? ⟨w1.heap.size + 1, 0, none⟩ = some (.int .i64 fn) ∧ W.cell? ⟨w1.heap.size + 1, 1, none⟩ = some (.int .i64 fd)) ∧ True) ∧ Below w.heap.size w W)) (by kernel_rfl) (box_drew HS6.out) (fun hH0 => ?_)
        refine wpAnyH_take (i := 0) (oi := { dst := some 71, op := Go.Op.move (Go.Operand.tmp 11), type := 4, pos := "laws.go:4270", after := #[], guard := none }) (v := ?_) rfl (by kernel_rfl) (by kernel_rfl) (by kernel_rfl) (fun _ _ _ h => h) (Or.inl ⟨by rfl, ?_⟩) (by assumption) ?_
        rotate_left
        · (intro w hSw; (try dsimp only at hSw); go_simp; try with_reducible rfl)
        try simp only [Act.put, List.setIfInBounds_toArray, List.set_cons_zero, List.set_cons_succ]
        refine wpAnyH_take (i := 1) (oi := { dst := some 72, op := Go.Op.move (Go.Operand.tmp 71), type := 4, pos := "laws.go:4270", after := #[{ on := 0, ground := Go.Ground.data }], guard := none }) (v := ?_) rfl (by kernel_rfl) (by kernel_rfl) (by kernel_rfl) (fun _ _ _ h => h) (Or.inl ⟨by rfl, ?_⟩) (by assumption) ?_
        rotate_left
        · (intro w hSw; (try dsimp only at hSw); go_simp; try with_reducible rfl)
        try simp only [Act.put, List.setIfInBounds_toArray, List.set_cons_zero, List.set_cons_succ]
        refine wpAnyH_take (i := 2) (oi := { dst := some 73, op := Go.Op.move (Go.Operand.tmp 13), type := 4, pos := "laws.go:4270", after := #[{ on := 1, ground := Go.Ground.guard }], guard := some (1, true) }) (v := ?_) rfl (by kernel_rfl) (by kernel_rfl) (by kernel_rfl) (fun _ _ _ h => h) (Or.inl ⟨by rfl, ?_⟩) (by assumption) ?_
        rotate_left
        · (intro w hSw; (try dsimp only at hSw); go_simp; try with_reducible rfl)
        try simp only [Act.put, List.setIfInBounds_toArray, List.set_cons_zero, List.set_cons_succ]
        refine wpAnyH_take (i := 3) (oi := { dst := some 74, op := Go.Op.pick (Go.Operand.tmp 72) (Go.Operand.tmp 73) (Go.Operand.const (Go.Value.bool false)), type := 4, pos := "laws.go:4270", after := #[{ on := 1, ground := Go.Ground.data }, { on := 2, ground := Go.Ground.data }], guard := none }) (v := ?_) rfl (by kernel_rfl) (by kernel_rfl) (by kernel_rfl) (fun _ _ _ h => h) (Or.inl ⟨by rfl, ?_⟩) (by assumption) ?_
        rotate_left
        · (intro w hSw; (try dsimp only at hSw); go_simp; try with_reducible rfl)
        try simp only [Act.put, List.setIfInBounds_toArray, List.set_cons_zero, List.set_cons_succ]
        refine wpAnyH_take (i := 4) (oi := { dst := some 75, op := Go.Op.move (Go.Operand.tmp 74), type := 4, pos := "laws.go:4270", after := #[{ on := 3, ground := Go.Ground.data }, { on := 1, ground := Go.Ground.chain }], guard := none }) (v := ?_) rfl (by kernel_rfl) (by kernel_rfl) (by kernel_rfl) (fun _ _ _ h => h) (Or.inl ⟨by rfl, ?_⟩) (by assumption) ?_
        rotate_left
        · (intro w hSw; (try dsimp only at hSw); go_simp; try with_reducible rfl)
        try simp only [Act.put, List.setIfInBounds_toArray, List.set_cons_zero, List.set_cons_succ]
        refine wpAnyH_take (i := 5) (oi := { dst := some 76, op := Go.Op.load 26 (Go.Operand.tmp 10), type := 26, pos := "laws.go:4270", after := #[{ on := 4, ground := Go.Ground.guard }], guard := some (4, true) }) (v := ?_) rfl (by kernel_rfl) (by kernel_rfl) (by kernel_rfl) (fun _ _ _ h => h) (Or.inl ⟨by rfl, ?_⟩) (by assumption) ?_
        rotate_left
        · (intro w hSw; (try dsimp only at hSw); go_simp; try with_reducible rfl)
        try simp only [Act.put, List.setIfInBounds_toArray, List.set_cons_zero, List.set_cons_succ]
        refine wpAnyH_take (i := 6) (oi := { dst := some 77, op := Go.Op.load 26 (Go.Operand.tmp 3), type := 26, pos := "laws.go:4270", after := #[{ on := 4, ground := Go.Ground.guard }], guard := some (4, true) }) (v := ?_) rfl (by kernel_rfl) (by kernel_rfl) (by kernel_rfl) (fun _ _ _ h => h) (Or.inl ⟨by rfl, ?_⟩) (by assumption) ?_
        rotate_left
        · (intro w hSw; (try dsimp only at hSw); go_simp; try with_reducible rfl)
        try simp only [Act.put, List.setIfInBounds_toArray, List.set_cons_zero, List.set_cons_succ]
        refine wpAnyH_take (i := 7) (oi := { dst := some 78, op := Go.Op.binOp Go.BinOp.eql 26 (Go.Operand.tmp 76) (Go.Operand.tmp 77) 26, type := 4, pos := "laws.go:4270", after := #[{ on := 5, ground := Go.Ground.data }, { on := 6, ground := Go.Ground.data }, { on := 4, ground := Go.Ground.guard }], guard := some (4, true) }) (v := ?_) rfl (by kernel_rfl) (by kernel_rfl) (by kernel_rfl) (fun _ _ _ h => h) (Or.inl ⟨by rfl, ?_⟩) (by assumption) ?_
        rotate_left
        · (intro w hSw; (try dsimp only at hSw); go_simp; try with_reducible rfl)
        try simp only [Act.put, List.setIfInBounds_toArray, List.set_cons_zero, List.set_cons_succ]
        refine wpAnyH_take (i := 8) (oi := { dst := some 79, op := Go.Op.pick (Go.Operand.tmp 75) (Go.Operand.tmp 78) (Go.Operand.const (Go.Value.bool false)), type := 4, pos := "laws.go:4270", after := #[{ on := 4, ground := Go.Ground.data }, { on := 7, ground := Go.Ground.data }], guard := none }) (v := ?_) rfl (by kernel_rfl) (by kernel_rfl) (by kernel_rfl) (fun _ _ _ h => h) (Or.inl ⟨by rfl, ?_⟩) (by assumption) ?_
        rotate_left
        · (intro w hSw; (try dsimp only at hSw); go_simp; try with_reducible rfl)
        try simp only [Act.put, List.setIfInBounds_toArray, List.set_cons_zero, List.set_cons_succ]
        refine wpAnyH_take (i := 9) (oi := { dst := some 80, op := Go.Op.move (Go.Operand.tmp 79), type := 4, pos := "laws.go:4270", after := #[{ on := 8, ground := Go.Ground.data }, { on := 4, ground := Go.Ground.chain }], guard := none }) (v := ?_) rfl (by kernel_rfl) (by kernel_rfl) (by kernel_rfl) (fun _ _ _ h => h) (Or.inl ⟨by rfl, ?_⟩) (by assumption) ?_
        rotate_left
        · (intro w hSw; (try dsimp only at hSw); go_simp; try with_reducible rfl)
        try simp only [Act.put, List.setIfInBounds_toArray, List.set_cons_zero, List.set_cons_succ]
        refine wpAnyH_take (i := 10) (oi := { dst := some 81, op := Go.Op.move (Go.Operand.tmp 5), type := 3, pos := "laws.go:4270", after := #[{ on := 9, ground := Go.Ground.guard }], guard := some (9, true) }) (v := ?_) rfl (by kernel_rfl) (by kernel_rfl) (by kernel_rfl) (fun _ _ _ h => h) (Or.inl ⟨by rfl, ?_⟩) (by assumption) ?_
        rotate_left
        · (intro w hSw; (try dsimp only at hSw); go_simp; try with_reducible rfl)
        try simp only [Act.put, List.setIfInBounds_toArray, List.set_cons_zero, List.set_cons_succ]
        refine wpAnyH_take (i := 11) (oi := { dst := some 82, op := Go.Op.binOp Go.BinOp.eql 3 (Go.Operand.tmp 81) (Go.Operand.const (Go.Value.int Go.IntKind.i64 0)) 3, type := 4, pos := "laws.go:4270", after := #[{ on := 10, ground := Go.Ground.data }, { on := 9, ground := Go.Ground.guard }], guard := some (9, true) }) (v := ?_) rfl (by kernel_rfl) (by kernel_rfl) (by kernel_rfl) (fun _ _ _ h => h) (Or.inl ⟨by rfl, ?_⟩) (by assumption) ?_
        rotate_left
        · (intro w hSw; (try dsimp only at hSw); go_simp; try with_reducible rfl)
        try simp only [Act.put, List.setIfInBounds_toArray, List.set_cons_zero, List.set_cons_succ]
        refine wpAnyH_take (i := 12) (oi := { dst := some 83, op := Go.Op.move (Go.Operand.tmp 82), type := 4, pos := "laws.go:4270", after := #[{ on := 11, ground := Go.Ground.data }, { on := 9, ground := Go.Ground.chain }, { on := 9, ground := Go.Ground.guard }], guard := some (9, true) }) (v := ?_) rfl (by kernel_rfl) (by kernel_rfl) (by kernel_rfl) (fun _ _ _ h => h) (Or.inl ⟨by rfl, ?_⟩) (by assumption) ?_
        rotate_left
        · (intro w hSw; (try dsimp only at hSw); go_simp; try with_reducible rfl)
        try simp only [Act.put, List.setIfInBounds_toArray, List.set_cons_zero, List.set_cons_succ]
        refine wpAnyH_take (i := 13) (oi := { dst := some 84, op := Go.Op.load 26 (Go.Operand.tmp 12), type := 26, pos := "laws.go:4270", after := #[{ on := 12, ground := Go.Ground.guard }], guard := some (12, false) }) (v := ?_) rfl (by kernel_rfl) (by kernel_rfl) (by kernel_rfl) (fun _ _ _ h => h) (Or.inl ⟨by rfl, ?_⟩) (by assumption) ?_
        rotate_left
        · (intro w hSw; (try dsimp only at hSw); go_simp; try with_reducible rfl)
        try simp only [Act.put, List.setIfInBounds_toArray, List.set_cons_zero, List.set_cons_succ]
        refine wpAnyH_ready (rs := [14]) (by kernel_rfl) (by simp) ?_
        refine (AllReadyH.cons (o := { dst := some 85, op := Go.Op.call { callee := Go.Callee.value (Go.Operand.func 23), args := #[Go.Operand.const (Go.Value.int Go.IntKind.i64 0)], argTypes := #[3] }, type := 26, pos := "laws.go:4270", after := #[{ on := 12, ground := Go.Ground.chain }, { on := 12, ground := Go.Ground.guard }], guard := some (12, false) }) rfl (fun K hK => ?_) AllReadyH.nil)
        go_simp
        refine (c_frac 0 _).mono ?_
        rintro e w7 ⟨rfl, hb⟩
        have hS := box_below (bs := [(g6, 0, 1), (g5, rn, rd), (w3.heap.size, N, D), (w2.heap.size, N, D), (w1.heap.size, rn, rd), (w1.heap.size + 1, fn, fd)]) (box_drew HS6.out) hb
        clear hb
        go_wp2_with fail
        refine hK.out _ _ hS (fun hH15 => ?_)
        clear hK K hH0
        try simp only [Act.put, List.setIfInBounds_toArray, List.set_cons_zero, List.set_cons_succ]
        refine wpAnyH_take (i := 15) (oi := { dst := some 86, op := Go.Op.binOp Go.BinOp.eql 26 (Go.Operand.tmp 84) (Go.Operand.tmp 85) 26, type := 4, pos := "laws.go:4270", after := #[{ on := 13, ground := Go.Ground.data }, { on := 14, ground := Go.Ground.data }, { on := 12, ground := Go.Ground.guard }], guard := some (12, false) }) (v := ?_) rfl (by kernel_rfl) (by kernel_rfl) (by kernel_rfl) (fun _ _ _ h => h) (Or.inl ⟨by rfl, ?_⟩) (by assumption) ?_
        rotate_left
        · (intro w hSw; (try dsimp only at hSw); go_simp; try with_reducible rfl)
        try simp only [Act.put, List.setIfInBounds_toArray, List.set_cons_zero, List.set_cons_succ]
        refine wpAnyH_take (i := 16) (oi := { dst := some 87, op := Go.Op.pick (Go.Operand.tmp 83) (Go.Operand.const (Go.Value.bool true)) (Go.Operand.tmp 86), type := 4, pos := "laws.go:4270", after := #[{ on := 12, ground := Go.Ground.data }, { on := 15, ground := Go.Ground.data }, { on := 9, ground := Go.Ground.guard }], guard := some (9, true) }) (v := ?_) rfl (by kernel_rfl) (by kernel_rfl) (by kernel_rfl) (fun _ _ _ h => h) (Or.inl ⟨by rfl, ?_⟩) (by assumption) ?_
        rotate_left
        · (intro w hSw; (try dsimp only at hSw); go_simp; try with_reducible rfl)
        try simp only [Act.put, List.setIfInBounds_toArray, List.set_cons_zero, List.set_cons_succ]
        refine wpAnyH_take (i := 17) (oi := { dst := some 88, op := Go.Op.pick (Go.Operand.tmp 80) (Go.Operand.tmp 87) (Go.Operand.const (Go.Value.bool false)), type := 4, pos := "laws.go:4270", after := #[{ on := 9, ground := Go.Ground.data }, { on := 16, ground := Go.Ground.data }], guard := none }) (v := ?_) rfl (by kernel_rfl) (by kernel_rfl) (by kernel_rfl) (fun _ _ _ h => h) (Or.inl ⟨by rfl, ?_⟩) (by assumption) ?_
        rotate_left
        · (intro w hSw; (try dsimp only at hSw); go_simp; try with_reducible rfl)
        try simp only [Act.put, List.setIfInBounds_toArray, List.set_cons_zero, List.set_cons_succ]
        refine wpAnyH_take (i := 18) (oi := { dst := some 89, op := Go.Op.move (Go.Operand.tmp 88), type := 4, pos := "laws.go:4270", after := #[{ on := 17, ground := Go.Ground.data }, { on := 14, ground := Go.Ground.chain }], guard := none }) (v := ?_) rfl (by kernel_rfl) (by kernel_rfl) (by kernel_rfl) (fun _ _ _ h => h) (Or.inl ⟨by rfl, ?_⟩) (by assumption) ?_
        rotate_left
        · (intro w hSw; (try dsimp only at hSw); go_simp; try with_reducible rfl)
        try simp only [Act.put, List.setIfInBounds_toArray, List.set_cons_zero, List.set_cons_succ]
        refine wpAnyH_take (i := 19) (oi := { dst := some 90, op := Go.Op.fieldAddr 26 (Go.Operand.tmp 6) 1, type := 0, pos := "laws.go:4270", after := #[{ on := 18, ground := Go.Ground.guard }], guard := some (18, true) }) (v := ?_) rfl (by kernel_rfl) (by kernel_rfl) (by kernel_rfl) (fun _ _ _ h => h) (Or.inl ⟨by rfl, ?_⟩) (by assumption) ?_
        rotate_left
        · (intro w hSw; (try dsimp only at hSw); go_simp; try with_reducible rfl)
        try simp only [Act.put, List.setIfInBounds_toArray, List.set_cons_zero, List.set_cons_succ]
        refine wpAnyH_take (i := 20) (oi := { dst := some 91, op := Go.Op.load 3 (Go.Operand.tmp 90), type := 3, pos := "laws.go:4270", after := #[{ on := 19, ground := Go.Ground.data }, { on := 18, ground := Go.Ground.guard }], guard := some (18, true) }) (v := ?_) rfl (by kernel_rfl) (by kernel_rfl) (by kernel_rfl) (fun _ _ _ h => h) (Or.inl ⟨by rfl, ?_⟩) (by assumption) ?_
        rotate_left
        · (intro w hSw; (try dsimp only at hSw); go_simp; try with_reducible rfl)
        try simp only [Act.put, List.setIfInBounds_toArray, List.set_cons_zero, List.set_cons_succ]
        refine wpAnyH_take (i := 21) (oi := { dst := some 92, op := Go.Op.binOp Go.BinOp.gtr 3 (Go.Operand.tmp 91) (Go.Operand.const (Go.Value.int Go.IntKind.i64 0)) 3, type := 4, pos := "laws.go:4270", after := #[{ on := 20, ground := Go.Ground.data }, { on := 18, ground := Go.Ground.guard }], guard := some (18, true) }) (v := ?_) rfl (by kernel_rfl) (by kernel_rfl) (by kernel_rfl) (fun _ _ _ h => h) (Or.inl ⟨by rfl, ?_⟩) (by assumption) ?_
        rotate_left
        · (intro w hSw; (try dsimp only at hSw); go_simp; try with_reducible rfl)
        try simp only [Act.put, List.setIfInBounds_toArray, List.set_cons_zero, List.set_cons_succ]
        refine wpAnyH_take (i := 22) (oi := { dst := some 93, op := Go.Op.pick (Go.Operand.tmp 89) (Go.Operand.tmp 92) (Go.Operand.const (Go.Value.bool false)), type := 4, pos := "laws.go:4270", after := #[{ on := 18, ground := Go.Ground.data }, { on := 21, ground := Go.Ground.data }], guard := none }) (v := ?_) rfl (by kernel_rfl) (by kernel_rfl) (by kernel_rfl) (fun _ _ _ h => h) (Or.inl ⟨by rfl, ?_⟩) (by assumption) ?_
        rotate_left
        · (intro w hSw; (try dsimp only at hSw); go_simp; try with_reducible rfl)
        try simp only [Act.put, List.setIfInBounds_toArray, List.set_cons_zero, List.set_cons_succ]
        refine wpAnyH_take (i := 23) (oi := { dst := some 2, op := Go.Op.assign (Go.Operand.tmp 93), type := 4, pos := "laws.go:4270", after := #[{ on := 22, ground := Go.Ground.data }, { on := 18, ground := Go.Ground.chain }, { on := 0, ground := Go.Ground.phase }, { on := 1, ground := Go.Ground.phase }, { on := 2, ground := Go.Ground.phase }, { on := 3, ground := Go.Ground.phase }, { on := 4, ground := Go.Ground.phase }, { on := 5, ground := Go.Ground.phase }, { on := 6, ground := Go.Ground.phase }, { on := 7, ground := Go.Ground.phase }, { on := 8, ground := Go.Ground.phase }, { on := 9, ground := Go.Ground.phase }, { on := 10, ground := Go.Ground.phase }, { on := 11, ground := Go.Ground.phase }, { on := 12, ground := Go.Ground.phase }, { on := 13, ground := Go.Ground.phase }, { on := 14, ground := Go.Ground.phase }, { on := 15, ground := Go.Ground.phase }, { on := 16, ground := Go.Ground.phase }, { on := 17, ground := Go.Ground.phase }, { on := 18, ground := Go.Ground.phase }, { on := 19, ground := Go.Ground.phase }, { on := 20, ground := Go.Ground.phase }, { on := 21, ground := Go.Ground.phase }, { on := 22, ground := Go.Ground.phase }], guard := none }) (v := ?_) rfl (by kernel_rfl) (by kernel_rfl) (by kernel_rfl) (fun _ _ _ h => h) (Or.inl ⟨by rfl, ?_⟩) (by assumption) ?_
        rotate_left
        · (intro w hSw; (try dsimp only at hSw); go_simp; try with_reducible rfl)
        try simp only [Act.put, List.setIfInBounds_toArray, List.set_cons_zero, List.set_cons_succ]
        refine wpAnyH_done (by kernel_rfl) ?_ _
        refine NoPanic.normal ?_
        go_wp2
        go_ret
        exact ⟨rfl, box_end (bs := [(g6, 0, 1), (g5, rn, rd), (w3.heap.size, N, D), (w2.heap.size, N, D), (w1.heap.size, rn, rd), (w1.heap.size + 1, fn, fd)]) (by assumption)⟩
    · have HO := Lib.hid hok
      clear hok
      go_wp2_with fail
      refine (c_implWaterSteps _ _ _ _ _ _).mono ?_
      intro e w2 hp
      obtain ⟨rfl, hb⟩ := st_bad HO.out hp
      clear hp
      have J2 := Lib.hid (blk_n2 hb)
      have K2 := Lib.hid (blk_n2' hb)
      have hB2 := bel2 hB1 hb
      have zJ2 := J2.out.lt
      have zK2 := K2.out.lt
      obtain ⟨cJ2, dJ2, _, _⟩ := J2.out.two
      obtain ⟨cK2, dK2, _, _⟩ := K2.out.two
      clear hb
      go_wp2_with fail
      refine (c_specWaterSteps _ _ _ _ _ _).mono ?_
      intro e w3 hp
      obtain ⟨rfl, hb⟩ := st_bad HO.out hp
      clear hp
      have J3 := Lib.hid (blk_b1 J2.out hb)
      have K3 := Lib.hid (blk_b1 K2.out hb)
      have O3 := Lib.hid (blk_n1 hb)
      have hB3 := bel1 hB2 hb
      have zJ3 := J3.out.lt
      have zK3 := K3.out.lt
      have zO3 := O3.out.lt
      obtain ⟨cO3, dO3, _, _⟩ := O3.out.two
      clear hb
      go_wp2
      go_ret
      exact ⟨rfl, hB3.alloc hB3.size _⟩
end Go.Proofs.Ytbbipieadjggkaa
