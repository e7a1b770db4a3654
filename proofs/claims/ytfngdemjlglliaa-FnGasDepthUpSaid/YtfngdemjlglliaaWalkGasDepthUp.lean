/-
  The walk of the law FnGasDepthUp: it returns true and writes nothing that was there.
-/
import Derived.Test.YtfngdemjlglliaaLagMath
import Derived.Test.YtfngdemjlglliaaLagImpl
import Derived.Test.YtfngdemjlglliaaGasLawW
import Derived.Test.YtfngdemjlglliaaGasDraw
import Derived.Test.YtfngdemjlglliaaGasEven
import Derived.Test.YtfngdemjlglliaaSameKnots
import Derived.Test.YtfngdemjlglliaaBoxG
import Derived.Deep.RegionHeld3
import Derived.Test.YtfngdemjlglliaaFracLessImpl
namespace Go.Proofs.Ytfngdemjlglliaa
open Go.RowKit

set_option maxHeartbeats 2000000 in
set_option maxRecDepth 4000 in
theorem walk_FnGasDepthUp (A : Option Addr) (n c : Nat) (A' : Option Addr) (m c' : Nat) (w : World) (h : RdB w A n) (hn : n ≤ maxLen) (hc : n ≤ c) (_h' : RdB w A' m) (hm : m ≤ maxLen) (_hc' : m ≤ c') :
    Calls Try.prog 9 #[.slice A n c, .slice A' m c'] w fun e w' => e = .returned (.bool true) ∧ Below w.heap.size w w' := by
  unfold maxLen at hn hm
  have HB := Lib.hid h
  clear h
  by_cases hbig : 1048576 < n
  · go_enter Try.func9, Try.ntmps9
    go_wp2
    go_ret
    exact ⟨rfl, Below.refl _ _⟩
  have hd1 : decide ((1048576 : Int) < (n : Int)) = false := by simp; omega
  by_cases hbig2 : 1048576 < m
  · have hd2 : decide ((1048576 : Int) < (m : Int)) = true := by simp; omega
    go_enter Try.func9, Try.ntmps9
    go_wp2
    go_ret
    exact ⟨rfl, Below.refl _ _⟩
  · have hd2 : decide ((1048576 : Int) < (m : Int)) = false := by simp; omega
    go_enter Try.func9, Try.ntmps9
    go_wp2_with fail
    refine (c_DrawGasEven _ _ _ _ HB.out (by omega) hc).mono ?_
    rintro e w1 ⟨A1, n1, c1, l, d, rfl, hd0, hd2, ⟨hn0, hn1, hc1, hr1⟩, hB1⟩
    have HR1 := Lib.hid hr1
    have HL := Lib.hid hr1.len
    have hB11 : Below w1.heap.size w1 w1 := Below.refl _ _
    clear hr1
    go_wp2_with fail
    refine (c_implGasEven _ _ _ l d _ (by omega) HR1.out).mono ?_
    rintro e w2 ⟨A2, n2, c2, rfl, hn2, hO2, hb⟩
    have HR2 := Lib.hid hO2.rd
    have HN2 := Lib.hid hO2.rd.len
    have hB2 := hB1.trans (hb.mono hB1.size)
    have hB12 := hB11.trans hb
    have hB22 : Below w2.heap.size w2 w2 := Below.refl _ _
    clear hO2 hb
    go_wp2_with fail
    refine (c_specGasEven _ _ _ l d _ (by omega) (HR1.out.below hB12)).mono ?_
    rintro e w3 ⟨A3, n3, c3, rfl, hn3, hO3, hb⟩
    have HR3 := Lib.hid hO3.rd
    have hB3 := hB2.trans (hb.mono hB2.size)
    have hB13 := hB12.trans (hb.mono hB12.size)
    have hB23 := hB22.trans hb
    clear hO3 hb
    have HQ := Lib.hid (show eqL (gV l n1 (evG n1 d)) (gV l n1 (evG n1 d)) = true by simp [eqL])
    rcases Bool.eq_false_or_eq_true (okG l n1 (evG n1 d)) with hok | hok
    · have HK := Lib.hid hok
      go_wp2_with fail
      refine (c_sameKnots _ _ _ _ _ _ (gV l n1 (evG n1 d)) (gV l n1 (evG n1 d)) _ (by omega) (by omega) (HR2.out.below hB23) HR3.out).mono ?_
      rintro e w4 ⟨he, hb⟩
      rw [HQ.out] at he
      subst he
      have hB4 := hB3.trans (hb.mono hB3.size)
      have hB14 := hB13.trans (hb.mono hB13.size)
      have hB24 := hB23.trans (hb.mono hB23.size)
      clear hb HR3
      have hq := even_yes (evG_all HL.out d) hok
      obtain ⟨s, s1, s2, s3, s4, s5, s6, s7⟩ := hq
      clear s7
      have HOK := Lib.hid hok
      have HVG := Lib.hid (show vC (gV l n1 (evG n1 d)) = true by rw [gV_yes hok]; exact (okG_yes hok).2.2.2)
      obtain ⟨hb0, _, h2n, _⟩ := vC_yes HVG.out
      have hmono := fun i j (h1 : i < j) (h2 : j < (gV l n1 (evG n1 d)).length) => (vC_mono HVG.out h1 h2).1
      rw [HN2.out] at h2n
      obtain ⟨j, rfl⟩ : ∃ j, n2 = j + 1 := ⟨n2 - 1, by omega⟩
      have hvx0 := hb0 0 (by rw [HN2.out]; omega)
      have hvxl := hb0 j (by rw [HN2.out]; omega)
      have hlt := hmono 0 j (by omega) (by rw [HN2.out]; omega)
      obtain ⟨x0, hx0⟩ : ∃ y, px (gV l n1 (evG n1 d)) 0 = y := ⟨_, rfl⟩
      obtain ⟨xl, hxl⟩ : ∃ y, px (gV l n1 (evG n1 d)) j = y := ⟨_, rfl⟩
      have HX0 := Lib.hid hx0
      have HXL := Lib.hid hxl
      rw [hx0] at hvx0 hlt
      rw [hxl] at hvxl hlt
      have hr0 := Int.emod_nonneg (m : Int) (show xl - x0 + 1 ≠ 0 by omega)
      have hr1 := Int.emod_lt_of_pos (m : Int) (show 0 < xl - x0 + 1 by omega)
      have HTM := Lib.hid (show Int.tmod (m : Int) (xl - x0 + 1) = (m : Int) % (xl - x0 + 1) from Int.tmod_eq_emod_of_nonneg (by omega))
      obtain ⟨r, hr⟩ : ∃ r, (m : Int) % (xl - x0 + 1) = r := ⟨_, rfl⟩
      rw [hr] at hr0 hr1
      have HRR := Lib.hid hr
      clear hr
      have HLAG := Lib.hid (show okL l (gV l n1 (evG n1 d)) (x0 + r) = true ∧ nL l (gV l n1 (evG n1 d)) (x0 + r) = d ∧ dL l (gV l n1 (evG n1 d)) (x0 + r) = 1 by
        have hl : (gV l n1 (evG n1 d)).length - 1 = j := by rw [HN2.out]; omega
        have := even_lag (x := x0 + r) s6 s1 s4 s5 s3
        rw [← s2] at this
        exact this (by rw [hx0]; omega) (by rw [hl, hxl]; omega))
      have HD01 := s4
      have HD02 := s5
      clear s1 s2 s3 s4 s5 s6 hok hb0 hmono hx0 hxl
      have jj : ((j + 1 : Nat) : Int) - 1 = (j : Int) := by omega
      have jj0 : (0 : Int) ≤ (j : Int) := by omega
      have jj1 : (j : Int) < ((j + 1 : Nat) : Int) := by omega
      have jj4 : (0 : Int) < ((j + 1 : Nat) : Int) := by omega
      have hnz : (xl - x0 + 1 == 0) = false := by simp; omega
      have HCL := Lib.hid (l_yes HLAG.out.1).1
      have HSELF := Lib.hid (depth_self HCL.out (show 0 ≤ x0 + r by omega) (show x0 + r ≤ 30000 by omega))
      have HUP := Lib.hid (fun h => depth_up HLAG.out.1 HLAG.out.2.1 HLAG.out.2.2 HD01 h)
      obtain ⟨b2, o2, rfl, hb2, hc2⟩ := HR2.out.at_ (by omega)
      have g0 : w4.cell? ⟨b2, o2, none⟩ = some (.int .i64 x0) := by
        have := (hc2 0 (by omega)).1
        rw [Nat.zero_mul, Nat.add_zero, HX0.out] at this
        rw [hB24.cell (p := ⟨b2, o2, none⟩) hb2]
        exact this
      have gl : w4.cell? ⟨b2, o2 + j * 2, none⟩ = some (.int .i64 xl) := by
        have := (hc2 j (by omega)).1
        rw [HXL.out] at this
        rw [hB24.cell (p := ⟨b2, o2 + j * 2, none⟩) hb2]
        exact this
      clear hc2
      go_wp2_with fail
      go_quiet (fail)
      rw [HRR.out, show wrap64 (x0 + r) = x0 + r by unfold wrap64; omega]
      have hBq := below_drewC (n := nq) hB4
      have hB1q := below_drewC (n := nq) hB14
      have hB2q := below_drewC (n := nq) hB24
      clear g0 gl
      rcases Bool.eq_false_or_eq_true (okP l (gV l n1 (evG n1 d)) (x0 + r)) with hp | hp
      · have HP := Lib.hid hp
        clear hp
        have HLESS := Lib.hid (HUP.out HP.out)
        obtain ⟨X, hX⟩ : ∃ y, nP l (gV l n1 (evG n1 d)) (x0 + r) = y := ⟨_, rfl⟩
        obtain ⟨XD, hXD⟩ : ∃ y, dP l (gV l n1 (evG n1 d)) (x0 + r) = y := ⟨_, rfl⟩
        have HX := Lib.hid hX
        have HXD := Lib.hid hXD
        clear hX hXD
        go_wp2_with fail
        refine (c_implGasDepth _ _ _ l _ _ _ (gV l n1 (evG n1 d)) (x0 + r) _ (by omega) (by omega) (HR1.out.below hB1q) (HR2.out.below hB2q)).mono ?_
        intro e w8 hp
        obtain ⟨rfl, hb⟩ := hp.val ⟨HP.out, HX.out, HXD.out⟩
        clear hp
        have hB8 := bel0 hBq hb
        have hB18 := bel0 hB1q hb
        have hs18 := hB18.size
        clear hb
        go_wp2_with fail
        refine (c_implGasDepth _ _ _ l _ _ _ l (x0 + r) _ (by omega) (by omega) (HR1.out.below (by go_grown)) (HR1.out.below (by go_grown))).mono ?_
        intro e w9 hp
        obtain ⟨rfl, hb⟩ := hp.val HSELF.out
        clear hp
        have X9 := Lib.hid (blk_n1 hb)
        have hB9 := bel1 hB8 hb
        have HS0 := Lib.hid (boxG_new (t := 27) (x := x0 + r) (y := 1) (boxG_two (boxG_mk hB9) X9.out))
        clear hb
        go_wp2_with fail
        refine wp_region_noPanic ?_
        refine wp_region_held_drew (S := (fun W => (W.cell? ⟨w9.heap.size, 0, none⟩ = some (.int .i64 (x0 + r)) ∧ W.cell? ⟨w9.heap.size, 1, none⟩ = some (.int .i64 1) ∧ W.cell? ⟨w8.heap.size, 0, none⟩ = some (.int .i64 X) ∧ W.cell? ⟨w8.heap.size, 1, none⟩ = some (.int .i64 XD) ∧ True) ∧ Below w.heap.size w W)) (by kernel_rfl) (boxG_drew HS0.out) (fun hH0 => ?_)
        refine wpAnyH_take (i := 0) (oi := { dst := some 97, op := Go.Op.move (Go.Operand.tmp 13), type := 4, pos := "laws.go:4743", after := #[], guard := none }) (v := ?_) rfl (by kernel_rfl) (by kernel_rfl) (by kernel_rfl) (fun _ _ _ h => h) (Or.inl ⟨by rfl, ?_⟩) (by assumption) ?_
        rotate_left
        · (intro w hSw; (try dsimp only at hSw); go_simp; try with_reducible rfl)
        try simp only [Act.put, List.setIfInBounds_toArray, List.set_cons_zero, List.set_cons_succ]
        refine wpAnyH_take (i := 1) (oi := { dst := some 98, op := Go.Op.unOp Go.UnOp.not 4 (Go.Operand.tmp 97), type := 4, pos := "laws.go:4743", after := #[{ on := 0, ground := Go.Ground.data }], guard := none }) (v := ?_) rfl (by kernel_rfl) (by kernel_rfl) (by kernel_rfl) (fun _ _ _ h => h) (Or.inl ⟨by rfl, ?_⟩) (by assumption) ?_
        rotate_left
        · (intro w hSw; (try dsimp only at hSw); go_simp; try with_reducible rfl)
        try simp only [Act.put, List.setIfInBounds_toArray, List.set_cons_zero, List.set_cons_succ]
        refine wpAnyH_take (i := 2) (oi := { dst := some 99, op := Go.Op.move (Go.Operand.tmp 98), type := 4, pos := "laws.go:4743", after := #[{ on := 1, ground := Go.Ground.data }], guard := none }) (v := ?_) rfl (by kernel_rfl) (by kernel_rfl) (by kernel_rfl) (fun _ _ _ h => h) (Or.inl ⟨by rfl, ?_⟩) (by assumption) ?_
        rotate_left
        · (intro w hSw; (try dsimp only at hSw); go_simp; try with_reducible rfl)
        try simp only [Act.put, List.setIfInBounds_toArray, List.set_cons_zero, List.set_cons_succ]
        refine wpAnyH_take (i := 3) (oi := { dst := some 100, op := Go.Op.move (Go.Operand.tmp 11), type := 3, pos := "laws.go:4743", after := #[{ on := 2, ground := Go.Ground.guard }], guard := some (2, false) }) (v := ?_) rfl (by kernel_rfl) (by kernel_rfl) (by kernel_rfl) (fun _ _ _ h => h) (Or.inl ⟨by rfl, ?_⟩) (by assumption) ?_
        rotate_left
        · (intro w hSw; (try dsimp only at hSw); go_simp; try with_reducible rfl)
        try simp only [Act.put, List.setIfInBounds_toArray, List.set_cons_zero, List.set_cons_succ]
        refine wpAnyH_take (i := 5) (oi := { dst := some 102, op := Go.Op.load 27 (Go.Operand.tmp 12), type := 27, pos := "laws.go:4743", after := #[{ on := 2, ground := Go.Ground.guard }], guard := some (2, false) }) (v := ?_) rfl (by kernel_rfl) (by kernel_rfl) (by kernel_rfl) (fun _ _ _ h => h) (Or.inl ⟨by rfl, ?_⟩) (by assumption) ?_
        rotate_left
        · (intro w hSw; (try dsimp only at hSw); go_simp; try with_reducible rfl)
        try simp only [Act.put, List.setIfInBounds_toArray, List.set_cons_zero, List.set_cons_succ]
        refine wpAnyH_ready (rs := [4]) (by kernel_rfl) (by simp) ?_
        refine (AllReadyH.cons (o := { dst := some 101, op := Go.Op.call { callee := Go.Callee.value (Go.Operand.func 13), args := #[Go.Operand.tmp 100], argTypes := #[3] }, type := 27, pos := "laws.go:4743", after := #[{ on := 3, ground := Go.Ground.data }, { on := 2, ground := Go.Ground.chain }, { on := 2, ground := Go.Ground.guard }], guard := some (2, false) }) rfl (fun K hK => ?_) AllReadyH.nil)
        go_simp
        refine (c_frac (x0 + r) _).mono ?_
        rintro e w10 ⟨rfl, hb⟩
        have hS := boxG_below (cs := [(w9.heap.size, 0, x0 + r), (w9.heap.size, 1, 1), (w8.heap.size, 0, X), (w8.heap.size, 1, XD)]) (boxG_drew HS0.out) hb
        clear hb
        go_wp2_with fail
        refine hK.out _ _ hS (fun hH6 => ?_)
        clear hK K hH0
        try simp only [Act.put, List.setIfInBounds_toArray, List.set_cons_zero, List.set_cons_succ]
        refine wpAnyH_ready (rs := [6]) (by kernel_rfl) (by simp) ?_
        refine (AllReadyH.cons (o := { dst := some 103, op := Go.Op.call { callee := Go.Callee.value (Go.Operand.func 28), args := #[Go.Operand.tmp 101, Go.Operand.tmp 102], argTypes := #[27, 27] }, type := 4, pos := "laws.go:4743", after := #[{ on := 4, ground := Go.Ground.data }, { on := 5, ground := Go.Ground.data }, { on := 4, ground := Go.Ground.chain }, { on := 2, ground := Go.Ground.guard }], guard := some (2, false) }) rfl (fun K hK => ?_) AllReadyH.nil)
        go_simp
        refine (c_implFracLess (x0 + r) 1 X XD _).mono ?_
        rintro e w11 ⟨he, hb⟩
        rw [← HX.out, ← HXD.out, HLESS.out] at he
        subst he
        have hS := boxG_below (cs := [(w9.heap.size, 0, x0 + r), (w9.heap.size, 1, 1), (w8.heap.size, 0, X), (w8.heap.size, 1, XD)]) hS hb
        clear hb
        go_wp2_with fail
        refine hK.out _ _ hS (fun hH7 => ?_)
        clear hK K hH6
        try simp only [Act.put, List.setIfInBounds_toArray, List.set_cons_zero, List.set_cons_succ]
        refine wpAnyH_take (i := 7) (oi := { dst := some 104, op := Go.Op.unOp Go.UnOp.not 4 (Go.Operand.tmp 103), type := 4, pos := "laws.go:4743", after := #[{ on := 6, ground := Go.Ground.data }, { on := 2, ground := Go.Ground.guard }], guard := some (2, false) }) (v := ?_) rfl (by kernel_rfl) (by kernel_rfl) (by kernel_rfl) (fun _ _ _ h => h) (Or.inl ⟨by rfl, ?_⟩) (by assumption) ?_
        rotate_left
        · (intro w hSw; (try dsimp only at hSw); go_simp; try with_reducible rfl)
        try simp only [Act.put, List.setIfInBounds_toArray, List.set_cons_zero, List.set_cons_succ]
        refine wpAnyH_take (i := 8) (oi := { dst := some 105, op := Go.Op.pick (Go.Operand.tmp 99) (Go.Operand.const (Go.Value.bool true)) (Go.Operand.tmp 104), type := 4, pos := "laws.go:4743", after := #[{ on := 2, ground := Go.Ground.data }, { on := 7, ground := Go.Ground.data }], guard := none }) (v := ?_) rfl (by kernel_rfl) (by kernel_rfl) (by kernel_rfl) (fun _ _ _ h => h) (Or.inl ⟨by rfl, ?_⟩) (by assumption) ?_
        rotate_left
        · (intro w hSw; (try dsimp only at hSw); go_simp; try with_reducible rfl)
        try simp only [Act.put, List.setIfInBounds_toArray, List.set_cons_zero, List.set_cons_succ]
        refine wpAnyH_take (i := 9) (oi := { dst := some 106, op := Go.Op.move (Go.Operand.tmp 105), type := 4, pos := "laws.go:4743", after := #[{ on := 8, ground := Go.Ground.data }, { on := 6, ground := Go.Ground.chain }], guard := none }) (v := ?_) rfl (by kernel_rfl) (by kernel_rfl) (by kernel_rfl) (fun _ _ _ h => h) (Or.inl ⟨by rfl, ?_⟩) (by assumption) ?_
        rotate_left
        · (intro w hSw; (try dsimp only at hSw); go_simp; try with_reducible rfl)
        try simp only [Act.put, List.setIfInBounds_toArray, List.set_cons_zero, List.set_cons_succ]
        refine wpAnyH_take (i := 10) (oi := { dst := some 107, op := Go.Op.move (Go.Operand.tmp 15), type := 4, pos := "laws.go:4743", after := #[{ on := 9, ground := Go.Ground.guard }], guard := some (9, true) }) (v := ?_) rfl (by kernel_rfl) (by kernel_rfl) (by kernel_rfl) (fun _ _ _ h => h) (Or.inl ⟨by rfl, ?_⟩) (by assumption) ?_
        rotate_left
        · (intro w hSw; (try dsimp only at hSw); go_simp; try with_reducible rfl)
        try simp only [Act.put, List.setIfInBounds_toArray, List.set_cons_zero, List.set_cons_succ]
        refine wpAnyH_take (i := 11) (oi := { dst := some 108, op := Go.Op.pick (Go.Operand.tmp 106) (Go.Operand.tmp 107) (Go.Operand.const (Go.Value.bool false)), type := 4, pos := "laws.go:4743", after := #[{ on := 9, ground := Go.Ground.data }, { on := 10, ground := Go.Ground.data }], guard := none }) (v := ?_) rfl (by kernel_rfl) (by kernel_rfl) (by kernel_rfl) (fun _ _ _ h => h) (Or.inl ⟨by rfl, ?_⟩) (by assumption) ?_
        rotate_left
        · (intro w hSw; (try dsimp only at hSw); go_simp; try with_reducible rfl)
        try simp only [Act.put, List.setIfInBounds_toArray, List.set_cons_zero, List.set_cons_succ]
        refine wpAnyH_take (i := 12) (oi := { dst := some 109, op := Go.Op.move (Go.Operand.tmp 108), type := 4, pos := "laws.go:4743", after := #[{ on := 11, ground := Go.Ground.data }, { on := 9, ground := Go.Ground.chain }], guard := none }) (v := ?_) rfl (by kernel_rfl) (by kernel_rfl) (by kernel_rfl) (fun _ _ _ h => h) (Or.inl ⟨by rfl, ?_⟩) (by assumption) ?_
        rotate_left
        · (intro w hSw; (try dsimp only at hSw); go_simp; try with_reducible rfl)
        try simp only [Act.put, List.setIfInBounds_toArray, List.set_cons_zero, List.set_cons_succ]
        refine wpAnyH_take (i := 13) (oi := { dst := some 110, op := Go.Op.load 27 (Go.Operand.tmp 14), type := 27, pos := "laws.go:4743", after := #[{ on := 12, ground := Go.Ground.guard }], guard := some (12, true) }) (v := ?_) rfl (by kernel_rfl) (by kernel_rfl) (by kernel_rfl) (fun _ _ _ h => h) (Or.inl ⟨by rfl, ?_⟩) (by assumption) ?_
        rotate_left
        · (intro w hSw; (try dsimp only at hSw); go_simp; try with_reducible rfl)
        try simp only [Act.put, List.setIfInBounds_toArray, List.set_cons_zero, List.set_cons_succ]
        refine wpAnyH_take (i := 14) (oi := { dst := some 111, op := Go.Op.move (Go.Operand.tmp 11), type := 3, pos := "laws.go:4743", after := #[{ on := 12, ground := Go.Ground.guard }], guard := some (12, true) }) (v := ?_) rfl (by kernel_rfl) (by kernel_rfl) (by kernel_rfl) (fun _ _ _ h => h) (Or.inl ⟨by rfl, ?_⟩) (by assumption) ?_
        rotate_left
        · (intro w hSw; (try dsimp only at hSw); go_simp; try with_reducible rfl)
        try simp only [Act.put, List.setIfInBounds_toArray, List.set_cons_zero, List.set_cons_succ]
        refine wpAnyH_ready (rs := [15]) (by kernel_rfl) (by simp) ?_
        refine (AllReadyH.cons (o := { dst := some 112, op := Go.Op.call { callee := Go.Callee.value (Go.Operand.func 13), args := #[Go.Operand.tmp 111], argTypes := #[3] }, type := 27, pos := "laws.go:4743", after := #[{ on := 14, ground := Go.Ground.data }, { on := 12, ground := Go.Ground.chain }, { on := 12, ground := Go.Ground.guard }], guard := some (12, true) }) rfl (fun K hK => ?_) AllReadyH.nil)
        go_simp
        refine (c_frac (x0 + r) _).mono ?_
        rintro e w12 ⟨rfl, hb⟩
        have hS := boxG_below (cs := [(w9.heap.size, 0, x0 + r), (w9.heap.size, 1, 1), (w8.heap.size, 0, X), (w8.heap.size, 1, XD)]) hS hb
        clear hb
        go_wp2_with fail
        refine hK.out _ _ hS (fun hH16 => ?_)
        clear hK K hH7
        try simp only [Act.put, List.setIfInBounds_toArray, List.set_cons_zero, List.set_cons_succ]
        refine wpAnyH_take (i := 16) (oi := { dst := some 113, op := Go.Op.binOp Go.BinOp.eql 27 (Go.Operand.tmp 110) (Go.Operand.tmp 112) 27, type := 4, pos := "laws.go:4743", after := #[{ on := 13, ground := Go.Ground.data }, { on := 15, ground := Go.Ground.data }, { on := 12, ground := Go.Ground.guard }], guard := some (12, true) }) (v := ?_) rfl (by kernel_rfl) (by kernel_rfl) (by kernel_rfl) (fun _ _ _ h => h) (Or.inl ⟨by rfl, ?_⟩) (by assumption) ?_
        rotate_left
        · (intro w hSw; (try dsimp only at hSw); go_simp; try with_reducible rfl)
        try simp only [Act.put, List.setIfInBounds_toArray, List.set_cons_zero, List.set_cons_succ]
        refine wpAnyH_take (i := 17) (oi := { dst := some 114, op := Go.Op.pick (Go.Operand.tmp 109) (Go.Operand.tmp 113) (Go.Operand.const (Go.Value.bool false)), type := 4, pos := "laws.go:4743", after := #[{ on := 12, ground := Go.Ground.data }, { on := 16, ground := Go.Ground.data }], guard := none }) (v := ?_) rfl (by kernel_rfl) (by kernel_rfl) (by kernel_rfl) (fun _ _ _ h => h) (Or.inl ⟨by rfl, ?_⟩) (by assumption) ?_
        rotate_left
        · (intro w hSw; (try dsimp only at hSw); go_simp; try with_reducible rfl)
        try simp only [Act.put, List.setIfInBounds_toArray, List.set_cons_zero, List.set_cons_succ]
        refine wpAnyH_take (i := 18) (oi := { dst := some 4, op := Go.Op.assign (Go.Operand.tmp 114), type := 4, pos := "laws.go:4743", after := #[{ on := 17, ground := Go.Ground.data }, { on := 15, ground := Go.Ground.chain }, { on := 0, ground := Go.Ground.phase }, { on := 1, ground := Go.Ground.phase }, { on := 2, ground := Go.Ground.phase }, { on := 3, ground := Go.Ground.phase }, { on := 4, ground := Go.Ground.phase }, { on := 5, ground := Go.Ground.phase }, { on := 6, ground := Go.Ground.phase }, { on := 7, ground := Go.Ground.phase }, { on := 8, ground := Go.Ground.phase }, { on := 9, ground := Go.Ground.phase }, { on := 10, ground := Go.Ground.phase }, { on := 11, ground := Go.Ground.phase }, { on := 12, ground := Go.Ground.phase }, { on := 13, ground := Go.Ground.phase }, { on := 14, ground := Go.Ground.phase }, { on := 15, ground := Go.Ground.phase }, { on := 16, ground := Go.Ground.phase }, { on := 17, ground := Go.Ground.phase }], guard := none }) (v := ?_) rfl (by kernel_rfl) (by kernel_rfl) (by kernel_rfl) (fun _ _ _ h => h) (Or.inl ⟨by rfl, ?_⟩) (by assumption) ?_
        rotate_left
        · (intro w hSw; (try dsimp only at hSw); go_simp; try with_reducible rfl)
        try simp only [Act.put, List.setIfInBounds_toArray, List.set_cons_zero, List.set_cons_succ]
        refine wpAnyH_done (by kernel_rfl) ?_ _
        refine NoPanic.normal ?_
        go_wp2
        go_ret
        exact ⟨rfl, boxG_end (cs := [(w9.heap.size, 0, x0 + r), (w9.heap.size, 1, 1), (w8.heap.size, 0, X), (w8.heap.size, 1, XD)]) hS⟩
      · have HP := Lib.hid hp
        clear hp
        obtain ⟨X, hX⟩ : ∃ y, nP l (gV l n1 (evG n1 d)) (x0 + r) = y := ⟨_, rfl⟩
        obtain ⟨XD, hXD⟩ : ∃ y, dP l (gV l n1 (evG n1 d)) (x0 + r) = y := ⟨_, rfl⟩
        have HX := Lib.hid hX
        have HXD := Lib.hid hXD
        clear hX hXD
        go_wp2_with fail
        refine (c_implGasDepth _ _ _ l _ _ _ (gV l n1 (evG n1 d)) (x0 + r) _ (by omega) (by omega) (HR1.out.below hB1q) (HR2.out.below hB2q)).mono ?_
        intro e w8 hp
        obtain ⟨rfl, hb⟩ := hp.val ⟨HP.out, HX.out, HXD.out⟩
        clear hp
        have hB8 := bel0 hBq hb
        have hB18 := bel0 hB1q hb
        have hs18 := hB18.size
        clear hb
        go_wp2_with fail
        refine (c_implGasDepth _ _ _ l _ _ _ l (x0 + r) _ (by omega) (by omega) (HR1.out.below (by go_grown)) (HR1.out.below (by go_grown))).mono ?_
        intro e w9 hp
        obtain ⟨rfl, hb⟩ := hp.val HSELF.out
        clear hp
        have X9 := Lib.hid (blk_n1 hb)
        have hB9 := bel1 hB8 hb
        have HS0 := Lib.hid (boxG_new (t := 27) (x := x0 + r) (y := 1) (boxG_two (boxG_mk hB9) X9.out))
        clear hb
        go_wp2_with fail
        refine wp_region_noPanic ?_
        refine wp_region_held_drew (S := (fun W => (W.cell? ⟨w9.heap.size, 0, none⟩ = some (.int .i64 (x0 + r)) ∧ W.cell? ⟨w9.heap.size, 1, none⟩ = some (.int .i64 1) ∧ W.cell? ⟨w8.heap.size, 0, none⟩ = some (.int .i64 X) ∧ W.cell? ⟨w8.heap.size, 1, none⟩ = some (.int .i64 XD) ∧ True) ∧ Below w.heap.size w W)) (by kernel_rfl) (boxG_drew HS0.out) (fun hH0 => ?_)
        refine wpAnyH_take (i := 0) (oi := { dst := some 97, op := Go.Op.move (Go.Operand.tmp 13), type := 4, pos := "laws.go:4743", after := #[], guard := none }) (v := ?_) rfl (by kernel_rfl) (by kernel_rfl) (by kernel_rfl) (fun _ _ _ h => h) (Or.inl ⟨by rfl, ?_⟩) (by assumption) ?_
        rotate_left
        · (intro w hSw; (try dsimp only at hSw); go_simp; try with_reducible rfl)
        try simp only [Act.put, List.setIfInBounds_toArray, List.set_cons_zero, List.set_cons_succ]
        refine wpAnyH_take (i := 1) (oi := { dst := some 98, op := Go.Op.unOp Go.UnOp.not 4 (Go.Operand.tmp 97), type := 4, pos := "laws.go:4743", after := #[{ on := 0, ground := Go.Ground.data }], guard := none }) (v := ?_) rfl (by kernel_rfl) (by kernel_rfl) (by kernel_rfl) (fun _ _ _ h => h) (Or.inl ⟨by rfl, ?_⟩) (by assumption) ?_
        rotate_left
        · (intro w hSw; (try dsimp only at hSw); go_simp; try with_reducible rfl)
        try simp only [Act.put, List.setIfInBounds_toArray, List.set_cons_zero, List.set_cons_succ]
        refine wpAnyH_take (i := 2) (oi := { dst := some 99, op := Go.Op.move (Go.Operand.tmp 98), type := 4, pos := "laws.go:4743", after := #[{ on := 1, ground := Go.Ground.data }], guard := none }) (v := ?_) rfl (by kernel_rfl) (by kernel_rfl) (by kernel_rfl) (fun _ _ _ h => h) (Or.inl ⟨by rfl, ?_⟩) (by assumption) ?_
        rotate_left
        · (intro w hSw; (try dsimp only at hSw); go_simp; try with_reducible rfl)
        try simp only [Act.put, List.setIfInBounds_toArray, List.set_cons_zero, List.set_cons_succ]
        refine wpAnyH_take (i := 3) (oi := { dst := some 100, op := Go.Op.move (Go.Operand.tmp 11), type := 3, pos := "laws.go:4743", after := #[{ on := 2, ground := Go.Ground.guard }], guard := some (2, false) }) (v := undef) rfl (by kernel_rfl) (by kernel_rfl) (by kernel_rfl) (fun _ _ _ h => h) (Or.inr ⟨by rfl, rfl⟩) (by assumption) ?_
        try simp only [Act.put, List.setIfInBounds_toArray, List.set_cons_zero, List.set_cons_succ]
        refine wpAnyH_take (i := 4) (oi := { dst := some 101, op := Go.Op.call { callee := Go.Callee.value (Go.Operand.func 13), args := #[Go.Operand.tmp 100], argTypes := #[3] }, type := 27, pos := "laws.go:4743", after := #[{ on := 3, ground := Go.Ground.data }, { on := 2, ground := Go.Ground.chain }, { on := 2, ground := Go.Ground.guard }], guard := some (2, false) }) (v := undef) rfl (by kernel_rfl) (by kernel_rfl) (by kernel_rfl) (fun _ _ _ h => h) (Or.inr ⟨by rfl, rfl⟩) (by assumption) ?_
        try simp only [Act.put, List.setIfInBounds_toArray, List.set_cons_zero, List.set_cons_succ]
        refine wpAnyH_take (i := 5) (oi := { dst := some 102, op := Go.Op.load 27 (Go.Operand.tmp 12), type := 27, pos := "laws.go:4743", after := #[{ on := 2, ground := Go.Ground.guard }], guard := some (2, false) }) (v := undef) rfl (by kernel_rfl) (by kernel_rfl) (by kernel_rfl) (fun _ _ _ h => h) (Or.inr ⟨by rfl, rfl⟩) (by assumption) ?_
        try simp only [Act.put, List.setIfInBounds_toArray, List.set_cons_zero, List.set_cons_succ]
        refine wpAnyH_take (i := 6) (oi := { dst := some 103, op := Go.Op.call { callee := Go.Callee.value (Go.Operand.func 28), args := #[Go.Operand.tmp 101, Go.Operand.tmp 102], argTypes := #[27, 27] }, type := 4, pos := "laws.go:4743", after := #[{ on := 4, ground := Go.Ground.data }, { on := 5, ground := Go.Ground.data }, { on := 4, ground := Go.Ground.chain }, { on := 2, ground := Go.Ground.guard }], guard := some (2, false) }) (v := undef) rfl (by kernel_rfl) (by kernel_rfl) (by kernel_rfl) (fun _ _ _ h => h) (Or.inr ⟨by rfl, rfl⟩) (by assumption) ?_
        try simp only [Act.put, List.setIfInBounds_toArray, List.set_cons_zero, List.set_cons_succ]
        refine wpAnyH_take (i := 7) (oi := { dst := some 104, op := Go.Op.unOp Go.UnOp.not 4 (Go.Operand.tmp 103), type := 4, pos := "laws.go:4743", after := #[{ on := 6, ground := Go.Ground.data }, { on := 2, ground := Go.Ground.guard }], guard := some (2, false) }) (v := undef) rfl (by kernel_rfl) (by kernel_rfl) (by kernel_rfl) (fun _ _ _ h => h) (Or.inr ⟨by rfl, rfl⟩) (by assumption) ?_
        try simp only [Act.put, List.setIfInBounds_toArray, List.set_cons_zero, List.set_cons_succ]
        refine wpAnyH_take (i := 8) (oi := { dst := some 105, op := Go.Op.pick (Go.Operand.tmp 99) (Go.Operand.const (Go.Value.bool true)) (Go.Operand.tmp 104), type := 4, pos := "laws.go:4743", after := #[{ on := 2, ground := Go.Ground.data }, { on := 7, ground := Go.Ground.data }], guard := none }) (v := ?_) rfl (by kernel_rfl) (by kernel_rfl) (by kernel_rfl) (fun _ _ _ h => h) (Or.inl ⟨by rfl, ?_⟩) (by assumption) ?_
        rotate_left
        · (intro w hSw; (try dsimp only at hSw); go_simp; try with_reducible rfl)
        try simp only [Act.put, List.setIfInBounds_toArray, List.set_cons_zero, List.set_cons_succ]
        refine wpAnyH_take (i := 9) (oi := { dst := some 106, op := Go.Op.move (Go.Operand.tmp 105), type := 4, pos := "laws.go:4743", after := #[{ on := 8, ground := Go.Ground.data }, { on := 6, ground := Go.Ground.chain }], guard := none }) (v := ?_) rfl (by kernel_rfl) (by kernel_rfl) (by kernel_rfl) (fun _ _ _ h => h) (Or.inl ⟨by rfl, ?_⟩) (by assumption) ?_
        rotate_left
        · (intro w hSw; (try dsimp only at hSw); go_simp; try with_reducible rfl)
        try simp only [Act.put, List.setIfInBounds_toArray, List.set_cons_zero, List.set_cons_succ]
        refine wpAnyH_take (i := 10) (oi := { dst := some 107, op := Go.Op.move (Go.Operand.tmp 15), type := 4, pos := "laws.go:4743", after := #[{ on := 9, ground := Go.Ground.guard }], guard := some (9, true) }) (v := ?_) rfl (by kernel_rfl) (by kernel_rfl) (by kernel_rfl) (fun _ _ _ h => h) (Or.inl ⟨by rfl, ?_⟩) (by assumption) ?_
        rotate_left
        · (intro w hSw; (try dsimp only at hSw); go_simp; try with_reducible rfl)
        try simp only [Act.put, List.setIfInBounds_toArray, List.set_cons_zero, List.set_cons_succ]
        refine wpAnyH_take (i := 11) (oi := { dst := some 108, op := Go.Op.pick (Go.Operand.tmp 106) (Go.Operand.tmp 107) (Go.Operand.const (Go.Value.bool false)), type := 4, pos := "laws.go:4743", after := #[{ on := 9, ground := Go.Ground.data }, { on := 10, ground := Go.Ground.data }], guard := none }) (v := ?_) rfl (by kernel_rfl) (by kernel_rfl) (by kernel_rfl) (fun _ _ _ h => h) (Or.inl ⟨by rfl, ?_⟩) (by assumption) ?_
        rotate_left
        · (intro w hSw; (try dsimp only at hSw); go_simp; try with_reducible rfl)
        try simp only [Act.put, List.setIfInBounds_toArray, List.set_cons_zero, List.set_cons_succ]
        refine wpAnyH_take (i := 12) (oi := { dst := some 109, op := Go.Op.move (Go.Operand.tmp 108), type := 4, pos := "laws.go:4743", after := #[{ on := 11, ground := Go.Ground.data }, { on := 9, ground := Go.Ground.chain }], guard := none }) (v := ?_) rfl (by kernel_rfl) (by kernel_rfl) (by kernel_rfl) (fun _ _ _ h => h) (Or.inl ⟨by rfl, ?_⟩) (by assumption) ?_
        rotate_left
        · (intro w hSw; (try dsimp only at hSw); go_simp; try with_reducible rfl)
        try simp only [Act.put, List.setIfInBounds_toArray, List.set_cons_zero, List.set_cons_succ]
        refine wpAnyH_take (i := 13) (oi := { dst := some 110, op := Go.Op.load 27 (Go.Operand.tmp 14), type := 27, pos := "laws.go:4743", after := #[{ on := 12, ground := Go.Ground.guard }], guard := some (12, true) }) (v := ?_) rfl (by kernel_rfl) (by kernel_rfl) (by kernel_rfl) (fun _ _ _ h => h) (Or.inl ⟨by rfl, ?_⟩) (by assumption) ?_
        rotate_left
        · (intro w hSw; (try dsimp only at hSw); go_simp; try with_reducible rfl)
        try simp only [Act.put, List.setIfInBounds_toArray, List.set_cons_zero, List.set_cons_succ]
        refine wpAnyH_take (i := 14) (oi := { dst := some 111, op := Go.Op.move (Go.Operand.tmp 11), type := 3, pos := "laws.go:4743", after := #[{ on := 12, ground := Go.Ground.guard }], guard := some (12, true) }) (v := ?_) rfl (by kernel_rfl) (by kernel_rfl) (by kernel_rfl) (fun _ _ _ h => h) (Or.inl ⟨by rfl, ?_⟩) (by assumption) ?_
        rotate_left
        · (intro w hSw; (try dsimp only at hSw); go_simp; try with_reducible rfl)
        try simp only [Act.put, List.setIfInBounds_toArray, List.set_cons_zero, List.set_cons_succ]
        refine wpAnyH_ready (rs := [15]) (by kernel_rfl) (by simp) ?_
        refine (AllReadyH.cons (o := { dst := some 112, op := Go.Op.call { callee := Go.Callee.value (Go.Operand.func 13), args := #[Go.Operand.tmp 111], argTypes := #[3] }, type := 27, pos := "laws.go:4743", after := #[{ on := 14, ground := Go.Ground.data }, { on := 12, ground := Go.Ground.chain }, { on := 12, ground := Go.Ground.guard }], guard := some (12, true) }) rfl (fun K hK => ?_) AllReadyH.nil)
        go_simp
        refine (c_frac (x0 + r) _).mono ?_
        rintro e w12 ⟨rfl, hb⟩
        have hS := boxG_below (cs := [(w9.heap.size, 0, x0 + r), (w9.heap.size, 1, 1), (w8.heap.size, 0, X), (w8.heap.size, 1, XD)]) (boxG_drew HS0.out) hb
        clear hb
        go_wp2_with fail
        refine hK.out _ _ hS (fun hH16 => ?_)
        clear hK K hH0
        try simp only [Act.put, List.setIfInBounds_toArray, List.set_cons_zero, List.set_cons_succ]
        refine wpAnyH_take (i := 16) (oi := { dst := some 113, op := Go.Op.binOp Go.BinOp.eql 27 (Go.Operand.tmp 110) (Go.Operand.tmp 112) 27, type := 4, pos := "laws.go:4743", after := #[{ on := 13, ground := Go.Ground.data }, { on := 15, ground := Go.Ground.data }, { on := 12, ground := Go.Ground.guard }], guard := some (12, true) }) (v := ?_) rfl (by kernel_rfl) (by kernel_rfl) (by kernel_rfl) (fun _ _ _ h => h) (Or.inl ⟨by rfl, ?_⟩) (by assumption) ?_
        rotate_left
        · (intro w hSw; (try dsimp only at hSw); go_simp; try with_reducible rfl)
        try simp only [Act.put, List.setIfInBounds_toArray, List.set_cons_zero, List.set_cons_succ]
        refine wpAnyH_take (i := 17) (oi := { dst := some 114, op := Go.Op.pick (Go.Operand.tmp 109) (Go.Operand.tmp 113) (Go.Operand.const (Go.Value.bool false)), type := 4, pos := "laws.go:4743", after := #[{ on := 12, ground := Go.Ground.data }, { on := 16, ground := Go.Ground.data }], guard := none }) (v := ?_) rfl (by kernel_rfl) (by kernel_rfl) (by kernel_rfl) (fun _ _ _ h => h) (Or.inl ⟨by rfl, ?_⟩) (by assumption) ?_
        rotate_left
        · (intro w hSw; (try dsimp only at hSw); go_simp; try with_reducible rfl)
        try simp only [Act.put, List.setIfInBounds_toArray, List.set_cons_zero, List.set_cons_succ]
        refine wpAnyH_take (i := 18) (oi := { dst := some 4, op := Go.Op.assign (Go.Operand.tmp 114), type := 4, pos := "laws.go:4743", after := #[{ on := 17, ground := Go.Ground.data }, { on := 15, ground := Go.Ground.chain }, { on := 0, ground := Go.Ground.phase }, { on := 1, ground := Go.Ground.phase }, { on := 2, ground := Go.Ground.phase }, { on := 3, ground := Go.Ground.phase }, { on := 4, ground := Go.Ground.phase }, { on := 5, ground := Go.Ground.phase }, { on := 6, ground := Go.Ground.phase }, { on := 7, ground := Go.Ground.phase }, { on := 8, ground := Go.Ground.phase }, { on := 9, ground := Go.Ground.phase }, { on := 10, ground := Go.Ground.phase }, { on := 11, ground := Go.Ground.phase }, { on := 12, ground := Go.Ground.phase }, { on := 13, ground := Go.Ground.phase }, { on := 14, ground := Go.Ground.phase }, { on := 15, ground := Go.Ground.phase }, { on := 16, ground := Go.Ground.phase }, { on := 17, ground := Go.Ground.phase }], guard := none }) (v := ?_) rfl (by kernel_rfl) (by kernel_rfl) (by kernel_rfl) (fun _ _ _ h => h) (Or.inl ⟨by rfl, ?_⟩) (by assumption) ?_
        rotate_left
        · (intro w hSw; (try dsimp only at hSw); go_simp; try with_reducible rfl)
        try simp only [Act.put, List.setIfInBounds_toArray, List.set_cons_zero, List.set_cons_succ]
        refine wpAnyH_done (by kernel_rfl) ?_ _
        refine NoPanic.normal ?_
        go_wp2
        go_ret
        exact ⟨rfl, boxG_end (cs := [(w9.heap.size, 0, x0 + r), (w9.heap.size, 1, 1), (w8.heap.size, 0, X), (w8.heap.size, 1, XD)]) hS⟩
    · go_wp2_with fail
      refine (c_sameKnots _ _ _ _ _ _ (gV l n1 (evG n1 d)) (gV l n1 (evG n1 d)) _ (by omega) (by omega) (HR2.out.below hB23) HR3.out).mono ?_
      rintro e w4 ⟨he, hb⟩
      rw [HQ.out] at he
      subst he
      have hB4 := hB3.trans (hb.mono hB3.size)
      have hB24 := hB23.trans (hb.mono hB23.size)
      have HR4 := Lib.hid (HR3.out.below hb)
      clear hb
      go_wp2_with fail
      refine (c_sameKnots _ _ _ _ _ _ (gV l n1 (evG n1 d)) (gV l n1 (evG n1 d)) _ (by omega) (by omega) (HR2.out.below hB24) HR4.out).mono ?_
      rintro e w5 ⟨he, hb⟩
      rw [HQ.out] at he
      subst he
      have hB5 := hB4.trans (hb.mono hB4.size)
      clear hb
      go_wp2
      go_ret
      exact ⟨rfl, hB5⟩
end Go.Proofs.Ytfngdemjlglliaa
