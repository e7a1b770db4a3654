/-
  The walk of the law FnEven: it returns true and writes nothing that was there.
-/
import Derived.Test.YtfngdemjlglliaaLagMath
import Derived.Test.YtfngdemjlglliaaLagImpl
import Derived.Test.YtfngdemjlglliaaGasLawW
import Derived.Test.YtfngdemjlglliaaGasDraw
import Derived.Test.YtfngdemjlglliaaGasEven
import Derived.Test.YtfngdemjlglliaaSameKnots
import Derived.Test.YtfngdemjlglliaaBoxG
import Derived.Deep.RegionHeld3
namespace Go.Proofs.Ytfngdemjlglliaa
open Go.RowKit

set_option maxHeartbeats 2000000 in
set_option maxRecDepth 4000 in
theorem walk_FnEven (A : Option Addr) (n c : Nat) (A' : Option Addr) (m c' : Nat) (w : World) (h : RdB w A n) (hn : n ≤ maxLen) (hc : n ≤ c) (_h' : RdB w A' m) (hm : m ≤ maxLen) (_hc' : m ≤ c') :
    Calls Try.prog 8 #[.slice A n c, .slice A' m c'] w fun e w' => e = .returned (.bool true) ∧ Below w.heap.size w w' := by
  unfold maxLen at hn hm
  have HB := Lib.hid h
  clear h
  obtain ⟨j0, hj, hy0, hy1, hy2⟩ := info_parts info_int
  have HJ := Lib.hid hj
  have HY0 := Lib.hid hy0
  have HY1 := Lib.hid hy1
  have HY2 := Lib.hid hy2
  clear hj hy0 hy1 hy2
  by_cases hbig : 1048576 < n
  · go_enter Try.func8, Try.ntmps8
    go_wp2
    go_ret
    exact ⟨rfl, Below.refl _ _⟩
  have hd1 : decide ((1048576 : Int) < (n : Int)) = false := by simp; omega
  by_cases hbig2 : 1048576 < m
  · have hd2 : decide ((1048576 : Int) < (m : Int)) = true := by simp; omega
    go_enter Try.func8, Try.ntmps8
    go_wp2
    go_ret
    exact ⟨rfl, Below.refl _ _⟩
  · have hd2 : decide ((1048576 : Int) < (m : Int)) = false := by simp; omega
    go_enter Try.func8, Try.ntmps8
    go_wp2_with fail
    refine (c_DrawGasEven _ _ _ _ HB.out (by omega) hc).mono ?_
    rintro e w1 ⟨A1, n1, c1, l, d, rfl, hd0, hd2, ⟨hn0, hn1, hc1, hr1⟩, hB1⟩
    have HR1 := Lib.hid hr1
    have HL := Lib.hid hr1.len
    have hB11 : Below w1.heap.size w1 w1 := Below.refl _ _
    clear hr1
    go_wp2_with fail
    refine (c_implGasEven _ _ _ l d _ (by omega) HR1.out).mono ?_
    rintro e w2 ⟨A2, n2, c2, rfl, hn2, hO2, hb⟩
    have HR2 := Lib.hid hO2.rd
    have HN2 := Lib.hid hO2.rd.len
    have hB2 := hB1.trans (hb.mono hB1.size)
    have hB12 := hB11.trans hb
    have hB22 : Below w2.heap.size w2 w2 := Below.refl _ _
    clear hO2 hb
    go_wp2_with fail
    refine (c_specGasEven _ _ _ l d _ (by omega) (HR1.out.below hB12)).mono ?_
    rintro e w3 ⟨A3, n3, c3, rfl, hn3, hO3, hb⟩
    have HR3 := Lib.hid hO3.rd
    have hB3 := hB2.trans (hb.mono hB2.size)
    have hB13 := hB12.trans (hb.mono hB12.size)
    have hB23 := hB22.trans hb
    clear hO3 hb
    have HQ := Lib.hid (show eqL (gV l n1 (evG n1 d)) (gV l n1 (evG n1 d)) = true by simp [eqL])
    rcases Bool.eq_false_or_eq_true (okG l n1 (evG n1 d)) with hok | hok
    · have HK := Lib.hid hok
      go_wp2_with fail
      refine (c_sameKnots _ _ _ _ _ _ (gV l n1 (evG n1 d)) (gV l n1 (evG n1 d)) _ (by omega) (by omega) (HR2.out.below hB23) HR3.out).mono ?_
      rintro e w4 ⟨he, hb⟩
      rw [HQ.out] at he
      subst he
      have hB4 := hB3.trans (hb.mono hB3.size)
      have hB14 := hB13.trans (hb.mono hB13.size)
      have hB24 := hB23.trans (hb.mono hB23.size)
      clear hb HR3
      have hq := even_yes (evG_all HL.out d) hok
      obtain ⟨s, s1, s2, s3, s4, s5, s6, s7⟩ := hq
      clear s7
      have HOK := Lib.hid hok
      have HVG := Lib.hid (show vC (gV l n1 (evG n1 d)) = true by rw [gV_yes hok]; exact (okG_yes hok).2.2.2)
      obtain ⟨hb0, _, h2n, _⟩ := vC_yes HVG.out
      have hmono := fun i j (h1 : i < j) (h2 : j < (gV l n1 (evG n1 d)).length) => (vC_mono HVG.out h1 h2).1
      rw [HN2.out] at h2n
      obtain ⟨j, rfl⟩ : ∃ j, n2 = j + 1 := ⟨n2 - 1, by omega⟩
      have hvx0 := hb0 0 (by rw [HN2.out]; omega)
      have hvxl := hb0 j (by rw [HN2.out]; omega)
      have hlt := hmono 0 j (by omega) (by rw [HN2.out]; omega)
      obtain ⟨x0, hx0⟩ : ∃ y, px (gV l n1 (evG n1 d)) 0 = y := ⟨_, rfl⟩
      obtain ⟨xl, hxl⟩ : ∃ y, px (gV l n1 (evG n1 d)) j = y := ⟨_, rfl⟩
      have HX0 := Lib.hid hx0
      have HXL := Lib.hid hxl
      rw [hx0] at hvx0 hlt
      rw [hxl] at hvxl hlt
      have hr0 := Int.emod_nonneg (m : Int) (show xl - x0 + 1 ≠ 0 by omega)
      have hr1 := Int.emod_lt_of_pos (m : Int) (show 0 < xl - x0 + 1 by omega)
      have HTM := Lib.hid (show Int.tmod (m : Int) (xl - x0 + 1) = (m : Int) % (xl - x0 + 1) from Int.tmod_eq_emod_of_nonneg (by omega))
      obtain ⟨r, hr⟩ : ∃ r, (m : Int) % (xl - x0 + 1) = r := ⟨_, rfl⟩
      rw [hr] at hr0 hr1
      have HRR := Lib.hid hr
      clear hr
      have HLAG := Lib.hid (show okL l (gV l n1 (evG n1 d)) (x0 + r) = true ∧ nL l (gV l n1 (evG n1 d)) (x0 + r) = d ∧ dL l (gV l n1 (evG n1 d)) (x0 + r) = 1 by
        have hl : (gV l n1 (evG n1 d)).length - 1 = j := by rw [HN2.out]; omega
        have := even_lag (x := x0 + r) s6 s1 s4 s5 s3
        rw [← s2] at this
        exact this (by rw [hx0]; omega) (by rw [hl, hxl]; omega))
      have HD01 := s4
      have HD02 := s5
      clear s1 s2 s3 s4 s5 s6 hok hb0 hmono hx0 hxl
      have jj : ((j + 1 : Nat) : Int) - 1 = (j : Int) := by omega
      have jj0 : (0 : Int) ≤ (j : Int) := by omega
      have jj1 : (j : Int) < ((j + 1 : Nat) : Int) := by omega
      have jj4 : (0 : Int) < ((j + 1 : Nat) : Int) := by omega
      have hnz : (xl - x0 + 1 == 0) = false := by simp; omega
      go_wp2_with fail
      go_loopw [11, 12] (fun o i wr => EvRel n1 d w4 o i wr) (fun _ i _ => n1 - (intOf i).toNat)
      case atStart => exact ⟨0, Nat.zero_le _, rfl, OwnI.empty w4 3 (Nat.le_refl _), (Below.refl _ _).alloc (Nat.le_refl _) _⟩
      case round =>
        obtain ⟨k, hk, rfl, hO, hB⟩ := hrel
        have HO := Lib.hid hO
        have hsz := hB.size
        clear hO
        by_cases hltk : k < n1
        · go_wp2_with (at_builtin; refine wpList_appendI (by rfl) _ _ 46 rfl w4.heap.size 3 j0 (.int .i64 0) Try.underlying46 HJ.out HY0.out HY1.out HY2.out rfl _ k (List.replicate k d) rfl (HO.out.alloc _) ⟨wr.heap.size, 0, none⟩ d rfl (cell_1 _ _ _) (by omega) (by simp; omega) ?_; intro v' w5 hO5 hB5)
          rw [rep_snoc] at hO5
          go_roundw
          case rel => exact ⟨k + 1, by omega, by go_num, hO5, (hB.alloc hsz _).trans hB5⟩
          case measure => simp [intOf]; omega
        · obtain rfl : k = n1 := by omega
          obtain ⟨A5, c5, rfl, _⟩ := HO.out.form
          have HI5 := Lib.hid HO.out.rdA
          have hB5 := hB4.trans (hB.mono hB4.size)
          have hB15 := hB14.trans (hB.mono hB14.size)
          have hB25 := hB24.trans (hB.mono hB24.size)
          clear HO
          go_wp2_with fail
          refine (c_implGasCurve _ _ _ l _ k _ (List.replicate k d) _ (by omega) (by omega) (HR1.out.below hB15) HI5.out).mono ?_
          rintro e w6 ⟨A6, n6, c6, he, hn6, hO6, hb⟩
          rw [show okG l k (ix (List.replicate k d)) = true from HOK.out] at he
          subst he
          have HR6 := Lib.hid (show RdP w6 A6 n6 (gV l k (evG k d)) from hO6.rd)
          have hB6 := hB5.trans (hb.mono hB5.size)
          have hB16 := hB15.trans (hb.mono hB15.size)
          have hB26 := hB25.trans (hb.mono hB25.size)
          clear hO6 hb
          obtain ⟨b2, o2, rfl, hb2, hc2⟩ := HR2.out.at_ (by omega)
          have g0 : w6.cell? ⟨b2, o2, none⟩ = some (.int .i64 x0) := by
            have := (hc2 0 (by omega)).1
            rw [Nat.zero_mul, Nat.add_zero, HX0.out] at this
            rw [hB26.cell (p := ⟨b2, o2, none⟩) hb2]
            exact this
          have gl : w6.cell? ⟨b2, o2 + j * 2, none⟩ = some (.int .i64 xl) := by
            have := (hc2 j (by omega)).1
            rw [HXL.out] at this
            rw [hB26.cell (p := ⟨b2, o2 + j * 2, none⟩) hb2]
            exact this
          clear hc2
          go_wp2_with fail
          go_quiet (fail)
          rw [HRR.out, show wrap64 (x0 + r) = x0 + r by unfold wrap64; omega]
          have hBq := below_drewC (n := nq) hB6
          have hB1q := below_drewC (n := nq) hB16
          have hB2q := below_drewC (n := nq) hB26
          have HR6q := Lib.hid (HR6.out.drewN nq)
          clear g0 gl
          go_wp2_with fail
          refine (c_implGasLag _ _ _ l _ _ _ (gV l k (evG k d)) (x0 + r) _ (by omega) (by omega) (HR1.out.below hB1q) (HR2.out.below hB2q)).mono ?_
          intro e w8 hp
          obtain ⟨rfl, hb⟩ := hp.val HLAG.out
          clear hp
          have hB8 := bel0 hBq hb
          have hB28 := bel0 hB2q hb
          have HR8 := Lib.hid (HR6q.out.below hb)
          have HR28 := Lib.hid (HR2.out.below hB28)
          have HX8 := Lib.hid ((HR8.out.below ((Below.refl _ _).alloc (Nat.le_refl _) (.cells #[.int .i64 d, .int .i64 1] 27))).drew)
          have HO8 := Lib.hid ((HR28.out.below ((Below.refl _ _).alloc (Nat.le_refl _) (.cells #[.int .i64 d, .int .i64 1] 27))).drew)
          have HS0 := Lib.hid (boxG_new (t := 27) (x := d) (y := 1) (boxG_mk hB8))
          clear hb
          go_wp2_with fail
          refine wp_region_noPanic ?_
          refine wp_region_held_drew (S := (fun W => (W.cell? ⟨w8.heap.size, 0, none⟩ = some (.int .i64 d) ∧ W.cell? ⟨w8.heap.size, 1, none⟩ = some (.int .i64 1) ∧ True) ∧ Below w.heap.size w W)) (by kernel_rfl) (boxG_drew HS0.out) (fun hH0 => ?_)
          refine wpAnyH_take (i := 0) (oi := { dst := some 109, op := Go.Op.move (Go.Operand.tmp 14), type := 4, pos := "laws.go:4691", after := #[], guard := none }) (v := ?_) rfl (by kernel_rfl) (by kernel_rfl) (by kernel_rfl) (fun _ _ _ h => h) (Or.inl ⟨by rfl, ?_⟩) (by assumption) ?_
          rotate_left
          · (intro w hSw; (try dsimp only at hSw); go_simp; try with_reducible rfl)
          try simp only [Act.put, List.setIfInBounds_toArray, List.set_cons_zero, List.set_cons_succ]
          refine wpAnyH_take (i := 1) (oi := { dst := some 110, op := Go.Op.move (Go.Operand.tmp 109), type := 4, pos := "laws.go:4691", after := #[{ on := 0, ground := Go.Ground.data }], guard := none }) (v := ?_) rfl (by kernel_rfl) (by kernel_rfl) (by kernel_rfl) (fun _ _ _ h => h) (Or.inl ⟨by rfl, ?_⟩) (by assumption) ?_
          rotate_left
          · (intro w hSw; (try dsimp only at hSw); go_simp; try with_reducible rfl)
          try simp only [Act.put, List.setIfInBounds_toArray, List.set_cons_zero, List.set_cons_succ]
          refine wpAnyH_take (i := 2) (oi := { dst := some 111, op := Go.Op.move (Go.Operand.tmp 17), type := 4, pos := "laws.go:4691", after := #[{ on := 1, ground := Go.Ground.guard }], guard := some (1, true) }) (v := ?_) rfl (by kernel_rfl) (by kernel_rfl) (by kernel_rfl) (fun _ _ _ h => h) (Or.inl ⟨by rfl, ?_⟩) (by assumption) ?_
          rotate_left
          · (intro w hSw; (try dsimp only at hSw); go_simp; try with_reducible rfl)
          try simp only [Act.put, List.setIfInBounds_toArray, List.set_cons_zero, List.set_cons_succ]
          refine wpAnyH_take (i := 3) (oi := { dst := some 112, op := Go.Op.pick (Go.Operand.tmp 110) (Go.Operand.tmp 111) (Go.Operand.const (Go.Value.bool false)), type := 4, pos := "laws.go:4691", after := #[{ on := 1, ground := Go.Ground.data }, { on := 2, ground := Go.Ground.data }], guard := none }) (v := ?_) rfl (by kernel_rfl) (by kernel_rfl) (by kernel_rfl) (fun _ _ _ h => h) (Or.inl ⟨by rfl, ?_⟩) (by assumption) ?_
          rotate_left
          · (intro w hSw; (try dsimp only at hSw); go_simp; try with_reducible rfl)
          try simp only [Act.put, List.setIfInBounds_toArray, List.set_cons_zero, List.set_cons_succ]
          refine wpAnyH_take (i := 4) (oi := { dst := some 113, op := Go.Op.move (Go.Operand.tmp 112), type := 4, pos := "laws.go:4691", after := #[{ on := 3, ground := Go.Ground.data }, { on := 1, ground := Go.Ground.chain }], guard := none }) (v := ?_) rfl (by kernel_rfl) (by kernel_rfl) (by kernel_rfl) (fun _ _ _ h => h) (Or.inl ⟨by rfl, ?_⟩) (by assumption) ?_
          rotate_left
          · (intro w hSw; (try dsimp only at hSw); go_simp; try with_reducible rfl)
          try simp only [Act.put, List.setIfInBounds_toArray, List.set_cons_zero, List.set_cons_succ]
          refine wpAnyH_take (i := 5) (oi := { dst := some 114, op := Go.Op.move (Go.Operand.tmp 13), type := 23, pos := "laws.go:4691", after := #[{ on := 4, ground := Go.Ground.guard }], guard := some (4, true) }) (v := ?_) rfl (by kernel_rfl) (by kernel_rfl) (by kernel_rfl) (fun _ _ _ h => h) (Or.inl ⟨by rfl, ?_⟩) (by assumption) ?_
          rotate_left
          · (intro w hSw; (try dsimp only at hSw); go_simp; try with_reducible rfl)
          try simp only [Act.put, List.setIfInBounds_toArray, List.set_cons_zero, List.set_cons_succ]
          refine wpAnyH_take (i := 6) (oi := { dst := some 115, op := Go.Op.move (Go.Operand.tmp 7), type := 23, pos := "laws.go:4691", after := #[{ on := 4, ground := Go.Ground.guard }], guard := some (4, true) }) (v := ?_) rfl (by kernel_rfl) (by kernel_rfl) (by kernel_rfl) (fun _ _ _ h => h) (Or.inl ⟨by rfl, ?_⟩) (by assumption) ?_
          rotate_left
          · (intro w hSw; (try dsimp only at hSw); go_simp; try with_reducible rfl)
          try simp only [Act.put, List.setIfInBounds_toArray, List.set_cons_zero, List.set_cons_succ]
          refine wpAnyH_ready (rs := [7]) (by kernel_rfl) (by simp) ?_
          refine (AllReadyH.cons (o := { dst := some 116, op := Go.Op.call { callee := Go.Callee.value (Go.Operand.func 26), args := #[Go.Operand.tmp 114, Go.Operand.tmp 115], argTypes := #[23, 23] }, type := 4, pos := "laws.go:4691", after := #[{ on := 5, ground := Go.Ground.data }, { on := 6, ground := Go.Ground.data }, { on := 4, ground := Go.Ground.chain }, { on := 4, ground := Go.Ground.guard }], guard := some (4, true) }) rfl (fun K hK => ?_) AllReadyH.nil)
          go_simp
          refine (c_sameKnots _ _ _ _ _ _ (gV l k (evG k d)) (gV l k (evG k d)) _ (by omega) (by omega) HX8.out HO8.out).mono ?_
          rintro e w9 ⟨he, hb⟩
          rw [HQ.out] at he
          subst he
          have hS := boxG_below (cs := [(w8.heap.size, 0, d), (w8.heap.size, 1, 1)]) (boxG_drew HS0.out) hb
          clear hb
          go_wp2_with fail
          refine hK.out _ _ hS (fun hH8 => ?_)
          clear hK K hH0
          try simp only [Act.put, List.setIfInBounds_toArray, List.set_cons_zero, List.set_cons_succ]
          refine wpAnyH_take (i := 8) (oi := { dst := some 117, op := Go.Op.pick (Go.Operand.tmp 113) (Go.Operand.tmp 116) (Go.Operand.const (Go.Value.bool false)), type := 4, pos := "laws.go:4691", after := #[{ on := 4, ground := Go.Ground.data }, { on := 7, ground := Go.Ground.data }], guard := none }) (v := ?_) rfl (by kernel_rfl) (by kernel_rfl) (by kernel_rfl) (fun _ _ _ h => h) (Or.inl ⟨by rfl, ?_⟩) (by assumption) ?_
          rotate_left
          · (intro w hSw; (try dsimp only at hSw); go_simp; try with_reducible rfl)
          try simp only [Act.put, List.setIfInBounds_toArray, List.set_cons_zero, List.set_cons_succ]
          refine wpAnyH_take (i := 9) (oi := { dst := some 118, op := Go.Op.move (Go.Operand.tmp 117), type := 4, pos := "laws.go:4691", after := #[{ on := 8, ground := Go.Ground.data }, { on := 7, ground := Go.Ground.chain }], guard := none }) (v := ?_) rfl (by kernel_rfl) (by kernel_rfl) (by kernel_rfl) (fun _ _ _ h => h) (Or.inl ⟨by rfl, ?_⟩) (by assumption) ?_
          rotate_left
          · (intro w hSw; (try dsimp only at hSw); go_simp; try with_reducible rfl)
          try simp only [Act.put, List.setIfInBounds_toArray, List.set_cons_zero, List.set_cons_succ]
          refine wpAnyH_take (i := 10) (oi := { dst := some 119, op := Go.Op.load 27 (Go.Operand.tmp 16), type := 27, pos := "laws.go:4691", after := #[{ on := 9, ground := Go.Ground.guard }], guard := some (9, true) }) (v := ?_) rfl (by kernel_rfl) (by kernel_rfl) (by kernel_rfl) (fun _ _ _ h => h) (Or.inl ⟨by rfl, ?_⟩) (by assumption) ?_
          rotate_left
          · (intro w hSw; (try dsimp only at hSw); go_simp; try with_reducible rfl)
          try simp only [Act.put, List.setIfInBounds_toArray, List.set_cons_zero, List.set_cons_succ]
          refine wpAnyH_take (i := 11) (oi := { dst := some 120, op := Go.Op.move (Go.Operand.tmp 6), type := 3, pos := "laws.go:4691", after := #[{ on := 9, ground := Go.Ground.guard }], guard := some (9, true) }) (v := ?_) rfl (by kernel_rfl) (by kernel_rfl) (by kernel_rfl) (fun _ _ _ h => h) (Or.inl ⟨by rfl, ?_⟩) (by assumption) ?_
          rotate_left
          · (intro w hSw; (try dsimp only at hSw); go_simp; try with_reducible rfl)
          try simp only [Act.put, List.setIfInBounds_toArray, List.set_cons_zero, List.set_cons_succ]
          refine wpAnyH_ready (rs := [12]) (by kernel_rfl) (by simp) ?_
          refine (AllReadyH.cons (o := { dst := some 121, op := Go.Op.call { callee := Go.Callee.value (Go.Operand.func 13), args := #[Go.Operand.tmp 120], argTypes := #[3] }, type := 27, pos := "laws.go:4691", after := #[{ on := 11, ground := Go.Ground.data }, { on := 9, ground := Go.Ground.chain }, { on := 9, ground := Go.Ground.guard }], guard := some (9, true) }) rfl (fun K hK => ?_) AllReadyH.nil)
          go_simp
          refine (c_frac d _).mono ?_
          rintro e w10 ⟨rfl, hb⟩
          have hS := boxG_below (cs := [(w8.heap.size, 0, d), (w8.heap.size, 1, 1)]) hS hb
          clear hb
          go_wp2_with fail
          refine hK.out _ _ hS (fun hH13 => ?_)
          clear hK K hH8
          try simp only [Act.put, List.setIfInBounds_toArray, List.set_cons_zero, List.set_cons_succ]
          refine wpAnyH_take (i := 13) (oi := { dst := some 122, op := Go.Op.binOp Go.BinOp.eql 27 (Go.Operand.tmp 119) (Go.Operand.tmp 121) 27, type := 4, pos := "laws.go:4691", after := #[{ on := 10, ground := Go.Ground.data }, { on := 12, ground := Go.Ground.data }, { on := 9, ground := Go.Ground.guard }], guard := some (9, true) }) (v := ?_) rfl (by kernel_rfl) (by kernel_rfl) (by kernel_rfl) (fun _ _ _ h => h) (Or.inl ⟨by rfl, ?_⟩) (by assumption) ?_
          rotate_left
          · (intro w hSw; (try dsimp only at hSw); go_simp; try with_reducible rfl)
          try simp only [Act.put, List.setIfInBounds_toArray, List.set_cons_zero, List.set_cons_succ]
          refine wpAnyH_take (i := 14) (oi := { dst := some 123, op := Go.Op.pick (Go.Operand.tmp 118) (Go.Operand.tmp 122) (Go.Operand.const (Go.Value.bool false)), type := 4, pos := "laws.go:4691", after := #[{ on := 9, ground := Go.Ground.data }, { on := 13, ground := Go.Ground.data }], guard := none }) (v := ?_) rfl (by kernel_rfl) (by kernel_rfl) (by kernel_rfl) (fun _ _ _ h => h) (Or.inl ⟨by rfl, ?_⟩) (by assumption) ?_
          rotate_left
          · (intro w hSw; (try dsimp only at hSw); go_simp; try with_reducible rfl)
          try simp only [Act.put, List.setIfInBounds_toArray, List.set_cons_zero, List.set_cons_succ]
          refine wpAnyH_take (i := 15) (oi := { dst := some 4, op := Go.Op.assign (Go.Operand.tmp 123), type := 4, pos := "laws.go:4691", after := #[{ on := 14, ground := Go.Ground.data }, { on := 12, ground := Go.Ground.chain }, { on := 0, ground := Go.Ground.phase }, { on := 1, ground := Go.Ground.phase }, { on := 2, ground := Go.Ground.phase }, { on := 3, ground := Go.Ground.phase }, { on := 4, ground := Go.Ground.phase }, { on := 5, ground := Go.Ground.phase }, { on := 6, ground := Go.Ground.phase }, { on := 7, ground := Go.Ground.phase }, { on := 8, ground := Go.Ground.phase }, { on := 9, ground := Go.Ground.phase }, { on := 10, ground := Go.Ground.phase }, { on := 11, ground := Go.Ground.phase }, { on := 12, ground := Go.Ground.phase }, { on := 13, ground := Go.Ground.phase }, { on := 14, ground := Go.Ground.phase }], guard := none }) (v := ?_) rfl (by kernel_rfl) (by kernel_rfl) (by kernel_rfl) (fun _ _ _ h => h) (Or.inl ⟨by rfl, ?_⟩) (by assumption) ?_
          rotate_left
          · (intro w hSw; (try dsimp only at hSw); go_simp; try with_reducible rfl)
          try simp only [Act.put, List.setIfInBounds_toArray, List.set_cons_zero, List.set_cons_succ]
          refine wpAnyH_done (by kernel_rfl) ?_ _
          refine NoPanic.normal ?_
          go_wp2
          go_ret
          exact ⟨rfl, boxG_end (cs := [(w8.heap.size, 0, d), (w8.heap.size, 1, 1)]) hS⟩
    · go_wp2_with fail
      refine (c_sameKnots _ _ _ _ _ _ (gV l n1 (evG n1 d)) (gV l n1 (evG n1 d)) _ (by omega) (by omega) (HR2.out.below hB23) HR3.out).mono ?_
      rintro e w4 ⟨he, hb⟩
      rw [HQ.out] at he
      subst he
      have hB4 := hB3.trans (hb.mono hB3.size)
      have hB24 := hB23.trans (hb.mono hB23.size)
      have HR4 := Lib.hid (HR3.out.below hb)
      clear hb
      go_wp2_with fail
      refine (c_sameKnots _ _ _ _ _ _ (gV l n1 (evG n1 d)) (gV l n1 (evG n1 d)) _ (by omega) (by omega) (HR2.out.below hB24) HR4.out).mono ?_
      rintro e w5 ⟨he, hb⟩
      rw [HQ.out] at he
      subst he
      have hB5 := hB4.trans (hb.mono hB4.size)
      clear hb
      go_wp2
      go_ret
      exact ⟨rfl, hB5⟩
end Go.Proofs.Ytfngdemjlglliaa
