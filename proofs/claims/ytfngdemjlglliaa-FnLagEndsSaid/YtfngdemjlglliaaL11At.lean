/-
  Contract of l11At of the reference.
-/
import Derived.Test.YtfngdemjlglliaaChain
import Derived.Test.YtfngdemjlglliaaWhole
import Derived.Test.YtfngdemjlglliaaFracSubSpec
import Derived.Test.YtfngdemjlglliaaFracMulSpec
import Derived.Test.YtfngdemjlglliaaFracAddSpec
import Derived.Test.YtfngdemjlglliaaFracLessSpec
import Derived.Deep.RegionHeld3
namespace Go.Proofs.Ytfngdemjlglliaa
open Go.RowKit

set_option maxHeartbeats 8000000 in
set_option maxRecDepth 4000 in
theorem c_l11At (A : Option Addr) (n c : Nat) (l : List (Int × Int)) (N D : Int) (w : World) (hn : n ≤ 2000000) (h : RdP w A n l) (hv : vC l = true) (hin : inC l N D = true) (hf : vF N D = true) (h2 : D ≤ 30000) :
    Calls Try.prog 51 #[.slice A n c, .agg #[.int .i64 N, .int .i64 D]] w (AtPost l N D w) := by
  have HR := Lib.hid h
  have HL := Lib.hid h.len
  have HV := Lib.hid hv
  have HF := Lib.hid hf
  have h1 := (vF_yes hf).1
  obtain ⟨hb0, hmono, h2n, _⟩ := vC_yes hv
  have HB := Lib.hid hb0
  have HM := Lib.hid hmono
  have hnn : 2 ≤ n := by have := HL.out; omega
  have hio := of_decide_eq_true hin
  rw [HL.out] at hio
  have HTOP := Lib.hid hio.2
  obtain ⟨b, off, rfl, hb, hc⟩ := h.at_ (by omega)
  have HC := Lib.hid hc
  obtain ⟨x0, hx0⟩ : ∃ x, px l 0 = x := ⟨_, rfl⟩
  have HX0 := Lib.hid hx0
  have hlow := hio.1
  rw [hx0] at hlow
  clear h hv hb0 hmono hc hx0 h2n hin hf hio
  go_enter Try.func51, Try.ntmps51
  go_wp2
  go_loopw [6] (fun i wr => AtRel n l N D w i wr) (fun i _ => n - (intOf i).toNat)
  case atStart => exact ⟨1, by omega, by omega, rfl, fun j a b => by omega, ((blk_new w _ _).alloc _), blk_new1 w _ _ _, (((Below.refl _ _).alloc (Nat.le_refl _) _).alloc (by simp) _)⟩
  case round =>
    obtain ⟨k, hk1, hk, rfl, hp, hX, hY, hB⟩ := hrel
    have HP := Lib.hid hp
    have X3 := Lib.hid hX
    have Y3 := Lib.hid hY
    have hsz := hB.size
    have hbl : b < wr.heap.size := by omega
    have hlt : k < n := by
      by_cases e : k = n
      · have a := hp (n - 1) (by omega) (by omega)
        have := HTOP.out
        omega
      · omega
    obtain ⟨j, rfl⟩ : ∃ j, k = j + 1 := ⟨k - 1, by omega⟩
    have hj : ((j + 1 : Nat) : Int) - 1 = (j : Int) := by omega
    have hj0 : (0 : Int) ≤ (j : Int) := by omega
    have hj1 : (j : Int) < (n : Int) := by omega
    have hj2 : (0 : Int) ≤ ((j + 1 : Nat) : Int) := by omega
    have hj3 : ((j + 1 : Nat) : Int) < (n : Int) := by omega
    have hj4 : (0 : Int) ≤ (j : Int) + 1 := by omega
    have hj5 : (j : Int) + 1 < (n : Int) := by omega
    obtain ⟨p0, p1⟩ := HC.out j (by omega)
    obtain ⟨q0, q1⟩ := HC.out (j + 1) hlt
    have q3 := q0
    rw [← hB.cell (p := ⟨b, off + (j + 1) * 2, none⟩) hb] at q3
    have HIN1 := Lib.hid (show j + 1 < l.length by have := HL.out; omega)
    obtain ⟨a0, a1, c0, c1⟩ := HB.out j (by have := HL.out; omega)
    obtain ⟨b0, b1, d0, d1⟩ := HB.out (j + 1) HIN1.out
    obtain ⟨u0, u1⟩ := HM.out (j + 1) (by omega) HIN1.out
    rw [Nat.add_sub_cancel] at u0 u1
    obtain ⟨xa, hxa⟩ : ∃ x, px l j = x := ⟨_, rfl⟩
    obtain ⟨ya, hya⟩ : ∃ x, py l j = x := ⟨_, rfl⟩
    obtain ⟨xb, hxb⟩ : ∃ x, px l (j + 1) = x := ⟨_, rfl⟩
    obtain ⟨yb, hyb⟩ : ∃ x, py l (j + 1) = x := ⟨_, rfl⟩
    have HXA := Lib.hid hxa
    have HYA := Lib.hid hya
    have HXB := Lib.hid hxb
    have HYB := Lib.hid hyb
    rw [hxa] at p0 a0 a1 u0
    rw [hya] at p1 c0 c1 u1
    rw [hxb] at q0 q3 b0 b1 u0
    rw [hyb] at q1 d0 d1 u1
    have HS0 := Lib.hid (boxG_two (boxG_cons (boxG_mk (Below.refl _ wr)) q3) hX)
    have hless := (less_whole b0 b1 HF.out).1
    clear hp hX hY hxa hya hxb hyb q3
    by_cases ht : xb * D < N
    · have HN := Lib.hid (past_step HP.out (show px l (j + 1) * D < N by rw [HXB.out]; exact ht))
      have HLESS := Lib.hid (hless.trans (decide_eq_true ht))
      clear hless
      go_wp2_with fail
      refine wp_region_noPanic ?_
      refine wp_region_held_drew (S := (fun W => (W.cell? ⟨w.heap.size, 0, none⟩ = some (.int .i64 N) ∧ W.cell? ⟨w.heap.size, 1, none⟩ = some (.int .i64 D) ∧ W.cell? ⟨b, off + (j + 1) * 2, none⟩ = some (.int .i64 xb) ∧ True) ∧ Below wr.heap.size wr W)) (by kernel_rfl) (boxG_drew HS0.out) (fun hH0 => ?_)
      refine wpAnyH_take (i := 0) (oi := { dst := some 15, op := Go.Op.move (Go.Operand.tmp 0), type := 23, pos := "l11_curves.go:28", after := #[], guard := none }) (v := ?_) rfl (by kernel_rfl) (by kernel_rfl) (by kernel_rfl) (fun _ _ _ h => h) (Or.inl ⟨by rfl, ?_⟩) (by assumption) ?_
      rotate_left
      · (intro w hSw; (try dsimp only at hSw); go_simp; try with_reducible rfl)
      try simp only [Act.put, List.setIfInBounds_toArray, List.set_cons_zero, List.set_cons_succ]
      refine wpAnyH_take (i := 1) (oi := { dst := some 16, op := Go.Op.move (Go.Operand.tmp 6), type := 3, pos := "l11_curves.go:28", after := #[], guard := none }) (v := ?_) rfl (by kernel_rfl) (by kernel_rfl) (by kernel_rfl) (fun _ _ _ h => h) (Or.inl ⟨by rfl, ?_⟩) (by assumption) ?_
      rotate_left
      · (intro w hSw; (try dsimp only at hSw); go_simp; try with_reducible rfl)
      try simp only [Act.put, List.setIfInBounds_toArray, List.set_cons_zero, List.set_cons_succ]
      refine wpAnyH_take (i := 2) (oi := { dst := some 17, op := Go.Op.indexAddr 23 (Go.Operand.tmp 15) (Go.Operand.tmp 16), type := 0, pos := "l11_curves.go:28", after := #[{ on := 0, ground := Go.Ground.data }, { on := 1, ground := Go.Ground.data }], guard := none }) (v := ?_) rfl (by kernel_rfl) (by kernel_rfl) (by kernel_rfl) (fun _ _ _ h => h) (Or.inl ⟨by rfl, ?_⟩) (by assumption) ?_
      rotate_left
      · (intro w hSw; (try dsimp only at hSw); go_simp; try with_reducible rfl)
      try simp only [Act.put, List.setIfInBounds_toArray, List.set_cons_zero, List.set_cons_succ]
      refine wpAnyH_take (i := 3) (oi := { dst := some 18, op := Go.Op.fieldAddr 31 (Go.Operand.tmp 17) 0, type := 0, pos := "l11_curves.go:28", after := #[{ on := 2, ground := Go.Ground.data }], guard := none }) (v := ?_) rfl (by kernel_rfl) (by kernel_rfl) (by kernel_rfl) (fun _ _ _ h => h) (Or.inl ⟨by rfl, ?_⟩) (by assumption) ?_
      rotate_left
      · (intro w hSw; (try dsimp only at hSw); go_simp; try with_reducible rfl)
      try simp only [Act.put, List.setIfInBounds_toArray, List.set_cons_zero, List.set_cons_succ]
      refine wpAnyH_take (i := 4) (oi := { dst := some 19, op := Go.Op.load 3 (Go.Operand.tmp 18), type := 3, pos := "l11_curves.go:28", after := #[{ on := 3, ground := Go.Ground.data }], guard := none }) (v := ?_) rfl (by kernel_rfl) (by kernel_rfl) (by kernel_rfl) (fun _ _ _ h => h) (Or.inl ⟨by rfl, ?_⟩) (by assumption) ?_
      rotate_left
      · (intro w hSw; (try dsimp only at hSw); go_simp; try with_reducible rfl)
      try simp only [Act.put, List.setIfInBounds_toArray, List.set_cons_zero, List.set_cons_succ]
      refine wpAnyH_take (i := 6) (oi := { dst := some 21, op := Go.Op.load 27 (Go.Operand.tmp 3), type := 27, pos := "l11_curves.go:28", after := #[], guard := none }) (v := ?_) rfl (by kernel_rfl) (by kernel_rfl) (by kernel_rfl) (fun _ _ _ h => h) (Or.inl ⟨by rfl, ?_⟩) (by assumption) ?_
      rotate_left
      · (intro w hSw; (try dsimp only at hSw); go_simp; try with_reducible rfl)
      try simp only [Act.put, List.setIfInBounds_toArray, List.set_cons_zero, List.set_cons_succ]
      refine wpAnyH_ready (rs := [5]) (by kernel_rfl) (by simp) ?_
      refine (AllReadyH.cons (o := { dst := some 20, op := Go.Op.call { callee := Go.Callee.value (Go.Operand.func 52), args := #[Go.Operand.tmp 19], argTypes := #[3] }, type := 27, pos := "l11_curves.go:28", after := #[{ on := 4, ground := Go.Ground.data }], guard := none }) rfl (fun K hK => ?_) AllReadyH.nil)
      go_simp
      refine (c_l11Whole xb _).mono ?_
      rintro e w5 ⟨rfl, hb⟩
      have hS := boxG_below (cs := [(w.heap.size, 0, N), (w.heap.size, 1, D), (b, off + (j + 1) * 2, xb)]) (boxG_drew HS0.out) hb
      clear hb
      go_wp2_with fail
      refine hK.out _ _ hS (fun hH7 => ?_)
      clear hK K hH0
      try simp only [Act.put, List.setIfInBounds_toArray, List.set_cons_zero, List.set_cons_succ]
      refine wpAnyH_ready (rs := [7]) (by kernel_rfl) (by simp) ?_
      refine (AllReadyH.cons (o := { dst := some 22, op := Go.Op.call { callee := Go.Callee.value (Go.Operand.func 60), args := #[Go.Operand.tmp 20, Go.Operand.tmp 21], argTypes := #[27, 27] }, type := 4, pos := "l11_curves.go:28", after := #[{ on := 5, ground := Go.Ground.data }, { on := 6, ground := Go.Ground.data }, { on := 5, ground := Go.Ground.chain }], guard := none }) rfl (fun K hK => ?_) AllReadyH.nil)
      go_simp
      refine (c_specFracLess xb 1 N D _).mono ?_
      rintro e w6 ⟨he, hb⟩
      rw [HLESS.out] at he
      subst he
      have hS := boxG_below (cs := [(w.heap.size, 0, N), (w.heap.size, 1, D), (b, off + (j + 1) * 2, xb)]) hS hb
      clear hb
      go_wp2_with fail
      refine hK.out _ _ hS (fun hH8 => ?_)
      clear hK K hH7
      try simp only [Act.put, List.setIfInBounds_toArray, List.set_cons_zero, List.set_cons_succ]
      refine wpAnyH_done (by kernel_rfl) ?_ _
      refine NoPanic.normal ?_
      have hB36 := boxG_end hS
      have X6 := Lib.hid (blk_b0 X3.out hB36)
      have Y6 := Lib.hid (blk_b0 Y3.out hB36)
      have hB6 := bel0 hB hB36
      have hsz6 := hB6.size
      have y6 := Y6.out.lt
      clear hS hB36 HS0
      go_wp2
      go_roundw
      case rel => exact ⟨j + 1 + 1, by omega, by omega, by go_num, HN.out, X6.out, Y6.out, hB6⟩
      case measure => simp [intOf]; omega
    · have HLESS := Lib.hid (hless.trans (decide_eq_false ht))
      clear hless
      go_wp2_with fail
      refine wp_region_noPanic ?_
      refine wp_region_held_drew (S := (fun W => (W.cell? ⟨w.heap.size, 0, none⟩ = some (.int .i64 N) ∧ W.cell? ⟨w.heap.size, 1, none⟩ = some (.int .i64 D) ∧ W.cell? ⟨b, off + (j + 1) * 2, none⟩ = some (.int .i64 xb) ∧ True) ∧ Below wr.heap.size wr W)) (by kernel_rfl) (boxG_drew HS0.out) (fun hH0 => ?_)
      refine wpAnyH_take (i := 0) (oi := { dst := some 15, op := Go.Op.move (Go.Operand.tmp 0), type := 23, pos := "l11_curves.go:28", after := #[], guard := none }) (v := ?_) rfl (by kernel_rfl) (by kernel_rfl) (by kernel_rfl) (fun _ _ _ h => h) (Or.inl ⟨by rfl, ?_⟩) (by assumption) ?_
      rotate_left
      · (intro w hSw; (try dsimp only at hSw); go_simp; try with_reducible rfl)
      try simp only [Act.put, List.setIfInBounds_toArray, List.set_cons_zero, List.set_cons_succ]
      refine wpAnyH_take (i := 1) (oi := { dst := some 16, op := Go.Op.move (Go.Operand.tmp 6), type := 3, pos := "l11_curves.go:28", after := #[], guard := none }) (v := ?_) rfl (by kernel_rfl) (by kernel_rfl) (by kernel_rfl) (fun _ _ _ h => h) (Or.inl ⟨by rfl, ?_⟩) (by assumption) ?_
      rotate_left
      · (intro w hSw; (try dsimp only at hSw); go_simp; try with_reducible rfl)
      try simp only [Act.put, List.setIfInBounds_toArray, List.set_cons_zero, List.set_cons_succ]
      refine wpAnyH_take (i := 2) (oi := { dst := some 17, op := Go.Op.indexAddr 23 (Go.Operand.tmp 15) (Go.Operand.tmp 16), type := 0, pos := "l11_curves.go:28", after := #[{ on := 0, ground := Go.Ground.data }, { on := 1, ground := Go.Ground.data }], guard := none }) (v := ?_) rfl (by kernel_rfl) (by kernel_rfl) (by kernel_rfl) (fun _ _ _ h => h) (Or.inl ⟨by rfl, ?_⟩) (by assumption) ?_
      rotate_left
      · (intro w hSw; (try dsimp only at hSw); go_simp; try with_reducible rfl)
      try simp only [Act.put, List.setIfInBounds_toArray, List.set_cons_zero, List.set_cons_succ]
      refine wpAnyH_take (i := 3) (oi := { dst := some 18, op := Go.Op.fieldAddr 31 (Go.Operand.tmp 17) 0, type := 0, pos := "l11_curves.go:28", after := #[{ on := 2, ground := Go.Ground.data }], guard := none }) (v := ?_) rfl (by kernel_rfl) (by kernel_rfl) (by kernel_rfl) (fun _ _ _ h => h) (Or.inl ⟨by rfl, ?_⟩) (by assumption) ?_
      rotate_left
      · (intro w hSw; (try dsimp only at hSw); go_simp; try with_reducible rfl)
      try simp only [Act.put, List.setIfInBounds_toArray, List.set_cons_zero, List.set_cons_succ]
      refine wpAnyH_take (i := 4) (oi := { dst := some 19, op := Go.Op.load 3 (Go.Operand.tmp 18), type := 3, pos := "l11_curves.go:28", after := #[{ on := 3, ground := Go.Ground.data }], guard := none }) (v := ?_) rfl (by kernel_rfl) (by kernel_rfl) (by kernel_rfl) (fun _ _ _ h => h) (Or.inl ⟨by rfl, ?_⟩) (by assumption) ?_
      rotate_left
      · (intro w hSw; (try dsimp only at hSw); go_simp; try with_reducible rfl)
      try simp only [Act.put, List.setIfInBounds_toArray, List.set_cons_zero, List.set_cons_succ]
      refine wpAnyH_take (i := 6) (oi := { dst := some 21, op := Go.Op.load 27 (Go.Operand.tmp 3), type := 27, pos := "l11_curves.go:28", after := #[], guard := none }) (v := ?_) rfl (by kernel_rfl) (by kernel_rfl) (by kernel_rfl) (fun _ _ _ h => h) (Or.inl ⟨by rfl, ?_⟩) (by assumption) ?_
      rotate_left
      · (intro w hSw; (try dsimp only at hSw); go_simp; try with_reducible rfl)
      try simp only [Act.put, List.setIfInBounds_toArray, List.set_cons_zero, List.set_cons_succ]
      refine wpAnyH_ready (rs := [5]) (by kernel_rfl) (by simp) ?_
      refine (AllReadyH.cons (o := { dst := some 20, op := Go.Op.call { callee := Go.Callee.value (Go.Operand.func 52), args := #[Go.Operand.tmp 19], argTypes := #[3] }, type := 27, pos := "l11_curves.go:28", after := #[{ on := 4, ground := Go.Ground.data }], guard := none }) rfl (fun K hK => ?_) AllReadyH.nil)
      go_simp
      refine (c_l11Whole xb _).mono ?_
      rintro e w5 ⟨rfl, hb⟩
      have hS := boxG_below (cs := [(w.heap.size, 0, N), (w.heap.size, 1, D), (b, off + (j + 1) * 2, xb)]) (boxG_drew HS0.out) hb
      clear hb
      go_wp2_with fail
      refine hK.out _ _ hS (fun hH7 => ?_)
      clear hK K hH0
      try simp only [Act.put, List.setIfInBounds_toArray, List.set_cons_zero, List.set_cons_succ]
      refine wpAnyH_ready (rs := [7]) (by kernel_rfl) (by simp) ?_
      refine (AllReadyH.cons (o := { dst := some 22, op := Go.Op.call { callee := Go.Callee.value (Go.Operand.func 60), args := #[Go.Operand.tmp 20, Go.Operand.tmp 21], argTypes := #[27, 27] }, type := 4, pos := "l11_curves.go:28", after := #[{ on := 5, ground := Go.Ground.data }, { on := 6, ground := Go.Ground.data }, { on := 5, ground := Go.Ground.chain }], guard := none }) rfl (fun K hK => ?_) AllReadyH.nil)
      go_simp
      refine (c_specFracLess xb 1 N D _).mono ?_
      rintro e w6 ⟨he, hb⟩
      rw [HLESS.out] at he
      subst he
      have hS := boxG_below (cs := [(w.heap.size, 0, N), (w.heap.size, 1, D), (b, off + (j + 1) * 2, xb)]) hS hb
      clear hb
      go_wp2_with fail
      refine hK.out _ _ hS (fun hH8 => ?_)
      clear hK K hH7
      try simp only [Act.put, List.setIfInBounds_toArray, List.set_cons_zero, List.set_cons_succ]
      refine wpAnyH_done (by kernel_rfl) ?_ _
      refine NoPanic.normal ?_
      have hB36 := boxG_end hS
      have X6 := Lib.hid (blk_b0 X3.out hB36)
      have Y6 := Lib.hid (blk_b0 Y3.out hB36)
      have hB6 := bel0 hB hB36
      have hsz6 := hB6.size
      have y6 := Y6.out.lt
      clear hS hB36 HS0
      have p0' : w6.cell? ⟨b, off + j * 2, none⟩ = some (.int .i64 xa) := by rw [hB6.cell (p := ⟨b, off + j * 2, none⟩) hb]; exact p0
      have p1' : w6.cell? ⟨b, off + j * 2 + 1, none⟩ = some (.int .i64 ya) := by rw [hB6.cell (p := ⟨b, off + j * 2 + 1, none⟩) hb]; exact p1
      have q0' : w6.cell? ⟨b, off + (j + 1) * 2, none⟩ = some (.int .i64 xb) := by rw [hB6.cell (p := ⟨b, off + (j + 1) * 2, none⟩) hb]; exact q0
      have q1' : w6.cell? ⟨b, off + (j + 1) * 2 + 1, none⟩ = some (.int .i64 yb) := by rw [hB6.cell (p := ⟨b, off + (j + 1) * 2 + 1, none⟩) hb]; exact q1
      have hbl6 : b < w6.heap.size := by omega
      clear p0 p1 q0 q1
      have HS := Lib.hid (show IsSeg l N D (j + 1) from ⟨by omega, HIN1.out, by rw [HX0.out]; omega, HP.out, by rw [HXB.out]; omega⟩)
      obtain ⟨p, rn, rd, ⟨a1, a2, a3, a4⟩, ⟨b1, b2, b3⟩, hT2, hcase⟩ := chain_all HS.out HV.out HF.out h2 HXA.out HYA.out HXB.out HYB.out
      have P1 := Lib.hid a1
      have P2 := Lib.hid a2
      have P3 := Lib.hid a3
      have P4 := Lib.hid a4
      have Q1 := Lib.hid b1
      have Q2 := Lib.hid b2
      have Q3 := Lib.hid b3
      have T2 := Lib.hid hT2
      have HCASE := Lib.hid hcase
      clear a1 a2 a3 a4 b1 b2 b3 hT2 hcase
      go_wp2_with fail
      refine (c_specFracOf _ _ _).mono ?_
      intro e w7 hp
      obtain ⟨rfl, hb7⟩ := of_at Q1.out Q2.out Q3.out hp
      clear hp
      have X7 := Lib.hid (blk_b2 X6.out hb7)
      have Y7 := Lib.hid (blk_b2 Y6.out hb7)
      have A7 := Lib.hid (blk_n2 hb7)
      have hB7 := bel2 hB6 hb7
      clear hb7 p0' p1' q0' q1'
      go_wp2_with fail
      refine absC (S := fun W => Blk W w.heap.size 27 #[.int .i64 N, .int .i64 D] ∧ Blk W (w.heap.size + 1) 27 #[.int .i64 0, .int .i64 0] ∧ Blk W w6.heap.size 31 #[.int .i64 xa, .int .i64 ya] ∧ Blk W w7.heap.size 27 #[.int .i64 rn, .int .i64 rd] ∧ Below w.heap.size w W) ?_ ⟨X7.out.alloc _, Y7.out.alloc _, A7.out.alloc _, blk_new _ _ _, hB7.alloc hB7.size _⟩
      rintro W4 ⟨hx4, hy4, ha4, hs4, hB4⟩
      have HS4 := Lib.hid (boxG_two (boxG_cons (boxG_mk (Below.refl _ W4)) ha4.two.1) hx4)
      have Y4 := Lib.hid hy4
      have A4 := Lib.hid ha4
      have S4 := Lib.hid hs4
      clear hx4 hy4 ha4 hs4 X7 Y7 A7 hB7 X6 Y6 X3 Y3 hB HR HC HB HM hB6
      go_wp2_with fail
      apply way_cut (B := fun g W => BoxG W4 ((g, 0, p) :: (g, 1, D) :: [(w.heap.size, 0, N), (w.heap.size, 1, D), (w6.heap.size, 0, xa)]) W)
      · intro REST
        have HREST := Lib.hid REST
        clear REST
        go_region_held3 (fun W => (W.cell? ⟨w.heap.size, 0, none⟩ = some (.int .i64 N) ∧ W.cell? ⟨w.heap.size, 1, none⟩ = some (.int .i64 D) ∧ W.cell? ⟨w6.heap.size, 0, none⟩ = some (.int .i64 xa) ∧ True) ∧ Below W4.heap.size W4 W) (first | exact HS4.out | exact boxG_drew (cs := [(w.heap.size, 0, N), (w.heap.size, 1, D), (w6.heap.size, 0, xa)]) (HS4.out) | assumption | exact boxG_alloc (cs := [(w.heap.size, 0, N), (w.heap.size, 1, D), (w6.heap.size, 0, xa)]) (by assumption) _ | exact boxG_set (cs := [(w.heap.size, 0, N), (w.heap.size, 1, D), (w6.heap.size, 0, xa)]) (by assumption) hY _ _) (first | (go_at_call 33; (with_reducible refine (c_specFracSub N D xa 1 _).mono ?_); intro e w5 hp; obtain ⟨rfl, hb⟩ := op_at P1.out P2.out P3.out P4.out hp; clear hp; (first | (have hX := blk_n1 hb; obtain ⟨q0, q1, q2, q3⟩ := hX.two; have hY := boxG_lt hS) | (have hX := blk_b0 hX hb; obtain ⟨q0, q1, q2, q3⟩ := hX.two) | skip); have hS := boxG_below (cs := [(w.heap.size, 0, N), (w.heap.size, 1, D), (w6.heap.size, 0, xa)]) (by assumption) hb; clear hb) | (go_at_call 52; (with_reducible refine (c_l11Whole xa _).mono ?_); rintro e w5 ⟨rfl, hb⟩; (first | (have hX := blk_n1d hb; obtain ⟨q0, q1, q2, q3⟩ := hX.two; have hY := boxG_lt HS4.out) | skip); have hS := boxG_below (cs := [(w.heap.size, 0, N), (w.heap.size, 1, D), (w6.heap.size, 0, xa)]) (by assumption) hb; clear hb))
        all_goals
          first
          | (obtain ⟨g, hg⟩ : ∃ g, g = w5.heap.size := ⟨_, rfl⟩
             rw [← hg]
             refine absW (S := fun W => BoxG W4 ((g, 0, p) :: (g, 1, D) :: [(w.heap.size, 0, N), (w.heap.size, 1, D), (w6.heap.size, 0, xa)]) W) ?_ (by rw [hg]; exact boxG_new (cs := [(w.heap.size, 0, N), (w.heap.size, 1, D), (w6.heap.size, 0, xa)]) hS)
             intro Wz hz
             exact HREST.out g Wz hz)
          | (obtain ⟨g, hg⟩ := blk_name hX
             rw [← hg]
             refine absW (S := fun W => BoxG W4 ((g, 0, p) :: (g, 1, D) :: [(w.heap.size, 0, N), (w.heap.size, 1, D), (w6.heap.size, 0, xa)]) W) ?_ (by rw [hg]; exact boxG_upd (cs := [(w.heap.size, 0, N), (w.heap.size, 1, D), (w6.heap.size, 0, xa)]) (by assumption) hX)
             intro Wz hz
             exact HREST.out g Wz hz)
      intro g5 W5 h5
      have Y5 := Lib.hid (blk_b0 Y4.out h5.2)
      have A5 := Lib.hid (blk_b0 A4.out h5.2)
      have S5 := Lib.hid (blk_b0 S4.out h5.2)
      have hB5 := bel0 hB4 h5.2
      obtain ⟨⟨d0, d1, _⟩, _⟩ := h5
      obtain ⟨s0, s1, _, _⟩ := S5.out.two
      have yg := cell_lt d0
      have ys := S5.out.lt
      clear HS4 Y4 A4 S4 hB4
      rcases HCASE.out with ⟨hno, hnA⟩ | ⟨en, ed, k0, k1, k2, k3, k4, k5, k6⟩
      · have HNO := Lib.hid hno
        have HNA := Lib.hid hnA
        clear hno hnA HCASE
        go_wp2_with fail
        refine (c_specFracMul p D rn rd _).mono ?_
        intro e w8 hp
        obtain ⟨rfl, hb8⟩ := op_bad HNO.out hp
        clear hp
        have Y8 := Lib.hid (blk_b0 Y5.out hb8)
        have hB8 := bel0 hB5 hb8
        obtain ⟨y0, y1, y2, y3⟩ := Y8.out.two
        have yy := Y8.out.lt
        clear hb8 d0 d1 s0 s1
        go_wp2_with (
          with_reducible refine bodyPost_ret (v := .tuple #[.agg #[.int .i64 (0), .int .i64 (0)], .bool false]) ?_ ?_ ?_
          · simp [results, Try.results51, go_sem, *]
          · rfl
          · refine at_no HNA.out ?_
            go_grown)
      · have L0 := Lib.hid k0
        have L1 := Lib.hid k1
        have L2 := Lib.hid k2
        have K1 := Lib.hid k3
        have K2 := Lib.hid k4
        have K3 := Lib.hid k5
        have K4 := Lib.hid k6
        clear k0 k1 k2 k3 k4 k5 k6 HCASE
        go_wp2_with fail
        refine (c_specFracMul p D rn rd _).mono ?_
        intro e w8 hp
        obtain ⟨rfl, hb8⟩ := op_at T2.out L1.out L2.out L0.out hp
        clear hp
        have Y8 := Lib.hid (blk_b0 Y5.out hb8)
        have A8 := Lib.hid (blk_b0 A5.out hb8)
        have hB8 := bel0 hB5 hb8
        clear hb8 d0 d1 s0 s1
        go_wp2_with fail
        refine absC (S := fun W => Blk W (w.heap.size + 1) 27 #[.int .i64 0, .int .i64 0] ∧ Blk W w6.heap.size 31 #[.int .i64 xa, .int .i64 ya] ∧ Blk W w8.heap.size 27 #[.int .i64 en, .int .i64 ed] ∧ Below w.heap.size w W) ?_ ⟨Y8.out.alloc _, A8.out.alloc _, blk_new _ _ _, hB8.alloc hB8.size _⟩
        rintro W9 ⟨hy9, ha9, he9, hB9⟩
        have HS9 := Lib.hid (boxG_cons (boxG_two (boxG_mk hB9) he9) ha9.two.2.1)
        have Y9 := Lib.hid hy9
        have HNE := Lib.hid (show ∀ c ∈ ([(w6.heap.size, 1, ya), (w8.heap.size, 0, en), (w8.heap.size, 1, ed)] : List (Nat × Nat × Int)), c.1 ≠ w.heap.size + 1 by
          intro c hc
          have a := Y8.out.lt
          simp at hc
          rcases hc with rfl | rfl | rfl <;> simp <;> omega)
        clear hy9 ha9 he9 hB9 Y8 A8 hB8 S5 A5 Y5 hB5
        go_wp2_with fail
        refine wp_region_noPanic ?_
        refine wp_region_held_drew (S := (fun W => (W.cell? ⟨w6.heap.size, 1, none⟩ = some (.int .i64 ya) ∧ W.cell? ⟨w8.heap.size, 0, none⟩ = some (.int .i64 en) ∧ W.cell? ⟨w8.heap.size, 1, none⟩ = some (.int .i64 ed) ∧ True) ∧ Below w.heap.size w W)) (by kernel_rfl) (boxG_drew HS9.out) (fun hH0 => ?_)
        refine wpAnyH_take (i := 0) (oi := { dst := some 69, op := Go.Op.fieldAddr 31 (Go.Operand.tmp 7) 1, type := 0, pos := "l11_curves.go:39", after := #[], guard := none }) (v := ?_) rfl (by kernel_rfl) (by kernel_rfl) (by kernel_rfl) (fun _ _ _ h => h) (Or.inl ⟨by rfl, ?_⟩) (by assumption) ?_
        rotate_left
        · (intro w hSw; (try dsimp only at hSw); go_simp; try with_reducible rfl)
        try simp only [Act.put, List.setIfInBounds_toArray, List.set_cons_zero, List.set_cons_succ]
        refine wpAnyH_take (i := 1) (oi := { dst := some 70, op := Go.Op.load 3 (Go.Operand.tmp 69), type := 3, pos := "l11_curves.go:39", after := #[{ on := 0, ground := Go.Ground.data }], guard := none }) (v := ?_) rfl (by kernel_rfl) (by kernel_rfl) (by kernel_rfl) (fun _ _ _ h => h) (Or.inl ⟨by rfl, ?_⟩) (by assumption) ?_
        rotate_left
        · (intro w hSw; (try dsimp only at hSw); go_simp; try with_reducible rfl)
        try simp only [Act.put, List.setIfInBounds_toArray, List.set_cons_zero, List.set_cons_succ]
        refine wpAnyH_take (i := 3) (oi := { dst := some 72, op := Go.Op.load 27 (Go.Operand.tmp 13), type := 27, pos := "l11_curves.go:39", after := #[], guard := none }) (v := ?_) rfl (by kernel_rfl) (by kernel_rfl) (by kernel_rfl) (fun _ _ _ h => h) (Or.inl ⟨by rfl, ?_⟩) (by assumption) ?_
        rotate_left
        · (intro w hSw; (try dsimp only at hSw); go_simp; try with_reducible rfl)
        try simp only [Act.put, List.setIfInBounds_toArray, List.set_cons_zero, List.set_cons_succ]
        refine wpAnyH_ready (rs := [2]) (by kernel_rfl) (by simp) ?_
        refine (AllReadyH.cons (o := { dst := some 71, op := Go.Op.call { callee := Go.Callee.value (Go.Operand.func 52), args := #[Go.Operand.tmp 70], argTypes := #[3] }, type := 27, pos := "l11_curves.go:39", after := #[{ on := 1, ground := Go.Ground.data }], guard := none }) rfl (fun K hK => ?_) AllReadyH.nil)
        go_simp
        refine (c_l11Whole ya _).mono ?_
        rintro e w10 ⟨rfl, hb⟩
        have hS := boxG_below (cs := [(w6.heap.size, 1, ya), (w8.heap.size, 0, en), (w8.heap.size, 1, ed)]) (boxG_drew HS9.out) hb
        have Y10 := Lib.hid (blk_b0 Y9.out.drew hb)
        clear hb
        go_wp2_with fail
        refine hK.out _ _ hS (fun hH4 => ?_)
        clear hK K hH0
        try simp only [Act.put, List.setIfInBounds_toArray, List.set_cons_zero, List.set_cons_succ]
        refine wpAnyH_ready (rs := [4]) (by kernel_rfl) (by simp) ?_
        refine (AllReadyH.cons (o := { dst := some 73, op := Go.Op.call { callee := Go.Callee.value (Go.Operand.func 62), args := #[Go.Operand.tmp 71, Go.Operand.tmp 72], argTypes := #[27, 27] }, type := 28, pos := "l11_curves.go:39", after := #[{ on := 2, ground := Go.Ground.data }, { on := 3, ground := Go.Ground.data }, { on := 2, ground := Go.Ground.chain }], guard := none }) rfl (fun K hK => ?_) AllReadyH.nil)
        go_simp
        refine (c_specFracAdd ya 1 en ed _).mono ?_
        intro e w11 hp
        obtain ⟨rfl, hb⟩ := op_at K1.out K2.out K3.out K4.out hp
        clear hp
        have hS := boxG_below (cs := [(w6.heap.size, 1, ya), (w8.heap.size, 0, en), (w8.heap.size, 1, ed)]) hS hb
        have Y11 := Lib.hid (blk_b0 Y10.out hb)
        clear hb
        obtain ⟨y0, y1, y2, y3⟩ := Y11.out.two
        have yy := Y11.out.lt
        have hB11 := boxG_end hS
        go_wp2_with fail
        refine hK.out _ _ hS (fun hH5 => ?_)
        clear hK K hH4
        try simp only [Act.put, List.setIfInBounds_toArray, List.set_cons_zero, List.set_cons_succ]
        refine wpAnyH_take (i := 5) (oi := { dst := some 74, op := Go.Op.extract (Go.Operand.tmp 73) 0, type := 27, pos := "l11_curves.go:39", after := #[{ on := 4, ground := Go.Ground.data }], guard := none }) (v := ?_) rfl (by kernel_rfl) (by kernel_rfl) (by kernel_rfl) (fun _ _ _ h => h) (Or.inl ⟨by rfl, ?_⟩) (by assumption) ?_
        rotate_left
        · (intro w hSw; (try dsimp only at hSw); go_simp; try with_reducible rfl)
        try simp only [Act.put, List.setIfInBounds_toArray, List.set_cons_zero, List.set_cons_succ]
        refine wpAnyH_take (i := 6) (oi := { dst := some 75, op := Go.Op.extract (Go.Operand.tmp 73) 1, type := 4, pos := "l11_curves.go:39", after := #[{ on := 4, ground := Go.Ground.data }], guard := none }) (v := ?_) rfl (by kernel_rfl) (by kernel_rfl) (by kernel_rfl) (fun _ _ _ h => h) (Or.inl ⟨by rfl, ?_⟩) (by assumption) ?_
        rotate_left
        · (intro w hSw; (try dsimp only at hSw); go_simp; try with_reducible rfl)
        try simp only [Act.put, List.setIfInBounds_toArray, List.set_cons_zero, List.set_cons_succ]
        refine wpAnyH_ready (rs := [7]) (by kernel_rfl) (by simp) ?_
        refine (AllReadyH.cons (o := { dst := none, op := Go.Op.store 27 (Go.Operand.tmp 4) (Go.Operand.tmp 74), type := 0, pos := "l11_curves.go:39", after := #[{ on := 5, ground := Go.Ground.data }, { on := 4, ground := Go.Ground.chain }, { on := 0, ground := Go.Ground.phase }, { on := 1, ground := Go.Ground.phase }, { on := 2, ground := Go.Ground.phase }, { on := 3, ground := Go.Ground.phase }, { on := 4, ground := Go.Ground.phase }, { on := 5, ground := Go.Ground.phase }, { on := 6, ground := Go.Ground.phase }], guard := none }) rfl (fun K hK => ?_) AllReadyH.nil)
        go_simp
        refine hK.out _ _ (by exact boxG_put2 (cs := [(w6.heap.size, 1, ya), (w8.heap.size, 0, en), (w8.heap.size, 1, ed)]) hS (Nat.le_succ _) HNE.out _ _) (fun hH8 => ?_)
        clear hK K hH5
        try simp only [Act.put, List.setIfInBounds_toArray, List.set_cons_zero, List.set_cons_succ]
        refine wpAnyH_take (i := 8) (oi := { dst := some 5, op := Go.Op.assign (Go.Operand.tmp 75), type := 4, pos := "l11_curves.go:39", after := #[{ on := 6, ground := Go.Ground.data }, { on := 7, ground := Go.Ground.chain }, { on := 0, ground := Go.Ground.phase }, { on := 1, ground := Go.Ground.phase }, { on := 2, ground := Go.Ground.phase }, { on := 3, ground := Go.Ground.phase }, { on := 4, ground := Go.Ground.phase }, { on := 5, ground := Go.Ground.phase }, { on := 6, ground := Go.Ground.phase }, { on := 7, ground := Go.Ground.phase }], guard := none }) (v := ?_) rfl (by kernel_rfl) (by kernel_rfl) (by kernel_rfl) (fun _ _ _ h => h) (Or.inl ⟨by rfl, ?_⟩) (by assumption) ?_
        rotate_left
        · (intro w hSw; (try dsimp only at hSw); go_simp; try with_reducible rfl)
        try simp only [Act.put, List.setIfInBounds_toArray, List.set_cons_zero, List.set_cons_succ]
        refine wpAnyH_done (by kernel_rfl) ?_ _
        refine NoPanic.normal ?_
        go_wp2_with (
          with_reducible refine bodyPost_ret (v := .tuple #[.agg #[.int .i64 (nA l N D), .int .i64 (dA l N D)], .bool (okA l N D)]) ?_ ?_ ?_
          · simp [results, Try.results51, go_sem, *]
          · rfl
          · refine at_yes rfl rfl rfl ?_
            go_grown)
end Go.Proofs.Ytfngdemjlglliaa
