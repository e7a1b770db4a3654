/-
  Contracts of l93Gas, DrawGasLag, DrawGasDepth: some two lists of knots and some depth.
-/
import Derived.Test.YtfngdemjlglliaaLagWords
import Derived.Test.YtfngdemjlglliaaGasDraw
import Derived.Deep.RegionHeld3
namespace Go.Proofs.Ytfngdemjlglliaa
open Go.RowKit

theorem OwnP.cellp {w : World} {base g n c : Nat} {t : TypeId} {l : List (Int × Int)} (h : OwnP w base t (.slice (some ⟨g, 0, none⟩) n c) n l) {i : Nat} (hi : i < n) : w.cell? ⟨g, i * 2, none⟩ = some (.int .i64 (px l i)) := by
  obtain ⟨A, c', hv, _, _, hrd, _⟩ := h.form
  injection hv with hv1
  subst hv1
  obtain ⟨b, off, e, _, hc⟩ := hrd.at_ (by omega)
  injection e with e
  injection e with e1 e2
  subst e1 e2
  have := (hc i hi).1
  rwa [Nat.zero_add] at this
theorem OwnP.homeG {w : World} {base n c : Nat} {t : TypeId} {A : Option Addr} {l : List (Int × Int)} (h : OwnP w base t (.slice A n c) n l) (hn : 0 < n) : ∃ g, A = some ⟨g, 0, none⟩ ∧ base ≤ g ∧ g < w.heap.size := by
  obtain ⟨A', c', hv, _, _, _, hr⟩ := h.form
  injection hv with hv1
  subst hv1
  obtain ⟨g, e, hb, hrow⟩ := hr hn
  exact ⟨g, e, hb, hrow.rd.below (Below.refl _ _) |>.at_ hn |>.elim fun b h => h.elim fun off h => by
    obtain ⟨e', hlt, _⟩ := h
    injection e' with e'
    injection e' with e1 e2
    omega⟩
theorem cell_grownG {W w' : World} {g b o : Nat} {u : Value} (hg : W.grownBy w' (some g)) (h : W.cell? ⟨b, o, none⟩ = some u) (hne : b ≠ g) : w'.cell? ⟨b, o, none⟩ = some u :=
  (World.cell?_of_block (w := W) (a := ⟨b, o, none⟩) (hg.block b (World.block_lt_of_cell? W _ h) (by simp; omega))).trans h
theorem un_drewG {a w : World} {row : Option Nat} (h : a.drew.grownBy w row) : a.grownBy w row := ⟨h.os, h.tape, h.output, h.size, h.block⟩
theorem Rdr.drewG {w : World} {B g p : Nat} (h : Rdr w B g p) : Rdr w.drew B g p := h.of_same fun _ _ => rfl
theorem OwnP.drewX {w : World} {base : Nat} {t : TypeId} {v : Value} {n : Nat} {l : List (Int × Int)} (h : OwnP w base t v n l) : OwnP w.drew base t v n l := h.of_same fun _ _ _ => rfl
/-- two lists of knots that read, and some number -/
def LGPost (g : Nat) (w : World) (e : Ending) (w' : World) : Prop :=
  ∃ A n c a B m cm b x, e = .returned (.tuple #[.slice A n c, .slice B m cm, .int .i64 x]) ∧ n ≤ 12 ∧ m ≤ 12 ∧ RdP w' A n a ∧ RdP w' B m b ∧ w.grownBy w' (some g)
def DrawLG (w : World) (e : Ending) (w' : World) : Prop :=
  ∃ A n c a B m cm b x, e = .returned (.tuple #[.slice A n c, .slice B m cm, .int .i64 x]) ∧ n ≤ 12 ∧ m ≤ 12 ∧ RdP w' A n a ∧ RdP w' B m b ∧ Below w.heap.size w w'
theorem lg_mk {g : Nat} {w W : World} {A : Option Addr} {n c : Nat} {a : List (Int × Int)} {B : Option Addr} {m cm : Nat} {b : List (Int × Int)} {x : Int} {b1 b2 : Nat} (hn : n ≤ 12) (hm : m ≤ 12) (hA : OwnP W b1 31 (.slice A n c) n a) (hB : OwnP W b2 31 (.slice B m cm) m b) (hG : w.grownBy W (some g)) :
    LGPost g w (.returned (.tuple #[.slice A n c, .slice B m cm, .int .i64 x])) W := ⟨_, _, _, a, _, _, _, b, _, rfl, hn, hm, hA.rd, hB.rd, hG⟩

set_option maxHeartbeats 8000000 in
set_option maxRecDepth 4000 in
theorem c_l93Gas (B g p : Nat) (w : World) (hp : p ≤ 10) (h : Rdr w B g p) :
    Calls Try.prog 29 #[.pointer (some ⟨g, 0, none⟩)] w (LGPost g w) := by
  have HR := Lib.hid h
  have hlt := h.lt
  clear h
  go_enter Try.func29, Try.ntmps29
  go_wp2_with fail
  refine (c_l93Ice B g p _ (by omega) HR.out).mono ?_
  rintro e w1 ⟨A, n, c, l, rfl, hn0, hn1, hnc, hO, ⟨q, hq, hr⟩, hg⟩
  have HO1 := Lib.hid hO
  have HR1 := Lib.hid hr
  have HG1 := Lib.hid hg
  have hz1 := hg.size
  clear hO hr hg HR
  go_wp2_with fail
  refine (c_pick B g q 20 _ (by omega) HR1.out).mono ?_
  rintro e w2 ⟨d, rfl, d0, d1, hr, hg, _⟩
  have HO2 := Lib.hid (HO1.out.grown hg hlt)
  have HR2 := Lib.hid hr
  have HG2 := Lib.hid (only_same HG1.out hg)
  have hz2 := HG2.out.size
  clear hr hg HO1 HR1 HG1
  rcases Bool.eq_false_or_eq_true (okG l n (evG n d)) with hok | hok
  all_goals
    have HK := Lib.hid hok
    go_wp2_with fail
    refine (c_specGasEven _ _ _ l d _ (by omega) HO2.out.rd).mono ?_
    rintro e w3 ⟨A3, n3, c3, he, hn3, hO3, hb⟩
    rw [HK.out] at he
    subst he
    have HO3 := Lib.hid (HO2.out.below hb)
    have HE3 := Lib.hid hO3
    have HR3 := Lib.hid (HR2.out.below hb)
    have HG3 := Lib.hid (only_below HG2.out hb)
    have hz3 := hb.size
    clear hO3 hb HO2 HR2 HG2
  · have HV := Lib.hid (show vC (gV l n (evG n d)) = true by rw [gV_yes hok]; exact (okG_yes hok).2.2.2)
    have HL := Lib.hid HE3.out.rd.len
    clear hok
    obtain ⟨hb0, _, h2n, _⟩ := vC_yes HV.out
    have hmono := fun i j (h1 : i < j) (h2 : j < (gV l n (evG n d)).length) => (vC_mono HV.out h1 h2).1
    have hnn : 2 ≤ n3 := by have := HL.out; omega
    obtain ⟨j, rfl⟩ : ∃ j, n3 = j + 1 := ⟨n3 - 1, by omega⟩
    obtain ⟨gb, rfl, hgb, _⟩ := HE3.out.homeG (by omega)
    have r0 := HE3.out.cellp (i := 0) (by omega)
    have r1 := HE3.out.cellp (i := j) (by omega)
    rw [Nat.zero_mul] at r0
    have a := hb0 0 (by omega)
    have a' := hb0 j (by have := HL.out; omega)
    have a2 := hmono 0 j (by omega) (by have := HL.out; omega)
    obtain ⟨x0, hx0⟩ : ∃ y, px (gV l n (evG n d)) 0 = y := ⟨_, rfl⟩
    obtain ⟨xl, hxl⟩ : ∃ y, px (gV l n (evG n d)) j = y := ⟨_, rfl⟩
    rw [hx0] at r0 a a2
    rw [hxl] at r1 a' a2
    have hj : ((j + 1 : Nat) : Int) - 1 = (j : Int) := by omega
    have hj0 : (0 : Int) ≤ (j : Int) := by omega
    have hj1 : (j : Int) < ((j + 1 : Nat) : Int) := by omega
    have hj2 : (j : Int) < (j : Int) + 1 := by omega
    have hj3 : (0 : Int) < (j : Int) + 1 := by omega
    have hj4 : (0 : Int) < ((j + 1 : Nat) : Int) := by omega
    have hjw : IntKind.i64.wrap (j : Int) = (j : Int) := IntWalk.i64_in _ (by omega)
    have hgg : gb ≠ g := by omega
    have w1' : IntKind.i64.wrap (xl - x0) = xl - x0 := IntWalk.i64_in _ (by omega)
    have w2' : IntKind.i64.wrap (xl - x0 + 1) = xl - x0 + 1 := IntWalk.i64_in _ (by omega)
    clear hb0 h2n hmono hx0 hxl
    have h1lt : (1 : Int) < xl - x0 + 1 := by omega
    by_cases h60 : xl - x0 + 1 < 60
    all_goals
      go_wp2_with fail
      refine wp_region_noPanic ?_
      refine wp_region_held_drew (S := (fun W => W.cell? ⟨gb, 0, none⟩ = some (.int .i64 x0) ∧ W.cell? ⟨gb, j * 2, none⟩ = some (.int .i64 xl))) (by kernel_rfl) (⟨r0, r1⟩) (fun hH0 => ?_)
      refine wpAnyH_take (i := 0) (oi := { dst := some 27, op := Go.Op.move (Go.Operand.tmp 6), type := 23, pos := "l93_draw.go:204", after := #[], guard := none }) (v := ?_) rfl (by kernel_rfl) (by kernel_rfl) (by kernel_rfl) (fun _ _ _ h => h) (Or.inl ⟨by rfl, ?_⟩) (by assumption) ?_
      rotate_left
      · (intro w hSw; (try dsimp only at hSw); go_simp; try with_reducible rfl)
      try simp only [Act.put, List.setIfInBounds_toArray, List.set_cons_zero, List.set_cons_succ]
      refine wpAnyH_take (i := 1) (oi := { dst := some 28, op := Go.Op.indexAddr 23 (Go.Operand.tmp 27) (Go.Operand.const (Go.Value.int Go.IntKind.i64 0)), type := 0, pos := "l93_draw.go:204", after := #[{ on := 0, ground := Go.Ground.data }], guard := none }) (v := ?_) rfl (by kernel_rfl) (by kernel_rfl) (by kernel_rfl) (fun _ _ _ h => h) (Or.inl ⟨by rfl, ?_⟩) (by assumption) ?_
      rotate_left
      · (intro w hSw; (try dsimp only at hSw); go_simp; try with_reducible rfl)
      try simp only [Act.put, List.setIfInBounds_toArray, List.set_cons_zero, List.set_cons_succ]
      refine wpAnyH_take (i := 2) (oi := { dst := some 29, op := Go.Op.fieldAddr 31 (Go.Operand.tmp 28) 0, type := 0, pos := "l93_draw.go:204", after := #[{ on := 1, ground := Go.Ground.data }], guard := none }) (v := ?_) rfl (by kernel_rfl) (by kernel_rfl) (by kernel_rfl) (fun _ _ _ h => h) (Or.inl ⟨by rfl, ?_⟩) (by assumption) ?_
      rotate_left
      · (intro w hSw; (try dsimp only at hSw); go_simp; try with_reducible rfl)
      try simp only [Act.put, List.setIfInBounds_toArray, List.set_cons_zero, List.set_cons_succ]
      refine wpAnyH_take (i := 3) (oi := { dst := some 30, op := Go.Op.load 3 (Go.Operand.tmp 29), type := 3, pos := "l93_draw.go:204", after := #[{ on := 2, ground := Go.Ground.data }], guard := none }) (v := ?_) rfl (by kernel_rfl) (by kernel_rfl) (by kernel_rfl) (fun _ _ _ h => h) (Or.inl ⟨by rfl, ?_⟩) (by assumption) ?_
      rotate_left
      · (intro w hSw; (try dsimp only at hSw); go_simp; try with_reducible rfl)
      try simp only [Act.put, List.setIfInBounds_toArray, List.set_cons_zero, List.set_cons_succ]
      refine wpAnyH_take (i := 4) (oi := { dst := some 31, op := Go.Op.move (Go.Operand.tmp 0), type := 50, pos := "l93_draw.go:204", after := #[], guard := none }) (v := ?_) rfl (by kernel_rfl) (by kernel_rfl) (by kernel_rfl) (fun _ _ _ h => h) (Or.inl ⟨by rfl, ?_⟩) (by assumption) ?_
      rotate_left
      · (intro w hSw; (try dsimp only at hSw); go_simp; try with_reducible rfl)
      try simp only [Act.put, List.setIfInBounds_toArray, List.set_cons_zero, List.set_cons_succ]
      refine wpAnyH_take (i := 5) (oi := { dst := some 32, op := Go.Op.move (Go.Operand.tmp 6), type := 23, pos := "l93_draw.go:204", after := #[], guard := none }) (v := ?_) rfl (by kernel_rfl) (by kernel_rfl) (by kernel_rfl) (fun _ _ _ h => h) (Or.inl ⟨by rfl, ?_⟩) (by assumption) ?_
      rotate_left
      · (intro w hSw; (try dsimp only at hSw); go_simp; try with_reducible rfl)
      try simp only [Act.put, List.setIfInBounds_toArray, List.set_cons_zero, List.set_cons_succ]
      refine wpAnyH_take (i := 6) (oi := { dst := some 33, op := Go.Op.move (Go.Operand.tmp 6), type := 23, pos := "l93_draw.go:204", after := #[], guard := none }) (v := ?_) rfl (by kernel_rfl) (by kernel_rfl) (by kernel_rfl) (fun _ _ _ h => h) (Or.inl ⟨by rfl, ?_⟩) (by assumption) ?_
      rotate_left
      · (intro w hSw; (try dsimp only at hSw); go_simp; try with_reducible rfl)
      try simp only [Act.put, List.setIfInBounds_toArray, List.set_cons_zero, List.set_cons_succ]
      refine wpAnyH_take (i := 7) (oi := { dst := some 34, op := Go.Op.call { callee := Go.Callee.builtin Go.Builtin.len, args := #[Go.Operand.tmp 33], argTypes := #[23] }, type := 3, pos := "l93_draw.go:204", after := #[{ on := 6, ground := Go.Ground.data }], guard := none }) (v := ?_) rfl (by kernel_rfl) (by kernel_rfl) (by kernel_rfl) (fun _ _ _ h => h) (Or.inl ⟨by rfl, ?_⟩) (by assumption) ?_
      rotate_left
      · (intro w hSw; (try dsimp only at hSw); go_simp; try with_reducible rfl)
      try simp only [Act.put, List.setIfInBounds_toArray, List.set_cons_zero, List.set_cons_succ]
      refine wpAnyH_take (i := 8) (oi := { dst := some 35, op := Go.Op.binOp Go.BinOp.sub 3 (Go.Operand.tmp 34) (Go.Operand.const (Go.Value.int Go.IntKind.i64 1)) 3, type := 3, pos := "l93_draw.go:204", after := #[{ on := 7, ground := Go.Ground.data }], guard := none }) (v := ?_) rfl (by kernel_rfl) (by kernel_rfl) (by kernel_rfl) (fun _ _ _ h => h) (Or.inl ⟨by rfl, ?_⟩) (by assumption) ?_
      rotate_left
      · (intro w hSw; (try dsimp only at hSw); go_simp; try with_reducible rfl)
      try simp only [Act.put, List.setIfInBounds_toArray, List.set_cons_zero, List.set_cons_succ]
      refine wpAnyH_take (i := 9) (oi := { dst := some 36, op := Go.Op.indexAddr 23 (Go.Operand.tmp 32) (Go.Operand.tmp 35), type := 0, pos := "l93_draw.go:204", after := #[{ on := 5, ground := Go.Ground.data }, { on := 8, ground := Go.Ground.data }], guard := none }) (v := ?_) rfl (by kernel_rfl) (by kernel_rfl) (by kernel_rfl) (fun _ _ _ h => h) (Or.inl ⟨by rfl, ?_⟩) (by assumption) ?_
      rotate_left
      · (intro w hSw; (try dsimp only at hSw); go_simp; try with_reducible rfl)
      try simp only [Act.put, List.setIfInBounds_toArray, List.set_cons_zero, List.set_cons_succ]
      refine wpAnyH_take (i := 10) (oi := { dst := some 37, op := Go.Op.fieldAddr 31 (Go.Operand.tmp 36) 0, type := 0, pos := "l93_draw.go:204", after := #[{ on := 9, ground := Go.Ground.data }], guard := none }) (v := ?_) rfl (by kernel_rfl) (by kernel_rfl) (by kernel_rfl) (fun _ _ _ h => h) (Or.inl ⟨by rfl, ?_⟩) (by assumption) ?_
      rotate_left
      · (intro w hSw; (try dsimp only at hSw); go_simp; try with_reducible rfl)
      try simp only [Act.put, List.setIfInBounds_toArray, List.set_cons_zero, List.set_cons_succ]
      refine wpAnyH_take (i := 11) (oi := { dst := some 38, op := Go.Op.load 3 (Go.Operand.tmp 37), type := 3, pos := "l93_draw.go:204", after := #[{ on := 10, ground := Go.Ground.data }], guard := none }) (v := ?_) rfl (by kernel_rfl) (by kernel_rfl) (by kernel_rfl) (fun _ _ _ h => h) (Or.inl ⟨by rfl, ?_⟩) (by assumption) ?_
      rotate_left
      · (intro w hSw; (try dsimp only at hSw); go_simp; try with_reducible rfl)
      try simp only [Act.put, List.setIfInBounds_toArray, List.set_cons_zero, List.set_cons_succ]
      refine wpAnyH_take (i := 12) (oi := { dst := some 39, op := Go.Op.move (Go.Operand.tmp 6), type := 23, pos := "l93_draw.go:204", after := #[], guard := none }) (v := ?_) rfl (by kernel_rfl) (by kernel_rfl) (by kernel_rfl) (fun _ _ _ h => h) (Or.inl ⟨by rfl, ?_⟩) (by assumption) ?_
      rotate_left
      · (intro w hSw; (try dsimp only at hSw); go_simp; try with_reducible rfl)
      try simp only [Act.put, List.setIfInBounds_toArray, List.set_cons_zero, List.set_cons_succ]
      refine wpAnyH_take (i := 13) (oi := { dst := some 40, op := Go.Op.indexAddr 23 (Go.Operand.tmp 39) (Go.Operand.const (Go.Value.int Go.IntKind.i64 0)), type := 0, pos := "l93_draw.go:204", after := #[{ on := 12, ground := Go.Ground.data }], guard := none }) (v := ?_) rfl (by kernel_rfl) (by kernel_rfl) (by kernel_rfl) (fun _ _ _ h => h) (Or.inl ⟨by rfl, ?_⟩) (by assumption) ?_
      rotate_left
      · (intro w hSw; (try dsimp only at hSw); go_simp; try with_reducible rfl)
      try simp only [Act.put, List.setIfInBounds_toArray, List.set_cons_zero, List.set_cons_succ]
      refine wpAnyH_take (i := 14) (oi := { dst := some 41, op := Go.Op.fieldAddr 31 (Go.Operand.tmp 40) 0, type := 0, pos := "l93_draw.go:204", after := #[{ on := 13, ground := Go.Ground.data }], guard := none }) (v := ?_) rfl (by kernel_rfl) (by kernel_rfl) (by kernel_rfl) (fun _ _ _ h => h) (Or.inl ⟨by rfl, ?_⟩) (by assumption) ?_
      rotate_left
      · (intro w hSw; (try dsimp only at hSw); go_simp; try with_reducible rfl)
      try simp only [Act.put, List.setIfInBounds_toArray, List.set_cons_zero, List.set_cons_succ]
      refine wpAnyH_take (i := 15) (oi := { dst := some 42, op := Go.Op.load 3 (Go.Operand.tmp 41), type := 3, pos := "l93_draw.go:204", after := #[{ on := 14, ground := Go.Ground.data }], guard := none }) (v := ?_) rfl (by kernel_rfl) (by kernel_rfl) (by kernel_rfl) (fun _ _ _ h => h) (Or.inl ⟨by rfl, ?_⟩) (by assumption) ?_
      rotate_left
      · (intro w hSw; (try dsimp only at hSw); go_simp; try with_reducible rfl)
      try simp only [Act.put, List.setIfInBounds_toArray, List.set_cons_zero, List.set_cons_succ]
      refine wpAnyH_take (i := 16) (oi := { dst := some 43, op := Go.Op.binOp Go.BinOp.sub 3 (Go.Operand.tmp 38) (Go.Operand.tmp 42) 3, type := 3, pos := "l93_draw.go:204", after := #[{ on := 11, ground := Go.Ground.data }, { on := 15, ground := Go.Ground.data }], guard := none }) (v := ?_) rfl (by kernel_rfl) (by kernel_rfl) (by kernel_rfl) (fun _ _ _ h => h) (Or.inl ⟨by rfl, ?_⟩) (by assumption) ?_
      rotate_left
      · (intro w hSw; (try dsimp only at hSw); go_simp; try with_reducible rfl)
      try simp only [Act.put, List.setIfInBounds_toArray, List.set_cons_zero, List.set_cons_succ]
      refine wpAnyH_take (i := 17) (oi := { dst := some 44, op := Go.Op.binOp Go.BinOp.add 3 (Go.Operand.tmp 43) (Go.Operand.const (Go.Value.int Go.IntKind.i64 1)) 3, type := 3, pos := "l93_draw.go:204", after := #[{ on := 16, ground := Go.Ground.data }], guard := none }) (v := ?_) rfl (by kernel_rfl) (by kernel_rfl) (by kernel_rfl) (fun _ _ _ h => h) (Or.inl ⟨by rfl, ?_⟩) (by assumption) ?_
      rotate_left
      · (intro w hSw; (try dsimp only at hSw); go_simp; try with_reducible rfl)
      try simp only [Act.put, List.setIfInBounds_toArray, List.set_cons_zero, List.set_cons_succ]
      refine wpAnyH_take (i := 18) (oi := { dst := some 45, op := Go.Op.call { callee := Go.Callee.builtin Go.Builtin.min, args := #[Go.Operand.const (Go.Value.int Go.IntKind.i64 60), Go.Operand.tmp 44], argTypes := #[3, 3] }, type := 3, pos := "l93_draw.go:204", after := #[{ on := 17, ground := Go.Ground.data }], guard := none }) (v := ?_) rfl (by kernel_rfl) (by kernel_rfl) (by kernel_rfl) (fun _ _ _ h => h) (Or.inl ⟨by rfl, ?_⟩) (by assumption) ?_
      rotate_left
      · (intro w hSw; (try dsimp only at hSw); go_simp; try with_reducible rfl)
      try simp only [Act.put, List.setIfInBounds_toArray, List.set_cons_zero, List.set_cons_succ]
      refine wpAnyH_take (i := 19) (oi := { dst := some 46, op := Go.Op.call { callee := Go.Callee.builtin Go.Builtin.max, args := #[Go.Operand.const (Go.Value.int Go.IntKind.i64 1), Go.Operand.tmp 45], argTypes := #[3, 3] }, type := 3, pos := "l93_draw.go:204", after := #[{ on := 18, ground := Go.Ground.data }], guard := none }) (v := ?_) rfl (by kernel_rfl) (by kernel_rfl) (by kernel_rfl) (fun _ _ _ h => h) (Or.inl ⟨by rfl, ?_⟩) (by assumption) ?_
      rotate_left
      · (intro w hSw; (try dsimp only at hSw); go_simp; try with_reducible rfl)
      try simp only [Act.put, List.setIfInBounds_toArray, List.set_cons_zero, List.set_cons_succ]
      refine wpAnyH_ready (rs := [20]) (by kernel_rfl) (by simp) ?_
      refine (AllReadyH.cons (o := { dst := some 47, op := Go.Op.call { callee := Go.Callee.value (Go.Operand.func 45), args := #[Go.Operand.tmp 31, Go.Operand.tmp 46], argTypes := #[50, 3] }, type := 3, pos := "l93_draw.go:204", after := #[{ on := 4, ground := Go.Ground.data }, { on := 19, ground := Go.Ground.data }], guard := none }) rfl (fun K hK => ?_) AllReadyH.nil)
      go_simp
      refine (c_pick B g _ _ _ (by omega) HR3.out.drewG).mono ?_
      rintro e w4 ⟨z, rfl, y0, y1, hr, hg, _⟩
      have hg := un_drewG hg
      have hS : w4.cell? ⟨gb, 0, none⟩ = some (.int .i64 x0) ∧ w4.cell? ⟨gb, j * 2, none⟩ = some (.int .i64 xl) := ⟨cell_grownG hg r0 hgg, cell_grownG hg r1 hgg⟩
      have y2 : z ≤ 60 := by omega
      have w3' : IntKind.i64.wrap (x0 + z) = x0 + z := IntWalk.i64_in _ (by omega)
      have HO4 := Lib.hid (HO3.out.grown hg hlt)
      have HE4 := Lib.hid (HE3.out.grown hg (by omega))
      have HR4 := Lib.hid hr
      have HG4 := Lib.hid (only_same HG3.out hg)
      clear hr hg
      go_wp2_with fail
      refine hK.out _ _ hS (fun hH21 => ?_)
      clear hK K hH0
      try simp only [Act.put, List.setIfInBounds_toArray, List.set_cons_zero, List.set_cons_succ]
      refine wpAnyH_take (i := 21) (oi := { dst := some 48, op := Go.Op.binOp Go.BinOp.add 3 (Go.Operand.tmp 30) (Go.Operand.tmp 47) 3, type := 3, pos := "l93_draw.go:204", after := #[{ on := 3, ground := Go.Ground.data }, { on := 20, ground := Go.Ground.data }], guard := none }) (v := ?_) rfl (by kernel_rfl) (by kernel_rfl) (by kernel_rfl) (fun _ _ _ h => h) (Or.inl ⟨by rfl, ?_⟩) (by assumption) ?_
      rotate_left
      · (intro w hSw; (try dsimp only at hSw); go_simp; try with_reducible rfl)
      try simp only [Act.put, List.setIfInBounds_toArray, List.set_cons_zero, List.set_cons_succ]
      refine wpAnyH_take (i := 22) (oi := { dst := some 8, op := Go.Op.assign (Go.Operand.tmp 48), type := 3, pos := "l93_draw.go:204", after := #[{ on := 21, ground := Go.Ground.data }, { on := 20, ground := Go.Ground.chain }, { on := 0, ground := Go.Ground.phase }, { on := 1, ground := Go.Ground.phase }, { on := 2, ground := Go.Ground.phase }, { on := 3, ground := Go.Ground.phase }, { on := 4, ground := Go.Ground.phase }, { on := 5, ground := Go.Ground.phase }, { on := 6, ground := Go.Ground.phase }, { on := 7, ground := Go.Ground.phase }, { on := 8, ground := Go.Ground.phase }, { on := 9, ground := Go.Ground.phase }, { on := 10, ground := Go.Ground.phase }, { on := 11, ground := Go.Ground.phase }, { on := 12, ground := Go.Ground.phase }, { on := 13, ground := Go.Ground.phase }, { on := 14, ground := Go.Ground.phase }, { on := 15, ground := Go.Ground.phase }, { on := 16, ground := Go.Ground.phase }, { on := 17, ground := Go.Ground.phase }, { on := 18, ground := Go.Ground.phase }, { on := 19, ground := Go.Ground.phase }, { on := 20, ground := Go.Ground.phase }, { on := 21, ground := Go.Ground.phase }], guard := none }) (v := ?_) rfl (by kernel_rfl) (by kernel_rfl) (by kernel_rfl) (fun _ _ _ h => h) (Or.inl ⟨by rfl, ?_⟩) (by assumption) ?_
      rotate_left
      · (intro w hSw; (try dsimp only at hSw); go_simp; try with_reducible rfl)
      try simp only [Act.put, List.setIfInBounds_toArray, List.set_cons_zero, List.set_cons_succ]
      refine wpAnyH_done (by kernel_rfl) ?_ _
      refine NoPanic.normal ?_
      go_wp2_with fail
      refine (c_pick B g _ 12 _ (by omega) HR4.out).mono ?_
      rintro e w5 ⟨z2, rfl, u0, u1, _, hg, _⟩
      have HO5 := Lib.hid (HO4.out.grown hg hlt)
      have HE5 := Lib.hid (HE4.out.grown hg (by omega))
      have HG5 := Lib.hid (only_same HG4.out hg)
      have hc5 := cell_grownG hg hS.2 hgg
      clear hg
      by_cases hz : z2 = 0
      · subst hz
        go_wp2
        go_ret3
        exact lg_mk (by omega) (by omega) HO5.out HE5.out HG5.out
      · have hz' : (z2 == 0) = false := by simpa using hz
        go_wp2
        go_ret3
        exact lg_mk (by omega) (by omega) HO5.out HE5.out HG5.out
  · obtain ⟨gb, rfl, hgb, _⟩ := HO3.out.homeG (by omega)
    have r0 := HO3.out.cellp (i := 0) (by omega)
    rw [Nat.zero_mul] at r0
    obtain ⟨x0, hx0⟩ : ∃ y, px l 0 = y := ⟨_, rfl⟩
    rw [hx0] at r0
    have hgg : gb ≠ g := by omega
    have hn4 : (0 : Int) < (n : Int) := by omega
    have hn5 : 0 < n := by omega
    clear hx0 hok
    go_wp2_with fail
    refine wp_region_noPanic ?_
    refine wp_region_held_drew (S := (fun W => W.cell? ⟨gb, 0, none⟩ = some (.int .i64 x0))) (by kernel_rfl) (r0) (fun hH0 => ?_)
    refine wpAnyH_take (i := 0) (oi := { dst := some 20, op := Go.Op.move (Go.Operand.tmp 5), type := 23, pos := "l93_draw.go:202", after := #[], guard := none }) (v := ?_) rfl (by kernel_rfl) (by kernel_rfl) (by kernel_rfl) (fun _ _ _ h => h) (Or.inl ⟨by rfl, ?_⟩) (by assumption) ?_
    rotate_left
    · (intro w hSw; (try dsimp only at hSw); go_simp; try with_reducible rfl)
    try simp only [Act.put, List.setIfInBounds_toArray, List.set_cons_zero, List.set_cons_succ]
    refine wpAnyH_take (i := 1) (oi := { dst := some 21, op := Go.Op.move (Go.Operand.tmp 0), type := 50, pos := "l93_draw.go:202", after := #[], guard := none }) (v := ?_) rfl (by kernel_rfl) (by kernel_rfl) (by kernel_rfl) (fun _ _ _ h => h) (Or.inl ⟨by rfl, ?_⟩) (by assumption) ?_
    rotate_left
    · (intro w hSw; (try dsimp only at hSw); go_simp; try with_reducible rfl)
    try simp only [Act.put, List.setIfInBounds_toArray, List.set_cons_zero, List.set_cons_succ]
    refine wpAnyH_take (i := 3) (oi := { dst := some 23, op := Go.Op.move (Go.Operand.tmp 5), type := 23, pos := "l93_draw.go:202", after := #[{ on := 8, ground := Go.Ground.gcOnly Go.Departure.lateStores }], guard := none }) (v := ?_) rfl (by kernel_rfl) (by kernel_rfl) (by kernel_rfl) (fun _ _ _ h => h) (Or.inl ⟨by rfl, ?_⟩) (by assumption) ?_
    rotate_left
    · (intro w hSw; (try dsimp only at hSw); go_simp; try with_reducible rfl)
    try simp only [Act.put, List.setIfInBounds_toArray, List.set_cons_zero, List.set_cons_succ]
    refine wpAnyH_take (i := 4) (oi := { dst := some 24, op := Go.Op.indexAddr 23 (Go.Operand.tmp 23) (Go.Operand.const (Go.Value.int Go.IntKind.i64 0)), type := 0, pos := "l93_draw.go:202", after := #[{ on := 3, ground := Go.Ground.data }, { on := 8, ground := Go.Ground.gcOnly Go.Departure.lateStores }], guard := none }) (v := ?_) rfl (by kernel_rfl) (by kernel_rfl) (by kernel_rfl) (fun _ _ _ h => h) (Or.inl ⟨by rfl, ?_⟩) (by assumption) ?_
    rotate_left
    · (intro w hSw; (try dsimp only at hSw); go_simp; try with_reducible rfl)
    try simp only [Act.put, List.setIfInBounds_toArray, List.set_cons_zero, List.set_cons_succ]
    refine wpAnyH_take (i := 5) (oi := { dst := some 25, op := Go.Op.fieldAddr 31 (Go.Operand.tmp 24) 0, type := 0, pos := "l93_draw.go:202", after := #[{ on := 4, ground := Go.Ground.data }, { on := 8, ground := Go.Ground.gcOnly Go.Departure.lateStores }], guard := none }) (v := ?_) rfl (by kernel_rfl) (by kernel_rfl) (by kernel_rfl) (fun _ _ _ h => h) (Or.inl ⟨by rfl, ?_⟩) (by assumption) ?_
    rotate_left
    · (intro w hSw; (try dsimp only at hSw); go_simp; try with_reducible rfl)
    try simp only [Act.put, List.setIfInBounds_toArray, List.set_cons_zero, List.set_cons_succ]
    refine wpAnyH_take (i := 6) (oi := { dst := some 26, op := Go.Op.load 3 (Go.Operand.tmp 25), type := 3, pos := "l93_draw.go:202", after := #[{ on := 5, ground := Go.Ground.data }, { on := 8, ground := Go.Ground.gcOnly Go.Departure.lateStores }], guard := none }) (v := ?_) rfl (by kernel_rfl) (by kernel_rfl) (by kernel_rfl) (fun _ _ _ h => h) (Or.inl ⟨by rfl, ?_⟩) (by assumption) ?_
    rotate_left
    · (intro w hSw; (try dsimp only at hSw); go_simp; try with_reducible rfl)
    try simp only [Act.put, List.setIfInBounds_toArray, List.set_cons_zero, List.set_cons_succ]
    refine wpAnyH_ready (rs := [2]) (by kernel_rfl) (by simp) ?_
    refine (AllReadyH.cons (o := { dst := some 22, op := Go.Op.call { callee := Go.Callee.value (Go.Operand.func 48), args := #[Go.Operand.tmp 21], argTypes := #[50] }, type := 23, pos := "l93_draw.go:202", after := #[{ on := 1, ground := Go.Ground.data }], guard := none }) rfl (fun K hK => ?_) AllReadyH.nil)
    go_simp
    refine (c_l91CurveP 200 B g _ _ (by omega) (by omega) HR3.out.drewG).mono ?_
    rintro e w4 ⟨A4, n4, c4, l4, rfl, hm0, hm1, hmc, hO4, _, hg⟩
    have hg := un_drewG hg
    have hS : w4.cell? ⟨gb, 0, none⟩ = some (.int .i64 x0) := cell_grownG hg r0 hgg
    have HO4 := Lib.hid (HO3.out.grown hg hlt)
    have HE4 := Lib.hid hO4
    have HG4 := Lib.hid (only_same HG3.out hg)
    clear hO4 hg
    go_wp2_with fail
    refine hK.out _ _ hS (fun hH7 => ?_)
    clear hK K hH0
    try simp only [Act.put, List.setIfInBounds_toArray, List.set_cons_zero, List.set_cons_succ]
    refine wpAnyH_take (i := 7) (oi := { dst := some 2, op := Go.Op.assign (Go.Operand.tmp 20), type := 23, pos := "l93_draw.go:202", after := #[{ on := 0, ground := Go.Ground.data }, { on := 2, ground := Go.Ground.chain }, { on := 0, ground := Go.Ground.phase }, { on := 1, ground := Go.Ground.textOnly Go.Departure.lateStores }, { on := 2, ground := Go.Ground.textOnly Go.Departure.lateStoresUnsure }, { on := 3, ground := Go.Ground.textOnly Go.Departure.lateStores }, { on := 4, ground := Go.Ground.textOnly Go.Departure.lateStores }, { on := 5, ground := Go.Ground.textOnly Go.Departure.lateStores }, { on := 6, ground := Go.Ground.textOnly Go.Departure.lateStores }], guard := none }) (v := ?_) rfl (by kernel_rfl) (by kernel_rfl) (by kernel_rfl) (fun _ _ _ h => h) (Or.inl ⟨by rfl, ?_⟩) (by assumption) ?_
    rotate_left
    · (intro w hSw; (try dsimp only at hSw); go_simp; try with_reducible rfl)
    try simp only [Act.put, List.setIfInBounds_toArray, List.set_cons_zero, List.set_cons_succ]
    refine wpAnyH_take (i := 8) (oi := { dst := some 3, op := Go.Op.assign (Go.Operand.tmp 22), type := 23, pos := "l93_draw.go:202", after := #[{ on := 2, ground := Go.Ground.data }, { on := 7, ground := Go.Ground.chain }, { on := 0, ground := Go.Ground.phase }, { on := 1, ground := Go.Ground.phase }, { on := 2, ground := Go.Ground.phase }, { on := 3, ground := Go.Ground.textOnly Go.Departure.lateStores }, { on := 4, ground := Go.Ground.textOnly Go.Departure.lateStores }, { on := 5, ground := Go.Ground.textOnly Go.Departure.lateStores }, { on := 6, ground := Go.Ground.textOnly Go.Departure.lateStores }, { on := 7, ground := Go.Ground.phase }], guard := none }) (v := ?_) rfl (by kernel_rfl) (by kernel_rfl) (by kernel_rfl) (fun _ _ _ h => h) (Or.inl ⟨by rfl, ?_⟩) (by assumption) ?_
    rotate_left
    · (intro w hSw; (try dsimp only at hSw); go_simp; try with_reducible rfl)
    try simp only [Act.put, List.setIfInBounds_toArray, List.set_cons_zero, List.set_cons_succ]
    refine wpAnyH_take (i := 9) (oi := { dst := some 4, op := Go.Op.assign (Go.Operand.tmp 26), type := 3, pos := "l93_draw.go:202", after := #[{ on := 6, ground := Go.Ground.data }, { on := 8, ground := Go.Ground.chain }, { on := 0, ground := Go.Ground.phase }, { on := 1, ground := Go.Ground.phase }, { on := 2, ground := Go.Ground.phase }, { on := 3, ground := Go.Ground.phase }, { on := 4, ground := Go.Ground.phase }, { on := 5, ground := Go.Ground.phase }, { on := 6, ground := Go.Ground.phase }, { on := 7, ground := Go.Ground.phase }, { on := 8, ground := Go.Ground.phase }], guard := none }) (v := ?_) rfl (by kernel_rfl) (by kernel_rfl) (by kernel_rfl) (fun _ _ _ h => h) (Or.inl ⟨by rfl, ?_⟩) (by assumption) ?_
    rotate_left
    · (intro w hSw; (try dsimp only at hSw); go_simp; try with_reducible rfl)
    try simp only [Act.put, List.setIfInBounds_toArray, List.set_cons_zero, List.set_cons_succ]
    refine wpAnyH_done (by kernel_rfl) ?_ _
    refine NoPanic.normal ?_
    go_wp2
    go_ret3
    exact lg_mk (by omega) (by omega) HO4.out HE4.out HG4.out

set_option maxHeartbeats 1000000 in
theorem c_DrawGasLag (A : Option Addr) (n c : Nat) (w : World) (h : RdB w A n) (hn : n ≤ 1048576) (hc : n ≤ c) :
    Calls Try.prog 10 #[.slice A n c] w (DrawLG w) := by
  have HB := Lib.hid h
  clear h
  go_enter Try.func10, Try.ntmps10
  go_wp2_with fail
  refine (c_l6Open _ _ _ _ HB.out (by omega) hc).mono ?_
  rintro e w1 ⟨rfl, hr1, hb1, hs1⟩
  go_wp2_with fail
  refine (c_l93Gas _ _ _ _ (by omega) hr1).mono ?_
  rintro e w2 ⟨A2, n2, c2, a, B2, m2, cm2, b, x, rfl, hn2, hm2, hA2, hB2, hg2⟩
  have HA := Lib.hid hA2
  have HBB := Lib.hid hB2
  have hBw := only_to_below hg2 hb1 (Nat.le_refl _) hb1.size
  clear hA2 hB2 hg2 hr1 hb1
  go_wp2
  go_ret3
  exact ⟨_, _, _, a, _, _, _, b, _, rfl, hn2, hm2, HA.out, HBB.out, hBw⟩

set_option maxHeartbeats 1000000 in
theorem c_DrawGasDepth (A : Option Addr) (n c : Nat) (w : World) (h : RdB w A n) (hn : n ≤ 1048576) (hc : n ≤ c) :
    Calls Try.prog 16 #[.slice A n c] w (DrawLG w) := by
  have HB := Lib.hid h
  clear h
  go_enter Try.func16, Try.ntmps16
  go_wp2_with fail
  refine (c_l6Open _ _ _ _ HB.out (by omega) hc).mono ?_
  rintro e w1 ⟨rfl, hr1, hb1, hs1⟩
  go_wp2_with fail
  refine (c_l93Gas _ _ _ _ (by omega) hr1).mono ?_
  rintro e w2 ⟨A2, n2, c2, a, B2, m2, cm2, b, x, rfl, hn2, hm2, hA2, hB2, hg2⟩
  have HA := Lib.hid hA2
  have HBB := Lib.hid hB2
  have hBw := only_to_below hg2 hb1 (Nat.le_refl _) hb1.size
  clear hA2 hB2 hg2 hr1 hb1
  go_wp2
  go_ret3
  exact ⟨_, _, _, a, _, _, _, b, _, rfl, hn2, hm2, HA.out, HBB.out, hBw⟩
end Go.Proofs.Ytfngdemjlglliaa
