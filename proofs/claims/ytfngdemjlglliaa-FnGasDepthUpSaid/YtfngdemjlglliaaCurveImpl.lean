/-
  Contracts of isDepth, l11Depth and CurveValid, of the program and of the reference.
-/
import Derived.Test.YtfngdemjlglliaaCurveMath
import Derived.Test.YtfngdemjlglliaaIn
import Derived.Handy
import Derived.IntWalk
import Derived.Deep.QuietTactic
import Derived.BigQuiet
namespace Go.Proofs.Ytfngdemjlglliaa
open Go.RowKit

theorem below_drewC {B n : Nat} {a w : World} (h : Below B a w) : Below B a (w.drewN n) := ⟨h.os, h.tape, h.output, h.size, h.block⟩
set_option maxHeartbeats 400000 in
theorem c_isDepth (x : Int) (w : World) :
    Calls Try.prog 55 #[.int .i64 x] w fun e w' => e = .returned (.bool (inB x 0 30000)) ∧ w = w' := by
  by_cases h1 : 0 ≤ x <;> by_cases h2 : x ≤ 30000
  all_goals
    go_enter Try.func55, Try.ntmps55
    go_wp2
    go_ret
    exact ⟨ret_bool (by simp [inB, h1, h2]), rfl⟩
set_option maxHeartbeats 400000 in
theorem c_l11Depth (x : Int) (w : World) :
    Calls Try.prog 59 #[.int .i64 x] w fun e w' => e = .returned (.bool (inB x 0 30000)) ∧ w = w' := by
  go_enter Try.func59, Try.ntmps59
  go_wp2_with fail
  refine (c_l6In _ _ _ _).mono ?_
  rintro e w' ⟨rfl, rfl⟩
  go_wp2
  go_ret
  exact ⟨rfl, rfl⟩
theorem absC {F : World → Prop} {S : World → Prop} {W : World} (h : ∀ W', S W' → F W') (hS : S W) : F W := h W hS
theorem box_cells (w : World) (t : TypeId) (x y : Value) : (w.alloc (.cells #[x, y] t)).cell? ⟨w.heap.size, 0, none⟩ = some x ∧ (w.alloc (.cells #[x, y] t)).cell? ⟨w.heap.size, 1, none⟩ = some y := by
  have hb : Blk (w.alloc (.cells #[x, y] t)) w.heap.size t #[x, y] := heap_alloc_new w _
  rw [hb.cell, hb.cell]
  exact ⟨rfl, rfl⟩
theorem cell_onC {w : World} {o : Obj} {b k : Nat} {v : Value} (h : w.cell? ⟨b, k, none⟩ = some v) : (w.alloc o).cell? ⟨b, k, none⟩ = some v := (World.cell?_alloc_lt w _ _ (World.block_lt_of_cell? w _ h)).trans h
theorem qb_of {P : Program} {f : FuncId} {args : Array Value} {w : World} {n : Nat} {b b' : Bool} (hb : b = b')
    (h : Calls P f args (w.drewN n) fun e w' => e = .returned (.bool b) ∧ w.drewN n = w') : Calls P f args (w.drewN n) fun e w'' => e = .returned (.bool b') ∧ ∃ m, w'' = w.drewN m := by
  subst hb
  exact h.mono fun _ _ ⟨he, hm⟩ => ⟨he, n, hm.symm⟩
theorem qc_isDepth {x : Int} {b : Bool} (hb : inB x 0 30000 = b) (w : World) (n : Nat) : Calls Try.prog 55 #[.int .i64 x] (w.drewN n) fun e w'' => e = .returned (.bool b) ∧ ∃ m, w'' = w.drewN m := qb_of hb (c_isDepth x _)
theorem qc_l11Depth {x : Int} {b : Bool} (hb : inB x 0 30000 = b) (w : World) (n : Nat) : Calls Try.prog 59 #[.int .i64 x] (w.drewN n) fun e w'' => e = .returned (.bool b) ∧ ∃ m, w'' = w.drewN m := qb_of hb (c_l11Depth x _)

set_option maxHeartbeats 4000000 in
theorem c_implCurveValid (A : Option Addr) (n c : Nat) (l : List (Int × Int)) (w : World) (hn : n ≤ 2000000) (h : RdP w A n l) :
    Calls Try.prog 34 #[.slice A n c] w fun e w' => e = .returned (.bool (vC l)) ∧ Below w.heap.size w w' := by
  have HL := Lib.hid h.len
  have HA := Lib.hid h.at_
  clear h
  go_enter Try.func34, Try.ntmps34
  go_wp2
  go_loopw [7] (fun i wr => ∃ k : Nat, k ≤ n ∧ i = .int .i64 k ∧ Hid ((List.range k).all (vK l) = true) ∧ Below w.heap.size w wr) (fun i _ => n - (intOf i).toNat)
  case atStart => exact ⟨0, Nat.zero_le _, rfl, rfl, Below.refl _ _⟩
  case round =>
    obtain ⟨k, hk, rfl, HK, hB⟩ := hrel
    have hsz := hB.size
    by_cases hlt : k < n
    · obtain ⟨b, off, rfl, hb, hc⟩ := HA.out (by omega)
      have hkl : k < l.length := by have := HL.out; omega
      obtain ⟨hc0, hc1⟩ := hc k hlt
      rw [← hB.cell (p := ⟨b, off + k * 2, none⟩) hb] at hc0
      rw [← hB.cell (p := ⟨b, off + k * 2 + 1, none⟩) hb] at hc1
      have hk0 : (0 : Int) ≤ (k : Int) := by omega
      have hk1 : (k : Int) < (n : Int) := by omega
      rcases Bool.eq_false_or_eq_true (inB (px l k) 0 30000) with hx | hx
      · have HX := Lib.hid hx
        rcases Bool.eq_false_or_eq_true (inB (py l k) 0 30000) with hy | hy
        · have HY := Lib.hid hy
          clear hx hy
          by_cases h0 : k = 0
          · subst h0
            have HOK := Lib.hid (vK_0 HX.out HY.out)
            rw [Nat.zero_mul, Nat.add_zero] at hc0
            rw [Nat.zero_mul, Nat.add_zero] at hc1
            clear hc
            go_wp2_with fail
            refine absC (S := fun W => (W.cell? ⟨wr.heap.size, 0, none⟩ = some (.int .i64 (px l (0))) ∧ W.cell? ⟨wr.heap.size, 1, none⟩ = some (.int .i64 (py l (0)))) ∧ Below w.heap.size w W) ?_ ⟨box_cells wr _ _ _, hB.alloc hsz _⟩
            intro W2 hW2
            obtain ⟨⟨q0, q1⟩, hB2⟩ := hW2
            clear hB
            go_quiet (first | (go_at_call 55; with_reducible exact qc_isDepth HX.out _ _) | (go_at_call 55; with_reducible exact qc_isDepth HY.out _ _))
            go_wp2
            go_roundw
            case rel => exact ⟨0 + 1, by omega, by go_num, vC_step HK.out HOK.out, below_drewC hB2⟩
            case measure => simp [intOf]; omega
          · obtain ⟨j, rfl⟩ : ∃ j, k = j + 1 := ⟨k - 1, by omega⟩
            have hj : ((j + 1 : Nat) : Int) - 1 = (j : Int) := by omega
            have hj0 : (0 : Int) ≤ (j : Int) := by omega
            have hj1 : (j : Int) < (n : Int) := by omega
            have hj2 : (0 : Int) < ((j + 1 : Nat) : Int) := by omega
            obtain ⟨hp0, hp1⟩ := hc j (by omega)
            rw [← hB.cell (p := ⟨b, off + j * 2, none⟩) hb] at hp0
            rw [← hB.cell (p := ⟨b, off + j * 2 + 1, none⟩) hb] at hp1
            clear hc h0
            by_cases h1 : px l j < px l (j + 1)
            · have d1 : decide (px l (j + 1) ≤ px l j) = false := by simp; omega
              by_cases h2 : py l j < py l (j + 1)
              · have d2 : decide (py l (j + 1) ≤ py l j) = false := by simp; omega
                have HOK := Lib.hid (vK_ok (k := j + 1) HX.out HY.out (by simpa using h1) (by simpa using h2))
                clear h1 h2
                go_wp2_with fail
                refine absC (S := fun W => (W.cell? ⟨wr.heap.size, 0, none⟩ = some (.int .i64 (px l (j + 1))) ∧ W.cell? ⟨wr.heap.size, 1, none⟩ = some (.int .i64 (py l (j + 1)))) ∧ W.cell? ⟨b, off + j * 2, none⟩ = some (.int .i64 (px l j)) ∧ W.cell? ⟨b, off + j * 2 + 1, none⟩ = some (.int .i64 (py l j)) ∧ Below w.heap.size w W) ?_ ⟨box_cells wr _ _ _, cell_onC hp0, cell_onC hp1, hB.alloc hsz _⟩
                intro W2 hW2
                obtain ⟨⟨q0, q1⟩, p0, p1, hB2⟩ := hW2
                clear hB
                go_quiet (first | (go_at_call 55; with_reducible exact qc_isDepth HX.out _ _) | (go_at_call 55; with_reducible exact qc_isDepth HY.out _ _))
                go_wp2
                go_roundw
                case rel => exact ⟨j + 1 + 1, by omega, by go_num, vC_step HK.out HOK.out, below_drewC hB2⟩
                case measure => simp [intOf]; omega
              · have d2 : decide (py l (j + 1) ≤ py l j) = true := by simp; omega
                have HBAD := Lib.hid (vK_dy (l := l) (k := j + 1) (by omega) (by simpa using h2))
                clear h1 h2
                go_wp2_with fail
                refine absC (S := fun W => (W.cell? ⟨wr.heap.size, 0, none⟩ = some (.int .i64 (px l (j + 1))) ∧ W.cell? ⟨wr.heap.size, 1, none⟩ = some (.int .i64 (py l (j + 1)))) ∧ W.cell? ⟨b, off + j * 2, none⟩ = some (.int .i64 (px l j)) ∧ W.cell? ⟨b, off + j * 2 + 1, none⟩ = some (.int .i64 (py l j)) ∧ Below w.heap.size w W) ?_ ⟨box_cells wr _ _ _, cell_onC hp0, cell_onC hp1, hB.alloc hsz _⟩
                intro W2 hW2
                obtain ⟨⟨q0, q1⟩, p0, p1, hB2⟩ := hW2
                clear hB
                go_quiet (first | (go_at_call 55; with_reducible exact qc_isDepth HX.out _ _) | (go_at_call 55; with_reducible exact qc_isDepth HY.out _ _))
                go_wp2
                go_ret
                exact ⟨ret_bool (vC_bad hkl HBAD.out).symm, below_drewC hB2⟩
            · have d1 : decide (px l (j + 1) ≤ px l j) = true := by simp; omega
              have HBAD := Lib.hid (vK_dx (l := l) (k := j + 1) (by omega) (by simpa using h1))
              clear h1
              go_wp2_with fail
              refine absC (S := fun W => (W.cell? ⟨wr.heap.size, 0, none⟩ = some (.int .i64 (px l (j + 1))) ∧ W.cell? ⟨wr.heap.size, 1, none⟩ = some (.int .i64 (py l (j + 1)))) ∧ W.cell? ⟨b, off + j * 2, none⟩ = some (.int .i64 (px l j)) ∧ W.cell? ⟨b, off + j * 2 + 1, none⟩ = some (.int .i64 (py l j)) ∧ Below w.heap.size w W) ?_ ⟨box_cells wr _ _ _, cell_onC hp0, cell_onC hp1, hB.alloc hsz _⟩
              intro W2 hW2
              obtain ⟨⟨q0, q1⟩, p0, p1, hB2⟩ := hW2
              clear hB
              go_quiet (first | (go_at_call 55; with_reducible exact qc_isDepth HX.out _ _) | (go_at_call 55; with_reducible exact qc_isDepth HY.out _ _))
              go_wp2
              go_ret
              exact ⟨ret_bool (vC_bad hkl HBAD.out).symm, below_drewC hB2⟩
        · have HY := Lib.hid hy
          have HBAD := Lib.hid (vK_y (l := l) (k := k) hy)
          clear hx hy hc
          go_wp2_with fail
          refine absC (S := fun W => (W.cell? ⟨wr.heap.size, 0, none⟩ = some (.int .i64 (px l (k))) ∧ W.cell? ⟨wr.heap.size, 1, none⟩ = some (.int .i64 (py l (k)))) ∧ Below w.heap.size w W) ?_ ⟨box_cells wr _ _ _, hB.alloc hsz _⟩
          intro W2 hW2
          obtain ⟨⟨q0, q1⟩, hB2⟩ := hW2
          clear hB
          go_quiet (first | (go_at_call 55; with_reducible exact qc_isDepth HX.out _ _) | (go_at_call 55; with_reducible exact qc_isDepth HY.out _ _))
          go_wp2
          go_ret
          exact ⟨ret_bool (vC_bad hkl HBAD.out).symm, below_drewC hB2⟩
      · have HX := Lib.hid hx
        have HBAD := Lib.hid (vK_x (l := l) (k := k) hx)
        clear hx hc
        go_wp2_with fail
        refine absC (S := fun W => (W.cell? ⟨wr.heap.size, 0, none⟩ = some (.int .i64 (px l (k))) ∧ W.cell? ⟨wr.heap.size, 1, none⟩ = some (.int .i64 (py l (k)))) ∧ Below w.heap.size w W) ?_ ⟨box_cells wr _ _ _, hB.alloc hsz _⟩
        intro W2 hW2
        obtain ⟨⟨q0, q1⟩, hB2⟩ := hW2
        clear hB
        go_quiet (first | (go_at_call 55; with_reducible exact qc_isDepth HX.out _ _) | fail)
        go_wp2
        go_ret
        exact ⟨ret_bool (vC_bad hkl HBAD.out).symm, below_drewC hB2⟩
    · obtain rfl : k = n := by omega
      have HE := Lib.hid (vC_end HL.out HK.out)
      by_cases h2 : (2 : Int) ≤ (k : Int)
      · by_cases h12 : (k : Int) ≤ 12
        · go_wp2
          go_ret
          exact ⟨ret_bool (by rw [HE.out, inB_of h2 h12]), hB⟩
        · have d12 : decide ((k : Int) ≤ 12) = false := by simp; omega
          go_wp2
          go_ret
          exact ⟨ret_bool (by rw [HE.out, inB_not (.inr (by omega))]), hB⟩
      · have d2 : decide ((2 : Int) ≤ (k : Int)) = false := by simp; omega
        go_wp2
        go_ret
        exact ⟨ret_bool (by rw [HE.out, inB_not (.inl (by omega))]), hB⟩
end Go.Proofs.Ytfngdemjlglliaa
