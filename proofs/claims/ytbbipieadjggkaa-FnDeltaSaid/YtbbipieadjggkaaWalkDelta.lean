/-
  The walk of the law FnDelta: it returns true and writes nothing that was there.
-/
import Derived.Test.YtbbipieadjggkaaWaterA
import Derived.Test.YtbbipieadjggkaaIsoDrawD
import Derived.Test.YtbbipieadjggkaaLawWords
import Derived.Test.YtbbipieadjggkaaFracAddImpl
import Derived.Test.YtbbipieadjggkaaFracMulImpl
import Derived.Test.YtbbipieadjggkaaFracDivImpl
import Derived.Test.YtbbipieadjggkaaFracLessImpl
import Derived.Deep.RegionHeld3
namespace Go.Proofs.Ytbbipieadjggkaa
open Go.RowKit

def Six (g1 g2 g4 : Nat) (sn sd N D rn rd : Int) (w W : World) : Prop :=
  (W.cell? ⟨g1 + 1, 0, none⟩ = some (.int .i64 sn) ∧ W.cell? ⟨g1 + 1, 1, none⟩ = some (.int .i64 sd) ∧ W.cell? ⟨g2, 0, none⟩ = some (.int .i64 N) ∧ W.cell? ⟨g2, 1, none⟩ = some (.int .i64 D) ∧ W.cell? ⟨g4, 0, none⟩ = some (.int .i64 rn) ∧ W.cell? ⟨g4, 1, none⟩ = some (.int .i64 rd)) ∧ Below w.heap.size w W
theorem six_below {g1 g2 g4 : Nat} {sn sd N D rn rd : Int} {w W W' : World} (h : Six g1 g2 g4 sn sd N D rn rd w W) (hb : Below W.heap.size W W') : Six g1 g2 g4 sn sd N D rn rd w W' := by
  obtain ⟨⟨a, b, c, d, e, f⟩, g⟩ := h
  exact ⟨⟨cell_keep hb a, cell_keep hb b, cell_keep hb c, cell_keep hb d, cell_keep hb e, cell_keep hb f⟩, bel0 g hb⟩
theorem six_end {g1 g2 g4 : Nat} {sn sd N D rn rd : Int} {w W : World} (h : Six g1 g2 g4 sn sd N D rn rd w W) : Below w.heap.size w W := h.2
theorem six_drew {g1 g2 g4 : Nat} {sn sd N D rn rd : Int} {w W : World} (h : Six g1 g2 g4 sn sd N D rn rd w W) : Six g1 g2 g4 sn sd N D rn rd w W.drew := ⟨h.1, h.2.drew⟩

set_option maxHeartbeats 4000000 in
theorem walk_FnDelta (A : Option Addr) (n c : Nat) (w : World) (h : RdB w A n) (hn : n ≤ maxLen) (hc : n ≤ c) :
    Calls Try.prog 7 #[.slice A n c] w fun e w' => e = .returned (.bool true) ∧ Below w.heap.size w w' := by
  unfold maxLen at hn
  have HB := Lib.hid h
  clear h
  by_cases hbig : 1048576 < n
  · go_enter Try.func7, Try.ntmps7
    go_wp2
    go_ret
    exact ⟨rfl, Below.refl _ _⟩
  · have hd1 : decide ((1048576 : Int) < (n : Int)) = false := by simp; omega
    go_enter Try.func7, Try.ntmps7
    go_wp2_with fail
    refine (c_DrawWaterDelta _ _ _ _ HB.out (by omega) hc).mono ?_
    rintro e w1 ⟨a, h, sn, sd, rfl, a0, a9, h0, h9, s0, s9, d0, d9, hB1⟩
    rcases Bool.eq_false_or_eq_true (okO (vD a h sn sd) (dX a h sn sd) (a * sn)) with hok | hok
    · obtain ⟨N, D, hN, hD, hv, hk, hvf, hf, HO⟩ := op_val hok
      have HN := Lib.hid hN
      have HD := Lib.hid hD
      have HV := Lib.hid hv
      have HF := Lib.hid hk
      have HVF := Lib.hid hvf
      obtain ⟨n1, n2, n3, n4, _⟩ := vF_yes hvf
      clear hok hN hD hk hvf hv
      go_wp2_with fail
      refine (c_implWaterDelta _ _ _ _ _).mono ?_
      intro e w2 hp
      obtain ⟨rfl, hb⟩ := HO _ _ _ hp
      clear hp
      have J2 := Lib.hid (blk_n2 hb)
      have K2 := Lib.hid (blk_n2' hb)
      have hB2 := bel2 hB1 hb
      have zJ2 := J2.out.lt
      have zK2 := K2.out.lt
      obtain ⟨cJ2, dJ2, _, _⟩ := J2.out.two
      obtain ⟨cK2, dK2, _, _⟩ := K2.out.two
      clear hb
      go_wp2_with fail
      refine (c_specWaterDelta _ _ _ _ _).mono ?_
      intro e w3 hp
      obtain ⟨rfl, hb⟩ := HO _ _ _ hp
      clear hp HO
      have J3 := Lib.hid (blk_b1 J2.out hb)
      have K3 := Lib.hid (blk_b1 K2.out hb)
      have O3 := Lib.hid (blk_n1 hb)
      have hB3 := bel1 hB2 hb
      have zJ3 := J3.out.lt
      have zK3 := K3.out.lt
      have zO3 := O3.out.lt
      obtain ⟨cJ3, dJ3, _, _⟩ := J3.out.two
      obtain ⟨cK3, dK3, _, _⟩ := K3.out.two
      obtain ⟨cO3, dO3, _, _⟩ := O3.out.two
      clear hb
      obtain ⟨hv1, hs1, h1s⟩ := vD_yes HV.out
      obtain ⟨e1, e2, e3⟩ := delta_facts hv1 hs1 h1s HF.out
      have HR := Lib.hid (ratio_ok hv1)
      have HVW := Lib.hid hv1
      generalize hrn : nF h a = rn at *
      generalize hrd : dF h a = rd at *
      have e1 : N = 0 ↔ rn = sn ∧ rd = sd := by rw [HN.out]; exact e1
      have E2 := Lib.hid (show lessF rn rd sn sd = decide (N < 0) by rw [HN.out]; exact e2)
      have E3 := Lib.hid (show lessF N D (-1000) 1 = false by rw [HN.out, HD.out]; exact e3)
      have HRN := Lib.hid hrn
      have HRD := Lib.hid hrd
      clear hv1 hs1 h1s e2 e3 hrn hrd
      go_wp2_with fail
      refine (c_implWaterRatio _ _ _).mono ?_
      intro e w4 hp
      obtain ⟨rfl, hb⟩ := op_at HVW.out HRN.out HRD.out HR.out hp
      clear hp
      have K4 := Lib.hid (blk_b1 K3.out hb)
      have O4 := Lib.hid (blk_b1 O3.out hb)
      have hB4 := bel1 hB3 hb
      have zK4 := K4.out.lt
      have zO4 := O4.out.lt
      obtain ⟨cK4, dK4, _, _⟩ := K4.out.two
      obtain ⟨cO4, dO4, _, _⟩ := O4.out.two
      clear hb
      have hB5 := hB4.alloc hB4.size (.cells #[.int .i64 rn, .int .i64 rd] 26)
      have hS0 := (show Six w1.heap.size w2.heap.size w4.heap.size sn sd N D rn rd w (w4.alloc (.cells #[.int .i64 rn, .int .i64 rd] 26)) from ⟨⟨cell_keep (Below.alloc (Below.refl _ _) (Nat.le_refl _) _) cK4, cell_keep (Below.alloc (Below.refl _ _) (Nat.le_refl _) _) dK4, cell_keep (Below.alloc (Below.refl _ _) (Nat.le_refl _) _) cO4, cell_keep (Below.alloc (Below.refl _ _) (Nat.le_refl _) _) dO4, (blk_new w4 _ _).two.1, (blk_new w4 _ _).two.2.1⟩, hB5⟩)
      have HS0 := Lib.hid hS0
      clear hS0 hB5
      rcases Int.lt_trichotomy N 0 with hlt | hlt | hlt
      · have g0 : (N == 0) = false := by simp; omega
        have ED := Lib.hid (show decide (N < 0) = true by simp; omega)
        have gd : decide (N < 0) = true := ED.out
        have hne : ¬ (rn = sn ∧ rd = sd) := fun e => by have := e1.2 e; omega
        clear e1
        by_cases hr : rn = sn
        · subst hr
          have g1 : (rd == sd) = false := by simpa using hne
          go_wp2_with fail
          go_region_held3 (fun W => (W.cell? ⟨w1.heap.size + 1, 0, none⟩ = some (.int .i64 rn) ∧ W.cell? ⟨w1.heap.size + 1, 1, none⟩ = some (.int .i64 sd) ∧ W.cell? ⟨w2.heap.size, 0, none⟩ = some (.int .i64 N) ∧ W.cell? ⟨w2.heap.size, 1, none⟩ = some (.int .i64 D) ∧ W.cell? ⟨w4.heap.size, 0, none⟩ = some (.int .i64 rn) ∧ W.cell? ⟨w4.heap.size, 1, none⟩ = some (.int .i64 rd)) ∧ Below w.heap.size w W) (first | exact HS0.out | exact six_drew HS0.out | assumption) (first | (go_at_call 18; (with_reducible refine (c_implFracLess rn rd rn sd _).mono ?_); intro e w5 hp; obtain ⟨he, hb⟩ := hp; rw [E2.out, ED.out] at he; subst he; have hS := six_below (by assumption) hb; clear hb) | (go_at_call 18; (with_reducible refine (c_implFracLess N D (-1000) 1 _).mono ?_); intro e w5 hp; obtain ⟨he, hb⟩ := hp; rw [E3.out] at he; subst he; have hS := six_below (by assumption) hb; clear hb) | (go_at_call 23; (with_reducible refine (c_frac (-1000) _).mono ?_); rintro e w5 ⟨rfl, hb⟩; have hS := six_below (by assumption) hb; clear hb))
          all_goals
            go_wp2
            go_ret
            exact ⟨rfl, six_end (by assumption)⟩
        · have g1 : (rn == sn) = false := by simpa using hr
          go_wp2_with fail
          go_region_held3 (fun W => (W.cell? ⟨w1.heap.size + 1, 0, none⟩ = some (.int .i64 sn) ∧ W.cell? ⟨w1.heap.size + 1, 1, none⟩ = some (.int .i64 sd) ∧ W.cell? ⟨w2.heap.size, 0, none⟩ = some (.int .i64 N) ∧ W.cell? ⟨w2.heap.size, 1, none⟩ = some (.int .i64 D) ∧ W.cell? ⟨w4.heap.size, 0, none⟩ = some (.int .i64 rn) ∧ W.cell? ⟨w4.heap.size, 1, none⟩ = some (.int .i64 rd)) ∧ Below w.heap.size w W) (first | exact HS0.out | exact six_drew HS0.out | assumption) (first | (go_at_call 18; (with_reducible refine (c_implFracLess rn rd sn sd _).mono ?_); intro e w5 hp; obtain ⟨he, hb⟩ := hp; rw [E2.out, ED.out] at he; subst he; have hS := six_below (by assumption) hb; clear hb) | (go_at_call 18; (with_reducible refine (c_implFracLess N D (-1000) 1 _).mono ?_); intro e w5 hp; obtain ⟨he, hb⟩ := hp; rw [E3.out] at he; subst he; have hS := six_below (by assumption) hb; clear hb) | (go_at_call 23; (with_reducible refine (c_frac (-1000) _).mono ?_); rintro e w5 ⟨rfl, hb⟩; have hS := six_below (by assumption) hb; clear hb))
          all_goals
            go_wp2
            go_ret
            exact ⟨rfl, six_end (by assumption)⟩
      · obtain ⟨rfl, rfl⟩ := e1.1 hlt
        subst hlt
        have ED := Lib.hid (show decide ((0 : Int) < 0) = false by simp)
        clear e1
        go_wp2_with fail
        go_region_held3 (fun W => (W.cell? ⟨w1.heap.size + 1, 0, none⟩ = some (.int .i64 rn) ∧ W.cell? ⟨w1.heap.size + 1, 1, none⟩ = some (.int .i64 rd) ∧ W.cell? ⟨w2.heap.size, 0, none⟩ = some (.int .i64 0) ∧ W.cell? ⟨w2.heap.size, 1, none⟩ = some (.int .i64 D) ∧ W.cell? ⟨w4.heap.size, 0, none⟩ = some (.int .i64 rn) ∧ W.cell? ⟨w4.heap.size, 1, none⟩ = some (.int .i64 rd)) ∧ Below w.heap.size w W) (first | exact HS0.out | exact six_drew HS0.out | assumption) (first | (go_at_call 18; (with_reducible refine (c_implFracLess rn rd rn rd _).mono ?_); intro e w5 hp; obtain ⟨he, hb⟩ := hp; rw [E2.out, ED.out] at he; subst he; have hS := six_below (by assumption) hb; clear hb) | (go_at_call 18; (with_reducible refine (c_implFracLess 0 D (-1000) 1 _).mono ?_); intro e w5 hp; obtain ⟨he, hb⟩ := hp; rw [E3.out] at he; subst he; have hS := six_below (by assumption) hb; clear hb) | (go_at_call 23; (with_reducible refine (c_frac (-1000) _).mono ?_); rintro e w5 ⟨rfl, hb⟩; have hS := six_below (by assumption) hb; clear hb))
        all_goals
          go_wp2
          go_ret
          exact ⟨rfl, six_end (by assumption)⟩
      · have g0 : (N == 0) = false := by simp; omega
        have ED := Lib.hid (show decide (N < 0) = false by simp; omega)
        have gd : decide (N < 0) = false := ED.out
        have hne : ¬ (rn = sn ∧ rd = sd) := fun e => by have := e1.2 e; omega
        clear e1
        by_cases hr : rn = sn
        · subst hr
          have g1 : (rd == sd) = false := by simpa using hne
          go_wp2_with fail
          go_region_held3 (fun W => (W.cell? ⟨w1.heap.size + 1, 0, none⟩ = some (.int .i64 rn) ∧ W.cell? ⟨w1.heap.size + 1, 1, none⟩ = some (.int .i64 sd) ∧ W.cell? ⟨w2.heap.size, 0, none⟩ = some (.int .i64 N) ∧ W.cell? ⟨w2.heap.size, 1, none⟩ = some (.int .i64 D) ∧ W.cell? ⟨w4.heap.size, 0, none⟩ = some (.int .i64 rn) ∧ W.cell? ⟨w4.heap.size, 1, none⟩ = some (.int .i64 rd)) ∧ Below w.heap.size w W) (first | exact HS0.out | exact six_drew HS0.out | assumption) (first | (go_at_call 18; (with_reducible refine (c_implFracLess rn rd rn sd _).mono ?_); intro e w5 hp; obtain ⟨he, hb⟩ := hp; rw [E2.out, ED.out] at he; subst he; have hS := six_below (by assumption) hb; clear hb) | (go_at_call 18; (with_reducible refine (c_implFracLess N D (-1000) 1 _).mono ?_); intro e w5 hp; obtain ⟨he, hb⟩ := hp; rw [E3.out] at he; subst he; have hS := six_below (by assumption) hb; clear hb) | (go_at_call 23; (with_reducible refine (c_frac (-1000) _).mono ?_); rintro e w5 ⟨rfl, hb⟩; have hS := six_below (by assumption) hb; clear hb))
          all_goals
            go_wp2
            go_ret
            exact ⟨rfl, six_end (by assumption)⟩
        · have g1 : (rn == sn) = false := by simpa using hr
          go_wp2_with fail
          go_region_held3 (fun W => (W.cell? ⟨w1.heap.size + 1, 0, none⟩ = some (.int .i64 sn) ∧ W.cell? ⟨w1.heap.size + 1, 1, none⟩ = some (.int .i64 sd) ∧ W.cell? ⟨w2.heap.size, 0, none⟩ = some (.int .i64 N) ∧ W.cell? ⟨w2.heap.size, 1, none⟩ = some (.int .i64 D) ∧ W.cell? ⟨w4.heap.size, 0, none⟩ = some (.int .i64 rn) ∧ W.cell? ⟨w4.heap.size, 1, none⟩ = some (.int .i64 rd)) ∧ Below w.heap.size w W) (first | exact HS0.out | exact six_drew HS0.out | assumption) (first | (go_at_call 18; (with_reducible refine (c_implFracLess rn rd sn sd _).mono ?_); intro e w5 hp; obtain ⟨he, hb⟩ := hp; rw [E2.out, ED.out] at he; subst he; have hS := six_below (by assumption) hb; clear hb) | (go_at_call 18; (with_reducible refine (c_implFracLess N D (-1000) 1 _).mono ?_); intro e w5 hp; obtain ⟨he, hb⟩ := hp; rw [E3.out] at he; subst he; have hS := six_below (by assumption) hb; clear hb) | (go_at_call 23; (with_reducible refine (c_frac (-1000) _).mono ?_); rintro e w5 ⟨rfl, hb⟩; have hS := six_below (by assumption) hb; clear hb))
          all_goals
            go_wp2
            go_ret
            exact ⟨rfl, six_end (by assumption)⟩
    · have HO := Lib.hid hok
      clear hok
      go_wp2_with fail
      refine (c_implWaterDelta _ _ _ _ _).mono ?_
      intro e w2 hp
      obtain ⟨rfl, hb⟩ := op_bad HO.out hp
      clear hp
      have J2 := Lib.hid (blk_n2 hb)
      have K2 := Lib.hid (blk_n2' hb)
      have hB2 := bel2 hB1 hb
      have zJ2 := J2.out.lt
      have zK2 := K2.out.lt
      obtain ⟨cJ2, dJ2, _, _⟩ := J2.out.two
      obtain ⟨cK2, dK2, _, _⟩ := K2.out.two
      clear hb
      go_wp2_with fail
      refine (c_specWaterDelta _ _ _ _ _).mono ?_
      intro e w3 hp
      obtain ⟨rfl, hb⟩ := op_bad HO.out hp
      clear hp
      have J3 := Lib.hid (blk_b1 J2.out hb)
      have K3 := Lib.hid (blk_b1 K2.out hb)
      have O3 := Lib.hid (blk_n1 hb)
      have hB3 := bel1 hB2 hb
      have zJ3 := J3.out.lt
      have zK3 := K3.out.lt
      have zO3 := O3.out.lt
      obtain ⟨cO3, dO3, _, _⟩ := O3.out.two
      clear hb
      go_wp2
      go_ret
      exact ⟨rfl, hB3.alloc hB3.size _⟩
end Go.Proofs.Ytbbipieadjggkaa
