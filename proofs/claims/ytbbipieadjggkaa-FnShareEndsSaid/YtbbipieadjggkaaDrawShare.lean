/-
  Contract of DrawWaterShare: some two waters and some ratio.
-/
import Derived.Test.YtbbipieadjggkaaIsoDrawD
import Derived.Test.YtbbipieadjggkaaWaterMix
namespace Go.Proofs.Ytbbipieadjggkaa
open Go.RowKit

theorem Rdr.drew' {w : World} {B g p : Nat} (h : Rdr w B g p) : Rdr w.drew B g p := h.of_same fun _ _ => rfl
def DrawWWF (w : World) (e : Ending) (w' : World) : Prop :=
  ∃ aA aH bA bH rn rd : Int, e = .returned (.tuple #[.agg #[.int .i64 aA, .int .i64 aH], .agg #[.int .i64 bA, .int .i64 bH], .agg #[.int .i64 rn, .int .i64 rd]]) ∧ Below w.heap.size w w'
theorem rd_lit {W : World} {t : TypeId} (a b c d : Int) : RdP (W.alloc (.cells #[.int .i64 a, .int .i64 b, .int .i64 c, .int .i64 d] t)) (some ⟨W.heap.size, 0, none⟩) 2 [(a, b), (c, d)] := by
  have hb := blk_new W t #[.int .i64 a, .int .i64 b, .int .i64 c, .int .i64 d]
  refine ⟨rfl, fun _ => ⟨W.heap.size, 0, rfl, hb.lt, fun i hi => ?_⟩⟩
  rw [hb.cell, hb.cell]
  rcases (show i = 0 ∨ i = 1 by omega) with rfl | rfl <;> exact ⟨rfl, rfl⟩

theorem rd_lit1 {W : World} {o : Obj} {t : TypeId} (a b c d : Int) : RdP ((W.alloc o).alloc (.cells #[.int .i64 a, .int .i64 b, .int .i64 c, .int .i64 d] t)) (some ⟨W.heap.size + 1, 0, none⟩) 2 [(a, b), (c, d)] := by
  have h := rd_lit (W := W.alloc o) (t := t) a b c d
  have e : (W.alloc o).heap.size = W.heap.size + 1 := by simp
  rwa [e] at h

set_option maxHeartbeats 8000000 in
theorem c_DrawWaterShare (A : Option Addr) (n c : Nat) (w : World) (h : RdB w A n) (hn : n ≤ 1048576) (hc : n ≤ c) :
    Calls Try.prog 27 #[.slice A n c] w (DrawWWF w) := by
  have HB := Lib.hid h
  clear h
  go_enter Try.func27, Try.ntmps27
  go_wp2_with fail
  refine (c_l6OpenG _ _ _ _ ((((HB.out.below ((Below.refl _ _).alloc (Nat.le_refl _) _)).below ((Below.refl _ _).alloc (Nat.le_refl _) _))).below ((Below.refl _ _).alloc (Nat.le_refl _) _)) (by omega) hc).mono ?_
  rintro e w1 ⟨g, rfl, hg0, hg1, hr1, hb1⟩
  have HR1 := Lib.hid hr1
  have J1 := Lib.hid (blk_n3_1 hb1)
  have K1 := Lib.hid (blk_n3_2 hb1)
  have L1 := Lib.hid (blk_n3_3 hb1)
  have hB1 : Below w.heap.size w w1 := bel3 (Below.refl _ _) hb1
  have hg2 : w.heap.size + 3 ≤ g := by simp at hg0; omega
  clear hr1 hb1 hg0
  go_wp2_with fail
  refine (c_l93Water _ g _ _ (by omega) HR1.out).mono ?_
  rintro e w2 ⟨aA, aH, rfl, _, _, _, _, ⟨q, hq, hr⟩, hg⟩
  have hB2 : Below w.heap.size w w2 := hB1.trans (below_of_grown hg hB1.size (fun k hk => by injection hk with hk; omega))
  have J2 := Lib.hid ((J1.out.keep hg (by simp; omega)).alloc (.cells #[.int .i64 aA, .int .i64 aH] 24))
  have K2 := Lib.hid ((K1.out.keep hg (by simp; omega)).alloc (.cells #[.int .i64 aA, .int .i64 aH] 24))
  have L2 := Lib.hid ((L1.out.keep hg (by simp; omega)).alloc (.cells #[.int .i64 aA, .int .i64 aH] 24))
  have A2 := Lib.hid (blk_new w2 24 #[.int .i64 aA, .int .i64 aH])
  have HR2 := Lib.hid (hr.below ((Below.refl _ _).alloc (Nat.le_refl _) (.cells #[.int .i64 aA, .int .i64 aH] 24)))
  have y2 := hg.size
  have hB2 := hB2.alloc hB2.size (.cells #[.int .i64 aA, .int .i64 aH] 24)
  have hgl : g < w2.heap.size := by omega
  clear hr hg
  go_wp2_with fail
  refine (c_l93Water _ g _ _ (by omega) HR2.out).mono ?_
  rintro e w3 ⟨bA, bH, rfl, _, _, _, _, ⟨q', hq', hr⟩, hg⟩
  have y3 := hg.size
  simp at y3
  have hB3 : Below w.heap.size w w3 := hB2.trans (below_of_grown hg hB2.size (fun k hk => by injection hk with hk; omega))
  have J3 := Lib.hid ((J2.out.keep hg (by simp; omega)).alloc (.cells #[.int .i64 bA, .int .i64 bH] 24))
  have K3 := Lib.hid ((K2.out.keep hg (by simp; omega)).alloc (.cells #[.int .i64 bA, .int .i64 bH] 24))
  have L3 := Lib.hid ((L2.out.keep hg (by simp; omega)).alloc (.cells #[.int .i64 bA, .int .i64 bH] 24))
  have A3 := Lib.hid ((A2.out.keep hg (by simp; omega)).alloc (.cells #[.int .i64 bA, .int .i64 bH] 24))
  have B3 := Lib.hid (blk_new w3 24 #[.int .i64 bA, .int .i64 bH])
  have HR3 := Lib.hid (hr.below ((Below.refl _ _).alloc (Nat.le_refl _) (.cells #[.int .i64 bA, .int .i64 bH] 24)))
  have hB3 := hB3.alloc hB3.size (.cells #[.int .i64 bA, .int .i64 bH] 24)
  have hgl3 : g < w3.heap.size := by omega
  obtain ⟨cA, dA, _, _⟩ := A3.out.two
  have yA := cell_lt cA
  clear hr hg
  go_wp2_with fail
  refine (c_specWaterMix _ _ [(aA, aH), (bA, bH)] _ ?lit).mono ?_
  case lit => first | exact rd_lit1 _ _ _ _ | exact rd_lit _ _ _ _
  rintro e w4 ⟨mA, mH, b, rfl, hb⟩
  have J4 := Lib.hid ((blk_b1 J3.out hb).alloc (.cells #[.int .i64 mA, .int .i64 mH] 24))
  have K4 := Lib.hid ((blk_b1 K3.out hb).alloc (.cells #[.int .i64 mA, .int .i64 mH] 24))
  have L4 := Lib.hid ((blk_b1 L3.out hb).alloc (.cells #[.int .i64 mA, .int .i64 mH] 24))
  have A4 := Lib.hid ((blk_b1 A3.out hb).alloc (.cells #[.int .i64 mA, .int .i64 mH] 24))
  have B4 := Lib.hid ((blk_b1 B3.out hb).alloc (.cells #[.int .i64 mA, .int .i64 mH] 24))
  have M4 := Lib.hid (blk_new w4 24 #[.int .i64 mA, .int .i64 mH])
  have HR4 := Lib.hid ((HR3.out.below ((Below.refl _ _).alloc (Nat.le_refl _) _)).below hb |>.below ((Below.refl _ _).alloc (Nat.le_refl _) (.cells #[.int .i64 mA, .int .i64 mH] 24)))
  have hB4 := bel1 hB3 hb
  have y4 := hb.size
  simp at y4
  have hB4 := hB4.alloc hB4.size (.cells #[.int .i64 mA, .int .i64 mH] 24)
  have hgl4 : g < w4.heap.size := by omega
  clear hb cA dA HB HR1 HR2 HR3 J1 J2 J3 K1 K2 K3 L1 L2 L3 A2 A3 B3 hB1 hB2 hB3 hg1 hn hc
  rcases Bool.eq_false_or_eq_true b with rfl | rfl
  · go_wp2_with fail
    refine (c_pick _ g _ 4 _ (by omega) HR4.out).mono ?_
    rintro e w5 ⟨v, rfl, v0, v1, hr, hg, hs⟩
    have y5 := hg.size
    simp at y5
    have J := Lib.hid (J4.out.keep hg (by simp; omega))
    have K := Lib.hid (K4.out.keep hg (by simp; omega))
    have L := Lib.hid (L4.out.keep hg (by simp; omega))
    have A := Lib.hid (A4.out.keep hg (by simp; omega))
    have B := Lib.hid (B4.out.keep hg (by simp; omega))
    have M := Lib.hid (M4.out.keep hg (by simp; omega))
    have HR := Lib.hid hr
    have hB5 : Below w.heap.size w w5 := hB4.trans (below_of_grown hg hB4.size (fun k hk => by injection hk with hk; omega))
    clear hr hg hs J4 K4 L4 A4 B4 M4 HR4
    by_cases hv : 0 < v
    · obtain ⟨cM, dM, _, _⟩ := M.out.two
      go_wp2_with fail
      refine (c_specWaterRatio _ _ _).mono ?_
      intro e w6 hp
      obtain ⟨rfl, hb⟩ := hp
      obtain ⟨rn, hrn⟩ : ∃ x, nO (vW mA mH) mH mA = x := ⟨_, rfl⟩
      obtain ⟨rd, hrd⟩ : ∃ x, dO (vW mA mH) mH mA = x := ⟨_, rfl⟩
      rw [hrn, hrd]
      have HX := Lib.hid (show Boxes w [(w6.heap.size, rn, rd), (w2.heap.size, aA, aH), (w3.heap.size, bA, bH)] (w6.alloc (.cells #[.int .i64 rn, .int .i64 rd] 26)) from box_new (box_cons (box_cons (box_mk (bel0 hB5 hb)) (blk_b0 B.out hb)) (blk_b0 A.out hb)))
      have J6 := Lib.hid ((blk_b0 J.out hb).alloc (.cells #[.int .i64 rn, .int .i64 rd] 26))
      have K6 := Lib.hid ((blk_b0 K.out hb).alloc (.cells #[.int .i64 rn, .int .i64 rd] 26))
      have L6 := Lib.hid ((blk_b0 L.out hb).alloc (.cells #[.int .i64 rn, .int .i64 rd] 26))
      have y6 := hb.size
      have nw2 : w.heap.size + 1 + 1 < w2.heap.size := by omega
      have nw3 : w.heap.size + 1 + 1 < w3.heap.size := by omega
      have nw6 : w.heap.size + 1 + 1 < w6.heap.size := by omega
      clear hb hrn hrd cM dM J K L A B M y2 y3 y4 y5 y6 hgl hgl3 hgl4
      have HN1 := Lib.hid (show ∀ b ∈ [(w6.heap.size, rn, rd), (w2.heap.size, aA, aH), (w3.heap.size, bA, bH)], b.1 ≠ w.heap.size by intro b hb; simp at hb; rcases hb with rfl | rfl | rfl <;> simp <;> omega)
      have HN2 := Lib.hid (show ∀ b ∈ [(w6.heap.size, rn, rd), (w2.heap.size, aA, aH), (w3.heap.size, bA, bH)], b.1 ≠ w.heap.size + 1 by intro b hb; simp at hb; rcases hb with rfl | rfl | rfl <;> simp <;> omega)
      have HN3 := Lib.hid (show ∀ b ∈ [(w6.heap.size, rn, rd), (w2.heap.size, aA, aH), (w3.heap.size, bA, bH)], b.1 ≠ w.heap.size + 1 + 1 by intro b hb; simp at hb; rcases hb with rfl | rfl | rfl <;> simp <;> omega)
      have HN3L : w.heap.size ≤ w.heap.size + 1 + 1 := by omega
      go_wp2_with fail
      refine absW (S := fun W => Boxes w [(w6.heap.size, rn, rd), (w2.heap.size, aA, aH), (w3.heap.size, bA, bH)] W ∧ Blk W w.heap.size 24 #[.int .i64 0, .int .i64 0] ∧ Blk W (w.heap.size + 1) 24 #[.int .i64 0, .int .i64 0] ∧ Blk W (w.heap.size + 1 + 1) 26 #[.int .i64 0, .int .i64 0]) ?_ ⟨HX.out, J6.out, K6.out, L6.out⟩
      clear HX J6 K6 L6
      rintro W ⟨hx, hj, hk, hl⟩
      have HX := Lib.hid hx
      obtain ⟨j0, j1, fj0, fj1⟩ := hj.two
      obtain ⟨k0, k1, fk0, fk1⟩ := hk.two
      obtain ⟨l0, l1, fl0, fl1⟩ := hl.two
      clear hx hj hk hl
      go_region_held3 (fun W => ((W.cell? ⟨w6.heap.size, 0, none⟩ = some (.int .i64 rn) ∧ W.cell? ⟨w6.heap.size, 1, none⟩ = some (.int .i64 rd)) ∧ (W.cell? ⟨w2.heap.size, 0, none⟩ = some (.int .i64 aA) ∧ W.cell? ⟨w2.heap.size, 1, none⟩ = some (.int .i64 aH)) ∧ (W.cell? ⟨w3.heap.size, 0, none⟩ = some (.int .i64 bA) ∧ W.cell? ⟨w3.heap.size, 1, none⟩ = some (.int .i64 bH)) ∧ True) ∧ Below w.heap.size w W) (((show Boxes w [(w6.heap.size, rn, rd), (w2.heap.size, aA, aH), (w3.heap.size, bA, bH)] _); (repeat (first | (with_reducible exact hS) | (with_reducible exact HX.out) | (with_reducible refine box_drew ?_) | (with_reducible refine box_alloc ?_ _) | (with_reducible refine box_put2 ?_ (Nat.le_refl _) HN1.out _ _) | (with_reducible refine box_put2 ?_ (Nat.le_succ _) HN2.out _ _) | (with_reducible refine box_put2 ?_ HN3L HN3.out _ _))))) (fail)
      all_goals
        go_wp2
        refine bodyPost_ret (v := .tuple #[.agg #[.int .i64 aA, .int .i64 aH], .agg #[.int .i64 bA, .int .i64 bH], .agg #[.int .i64 rn, .int .i64 rd]]) (by simp [results, Try.results27, go_sem, *]) rfl ⟨aA, aH, bA, bH, rn, rd, rfl, ?_⟩
        exact box_end (bs := [(w6.heap.size, rn, rd), (w2.heap.size, aA, aH), (w3.heap.size, bA, bH)]) (by assumption)
    · have hv' : decide (0 < v) = false := by simpa using hv
      have HX := Lib.hid (show Boxes w [(w2.heap.size, aA, aH), (w3.heap.size, bA, bH)] w5 from box_cons (box_cons (box_mk hB5) B.out) A.out)
      have hgl5 : g < w5.heap.size := by omega
      have HN1 := Lib.hid (show ∀ b ∈ [(w2.heap.size, aA, aH), (w3.heap.size, bA, bH)], b.1 ≠ w.heap.size by intro b hb; simp at hb; rcases hb with rfl | rfl <;> simp <;> omega)
      have HN2 := Lib.hid (show ∀ b ∈ [(w2.heap.size, aA, aH), (w3.heap.size, bA, bH)], b.1 ≠ w.heap.size + 1 by intro b hb; simp at hb; rcases hb with rfl | rfl <;> simp <;> omega)
      have HN3 := Lib.hid (show ∀ b ∈ [(w2.heap.size, aA, aH), (w3.heap.size, bA, bH)], b.1 ≠ w.heap.size + 1 + 1 by intro b hb; simp at hb; rcases hb with rfl | rfl <;> simp <;> omega)
      have HN3L : w.heap.size ≤ w.heap.size + 1 + 1 := by omega
      have HNE := Lib.hid (show ∀ b ∈ [(w2.heap.size, aA, aH), (w3.heap.size, bA, bH)], b.1 ≠ g by intro b hb; simp at hb; rcases hb with rfl | rfl <;> simp <;> omega)
      go_wp2_with fail
      go_region_held3 (fun W => ((W.cell? ⟨w2.heap.size, 0, none⟩ = some (.int .i64 aA) ∧ W.cell? ⟨w2.heap.size, 1, none⟩ = some (.int .i64 aH)) ∧ (W.cell? ⟨w3.heap.size, 0, none⟩ = some (.int .i64 bA) ∧ W.cell? ⟨w3.heap.size, 1, none⟩ = some (.int .i64 bH)) ∧ True) ∧ Below w.heap.size w W) (((show Boxes w [(w2.heap.size, aA, aH), (w3.heap.size, bA, bH)] _); (repeat (first | (with_reducible exact hS) | (with_reducible exact HX.out) | (with_reducible refine box_drew ?_) | (with_reducible refine box_alloc ?_ _) | (with_reducible refine box_put2 ?_ (Nat.le_refl _) HN1.out _ _) | (with_reducible refine box_put2 ?_ (Nat.le_succ _) HN2.out _ _) | (with_reducible refine box_put2 ?_ HN3L HN3.out _ _))))) (first | (go_at_call 34; (with_reducible refine (c_l93Ratio _ g _ _ (by omega) HR.out.drew').mono ?_); rintro e w7 ⟨rn, rd, rfl, _, _, _, _, _, hg⟩; have hS := box_grown (box_drew HX.out) hg (by omega) HNE.out; obtain ⟨j0, j1, fj0, fj1⟩ := (J.out.drew.keep hg (by simp; omega)).two; obtain ⟨k0, k1, fk0, fk1⟩ := (K.out.drew.keep hg (by simp; omega)).two; obtain ⟨l0, l1, fl0, fl1⟩ := (L.out.drew.keep hg (by simp; omega)).two; clear hg))
      all_goals
        go_wp2
        refine bodyPost_ret (v := .tuple #[.agg #[.int .i64 aA, .int .i64 aH], .agg #[.int .i64 bA, .int .i64 bH], .agg #[.int .i64 rn, .int .i64 rd]]) (by simp [results, Try.results27, go_sem, *]) rfl ⟨aA, aH, bA, bH, rn, rd, rfl, ?_⟩
        exact box_end (bs := [(w2.heap.size, aA, aH), (w3.heap.size, bA, bH)]) (by assumption)
  · have J := J4
    have K := K4
    have L := L4
    have HR := HR4
    have HX := Lib.hid (show Boxes w [(w2.heap.size, aA, aH), (w3.heap.size, bA, bH)] _ from box_cons (box_cons (box_mk hB4) B4.out) A4.out)
    have HN1 := Lib.hid (show ∀ b ∈ [(w2.heap.size, aA, aH), (w3.heap.size, bA, bH)], b.1 ≠ w.heap.size by intro b hb; simp at hb; rcases hb with rfl | rfl <;> simp <;> omega)
    have HN2 := Lib.hid (show ∀ b ∈ [(w2.heap.size, aA, aH), (w3.heap.size, bA, bH)], b.1 ≠ w.heap.size + 1 by intro b hb; simp at hb; rcases hb with rfl | rfl <;> simp <;> omega)
    have HN3 := Lib.hid (show ∀ b ∈ [(w2.heap.size, aA, aH), (w3.heap.size, bA, bH)], b.1 ≠ w.heap.size + 1 + 1 by intro b hb; simp at hb; rcases hb with rfl | rfl <;> simp <;> omega)
    have HN3L : w.heap.size ≤ w.heap.size + 1 + 1 := by omega
    have HNE := Lib.hid (show ∀ b ∈ [(w2.heap.size, aA, aH), (w3.heap.size, bA, bH)], b.1 ≠ g by intro b hb; simp at hb; rcases hb with rfl | rfl <;> simp <;> omega)
    go_wp2_with fail
    go_region_held3 (fun W => ((W.cell? ⟨w2.heap.size, 0, none⟩ = some (.int .i64 aA) ∧ W.cell? ⟨w2.heap.size, 1, none⟩ = some (.int .i64 aH)) ∧ (W.cell? ⟨w3.heap.size, 0, none⟩ = some (.int .i64 bA) ∧ W.cell? ⟨w3.heap.size, 1, none⟩ = some (.int .i64 bH)) ∧ True) ∧ Below w.heap.size w W) (((show Boxes w [(w2.heap.size, aA, aH), (w3.heap.size, bA, bH)] _); (repeat (first | (with_reducible exact hS) | (with_reducible exact HX.out) | (with_reducible refine box_drew ?_) | (with_reducible refine box_alloc ?_ _) | (with_reducible refine box_put2 ?_ (Nat.le_refl _) HN1.out _ _) | (with_reducible refine box_put2 ?_ (Nat.le_succ _) HN2.out _ _) | (with_reducible refine box_put2 ?_ HN3L HN3.out _ _))))) (first | (go_at_call 34; (with_reducible refine (c_l93Ratio _ g _ _ (by omega) HR.out.drew').mono ?_); rintro e w7 ⟨rn, rd, rfl, _, _, _, _, _, hg⟩; have hS := box_grown (box_drew HX.out) hg (by omega) HNE.out; obtain ⟨j0, j1, fj0, fj1⟩ := (J.out.drew.keep hg (by simp; omega)).two; obtain ⟨k0, k1, fk0, fk1⟩ := (K.out.drew.keep hg (by simp; omega)).two; obtain ⟨l0, l1, fl0, fl1⟩ := (L.out.drew.keep hg (by simp; omega)).two; clear hg))
    all_goals
      go_wp2
      refine bodyPost_ret (v := .tuple #[.agg #[.int .i64 aA, .int .i64 aH], .agg #[.int .i64 bA, .int .i64 bH], .agg #[.int .i64 rn, .int .i64 rd]]) (by simp [results, Try.results27, go_sem, *]) rfl ⟨aA, aH, bA, bH, rn, rd, rfl, ?_⟩
      exact box_end (bs := [(w2.heap.size, aA, aH), (w3.heap.size, bA, bH)]) (by assumption)
end Go.Proofs.Ytbbipieadjggkaa
