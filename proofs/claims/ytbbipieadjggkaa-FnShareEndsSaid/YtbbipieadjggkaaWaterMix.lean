/-
  Contracts of WaterMix for two waters: of the program, and, loosely, of the reference.
-/
import Derived.Test.YtbbipieadjggkaaWaterA
import Derived.Test.YtbbipieadjggkaaBlkMore
import Derived.Test.YtbbipieadjggkaaIn
import Derived.StillTailTactics
namespace Go.Proofs.Ytbbipieadjggkaa
open Go.RowKit

theorem c_l6In_yes {n lo hi : Int} (h : inB n lo hi = true) (w : World) :
    Calls Try.prog 42 #[.int .i64 n, .int .i64 lo, .int .i64 hi] w fun e w' => e = .returned (.bool true) ∧ w = w' :=
  (c_l6In n lo hi w).mono fun _ _ ⟨he, hw⟩ => ⟨by rw [he, h], hw⟩
def mixA (l : List (Int × Int)) : Nat → Int
  | 0 => 0
  | k + 1 => mixA l k + px l k
def mixH (l : List (Int × Int)) : Nat → Int
  | 0 => 0
  | k + 1 => mixH l k + py l k
theorem mix_bd {l : List (Int × Int)} {k : Nat} (h : ∀ i, i < k → vW (px l i) (py l i) = true) : 0 ≤ mixA l k ∧ mixA l k ≤ 1000 * (k : Int) ∧ 0 ≤ mixH l k ∧ mixH l k ≤ 1000 * (k : Int) := by
  induction k with
  | zero => simp [mixA, mixH]
  | succ k ih =>
    have h1 := ih fun i hi => h i (by omega)
    have h2 := vW_yes (h k (by omega))
    rw [mixA, mixH]
    push_cast
    omega
/-- what the loops keep: the sum so far in block g, the result's box -/
def MixRel (l : List (Int × Int)) (w : World) (i : Value) (wr : World) : Prop :=
  ∃ k : Nat, k ≤ 2 ∧ i = .int .i64 k ∧ (∀ i, i < k → vW (px l i) (py l i) = true) ∧ Blk wr (w.heap.size + 1) 24 #[.int .i64 (mixA l k), .int .i64 (mixH l k)] ∧ Blk wr w.heap.size 24 #[.int .i64 0, .int .i64 0] ∧ Below w.heap.size w wr
theorem mix_round {l : List (Int × Int)} {w W : World} {k : Nat} {a h : Int} {i : Value} (hk : k < 2) (hv : ∀ i, i < k → vW (px l i) (py l i) = true) (hv' : vW (px l k) (py l k) = true) (hi : i = .int .i64 ((k + 1 : Nat) : Int))
    (hO : Blk W (w.heap.size + 1) 24 #[.int .i64 (mixA l k), .int .i64 (mixH l k)]) (hR : Blk W w.heap.size 24 #[.int .i64 0, .int .i64 0]) (hB : Below w.heap.size w W) (ha : a = mixA l k + px l k) (hh : h = mixH l k + py l k) :
    MixRel l w i ((W.setCell ⟨w.heap.size + 1, 0, none⟩ (.int .i64 a)).setCell ⟨w.heap.size + 1, 1, none⟩ (.int .i64 h)) := by
  subst ha hh
  refine ⟨k + 1, by omega, hi, fun j hj => ?_, blk_set2 hO _ _, blk_off2 hR (by omega) _ _, bel_set2 hB (by omega) _ _⟩
  by_cases e : j = k
  · rw [e]; exact hv'
  · exact hv j (by omega)
def MixPost (a h : Int) (w : World) (e : Ending) (w' : World) : Prop :=
  e = .returned (.tuple #[.agg #[.int .i64 (if vW a h then a else 0), .int .i64 (if vW a h then h else 0)], .bool (vW a h)]) ∧ Below w.heap.size w w'
theorem mix_yes {a h a' h' : Int} {w W : World} (hm : vW a h = true) (ha : a' = a) (hh : h' = h) (hB : Below w.heap.size w W) : MixPost a h w (.returned (.tuple #[.agg #[.int .i64 a', .int .i64 h'], .bool true])) W := by
  subst ha hh
  exact ⟨by simp [hm], hB⟩
theorem mix_no {a h : Int} {w W : World} (hm : vW a h = false) (hB : Below w.heap.size w W) : MixPost a h w (.returned (.tuple #[.agg #[.int .i64 0, .int .i64 0], .bool false])) W := ⟨by simp [hm], hB⟩
def MixAny (w : World) (e : Ending) (w' : World) : Prop :=
  ∃ a h : Int, ∃ b : Bool, e = .returned (.tuple #[.agg #[.int .i64 a, .int .i64 h], .bool b]) ∧ Below w.heap.size w w'
theorem mix_any {w W : World} {a h : Int} {b : Bool} (hB : Below w.heap.size w W) : MixAny w (.returned (.tuple #[.agg #[.int .i64 a, .int .i64 h], .bool b])) W := ⟨a, h, b, rfl, hB⟩

set_option maxHeartbeats 4000000 in
theorem c_implWaterMix (A : Option Addr) (c : Nat) (l : List (Int × Int)) (w : World) (h : RdP w A 2 l) (hv0 : vW (px l 0) (py l 0) = true) (hv1 : vW (px l 1) (py l 1) = true) :
    Calls Try.prog 30 #[.slice A 2 c] w (MixPost (px l 0 + px l 1) (py l 0 + py l 1) w) := by
  have HA := Lib.hid h.at_
  have HV0 := Lib.hid hv0
  have HV1 := Lib.hid hv1
  have HMA := Lib.hid (show mixA l 2 = px l 0 + px l 1 by simp [mixA])
  have HMH := Lib.hid (show mixH l 2 = py l 0 + py l 1 by simp [mixH])
  clear h hv0 hv1
  go_enter Try.func30, Try.ntmps30
  go_wp2_with fail
  go_loopw [18] (fun i wr => MixRel l w i wr) (fun i _ => 2 - (intOf i).toNat)
  case atStart => exact ⟨0, Nat.zero_le _, rfl, fun i hi => absurd hi (by omega), blk_new1 w _ _ _, (blk_new w _ _).alloc _, ((Below.refl _ _).alloc (Nat.le_refl _) _).alloc (by simp) _⟩
  case round =>
    obtain ⟨k, hk, rfl, hv, hO, hR, hB⟩ := hrel
    have HV := Lib.hid hv
    have O3 := Lib.hid hO
    have R3 := Lib.hid hR
    obtain ⟨ma0, ma1, mh0, mh1⟩ := mix_bd hv
    have hsz := hB.size
    obtain ⟨cO3, dO3, fO3, hO3⟩ := O3.out.two
    obtain ⟨cR3, dR3, fR3, hR3⟩ := R3.out.two
    have yO3 := O3.out.lt
    have yR3 := R3.out.lt
    have hB3 := hB
    clear hv hO hR hB
    by_cases hlt : k < 2
    · obtain ⟨b, off, rfl, hb0, hc⟩ := HA.out (by omega)
      obtain ⟨hc0, hc1⟩ := hc k hlt
      rw [← hB3.cell (p := ⟨b, off + k * 2, none⟩) hb0] at hc0
      rw [← hB3.cell (p := ⟨b, off + k * 2 + 1, none⟩) hb0] at hc1
      have hk0 : (0 : Int) ≤ (k : Int) := by omega
      have hk1 : (k : Int) < 2 := by omega
      clear hc
      have HVK := Lib.hid (show vW (px l k) (py l k) = true by
        rcases (show k = 0 ∨ k = 1 by omega) with rfl | rfl
        · exact HV0.out
        · exact HV1.out)
      obtain ⟨p0, p1, p2, p3⟩ := vW_yes HVK.out
      go_wp2_with fail
      refine (c_implWaterValid _ _ _).mono ?_
      rintro e w4 ⟨he, hb⟩
      rw [HVK.out] at he
      subst he
      have O4 := Lib.hid (blk_b1 O3.out hb)
      have R4 := Lib.hid (blk_b1 R3.out hb)
      have hB4 := bel1 hB3 hb
      obtain ⟨cO4, dO4, fO4, hO4⟩ := O4.out.two
      obtain ⟨cR4, dR4, fR4, hR4⟩ := R4.out.two
      have yO4 := O4.out.lt
      have yR4 := R4.out.lt
      have T4 := Lib.hid (blk_n1 hb)
      obtain ⟨cT4, dT4, _, _⟩ := T4.out.two
      have yT4 := T4.out.lt
      have nT4 : wr.heap.size ≠ w.heap.size + 1 := by omega
      clear hb
      clear cO3 dO3 fO3 hO3 cR3 dR3 fR3 hR3
      go_wp2
      go_roundw
      case rel => exact mix_round hlt HV.out HVK.out (by go_num) O4.out R4.out hB4 rfl rfl
      case measure => simp [intOf]; omega
    · obtain rfl : k = 2 := by omega
      rcases Bool.eq_false_or_eq_true (vW (px l 0 + px l 1) (py l 0 + py l 1)) with hm | hm
      · have HVK := Lib.hid (show vW (mixA l 2) (mixH l 2) = true by rw [HMA.out, HMH.out]; exact hm)
        have HM := Lib.hid hm
        clear hm
        go_wp2_with fail
        refine (c_implWaterValid _ _ _).mono ?_
        rintro e w4 ⟨he, hb⟩
        rw [HVK.out] at he
        subst he
        have O4 := Lib.hid (blk_b0 O3.out hb)
        have R4 := Lib.hid (blk_b0 R3.out hb)
        have hB4 := bel0 hB3 hb
        obtain ⟨cO4, dO4, fO4, hO4⟩ := O4.out.two
        obtain ⟨cR4, dR4, fR4, hR4⟩ := R4.out.two
        have yO4 := O4.out.lt
        have yR4 := R4.out.lt
        clear hb
        clear cO3 dO3 fO3 hO3 cR3 dR3 fR3 hR3
        go_wp2
        refine bodyPost_ret (v := .tuple #[.agg #[.int .i64 (mixA l 2), .int .i64 (mixH l 2)], .bool true]) (by simp [results, Try.results30, go_sem, *]) rfl (mix_yes HM.out HMA.out HMH.out ?_)
        go_grown
      · have HVK := Lib.hid (show vW (mixA l 2) (mixH l 2) = false by rw [HMA.out, HMH.out]; exact hm)
        have HM := Lib.hid hm
        clear hm
        go_wp2_with fail
        refine (c_implWaterValid _ _ _).mono ?_
        rintro e w4 ⟨he, hb⟩
        rw [HVK.out] at he
        subst he
        have O4 := Lib.hid (blk_b0 O3.out hb)
        have R4 := Lib.hid (blk_b0 R3.out hb)
        have hB4 := bel0 hB3 hb
        obtain ⟨cO4, dO4, fO4, hO4⟩ := O4.out.two
        obtain ⟨cR4, dR4, fR4, hR4⟩ := R4.out.two
        have yO4 := O4.out.lt
        have yR4 := R4.out.lt
        clear hb
        clear cO3 dO3 fO3 hO3 cR3 dR3 fR3 hR3
        go_wp2
        refine bodyPost_ret (v := .tuple #[.agg #[.int .i64 (0), .int .i64 (0)], .bool false]) (by simp [results, Try.results30, go_sem, *]) rfl (mix_no HM.out ?_)
        go_grown

set_option maxHeartbeats 4000000 in
theorem c_specWaterMix (A : Option Addr) (c : Nat) (l : List (Int × Int)) (w : World) (h : RdP w A 2 l) :
    Calls Try.prog 44 #[.slice A 2 c] w (MixAny w) := by
  have HA := Lib.hid h.at_
  clear h
  go_enter Try.func44, Try.ntmps44
  go_wp2_with fail
  refine (c_l6In_yes (by decide) _).mono ?_
  rintro e w' ⟨rfl, rfl⟩
  go_wp2_with fail
  go_loopw [5] (fun i wr => MixRel l w i wr) (fun i _ => 2 - (intOf i).toNat)
  case atStart => exact ⟨0, Nat.zero_le _, rfl, fun i hi => absurd hi (by omega), blk_new1 w _ _ _, (blk_new w _ _).alloc _, ((Below.refl _ _).alloc (Nat.le_refl _) _).alloc (by simp) _⟩
  case round =>
    obtain ⟨k, hk, rfl, hv, hO, hR, hB⟩ := hrel
    have HV := Lib.hid hv
    have O3 := Lib.hid hO
    have R3 := Lib.hid hR
    obtain ⟨ma0, ma1, mh0, mh1⟩ := mix_bd hv
    have hsz := hB.size
    obtain ⟨cO3, dO3, fO3, hO3⟩ := O3.out.two
    obtain ⟨cR3, dR3, fR3, hR3⟩ := R3.out.two
    have yO3 := O3.out.lt
    have yR3 := R3.out.lt
    have hB3 := hB
    clear hv hO hR hB
    by_cases hlt : k < 2
    · obtain ⟨b, off, rfl, hb0, hc⟩ := HA.out (by omega)
      obtain ⟨hc0, hc1⟩ := hc k hlt
      rw [← hB3.cell (p := ⟨b, off + k * 2, none⟩) hb0] at hc0
      rw [← hB3.cell (p := ⟨b, off + k * 2 + 1, none⟩) hb0] at hc1
      have hk0 : (0 : Int) ≤ (k : Int) := by omega
      have hk1 : (k : Int) < 2 := by omega
      clear hc
      rcases Bool.eq_false_or_eq_true (vW (px l k) (py l k)) with hvk | hvk
      · have HVK := Lib.hid hvk
        obtain ⟨p0, p1, p2, p3⟩ := vW_yes hvk
        clear hvk
        go_wp2_with fail
        refine (c_specWaterValid _ _ _).mono ?_
        rintro e w4 ⟨he, hb⟩
        rw [HVK.out] at he
        subst he
        have O4 := Lib.hid (blk_b0 O3.out hb)
        have R4 := Lib.hid (blk_b0 R3.out hb)
        have hB4 := bel0 hB3 hb
        obtain ⟨cO4, dO4, fO4, hO4⟩ := O4.out.two
        obtain ⟨cR4, dR4, fR4, hR4⟩ := R4.out.two
        have yO4 := O4.out.lt
        have yR4 := R4.out.lt
        have hbl : b < wr.heap.size := by omega
        rw [← hb.cell (p := ⟨b, off + k * 2, none⟩) hbl] at hc0
        rw [← hb.cell (p := ⟨b, off + k * 2 + 1, none⟩) hbl] at hc1
        clear hb
        clear cO3 dO3 fO3 hO3 cR3 dR3 fR3 hR3
        go_wp2_with fail
        go_still_tail 17, (by kernel_rfl)
        have O5 := Lib.hid (show Blk w4.drew _ _ _ from O4.out.drew)
        have R5 := Lib.hid (show Blk w4.drew _ _ _ from R4.out.drew)
        have hB5 := hB4.drew
        go_wp2
        go_roundw
        case rel => exact mix_round hlt HV.out HVK.out (by go_num) O5.out R5.out hB5 rfl rfl
        case measure => simp [intOf]; omega
      · have HVK := Lib.hid hvk
        clear hvk
        go_wp2_with fail
        refine (c_specWaterValid _ _ _).mono ?_
        rintro e w4 ⟨he, hb⟩
        rw [HVK.out] at he
        subst he
        have O4 := Lib.hid (blk_b0 O3.out hb)
        have R4 := Lib.hid (blk_b0 R3.out hb)
        have hB4 := bel0 hB3 hb
        obtain ⟨cO4, dO4, fO4, hO4⟩ := O4.out.two
        obtain ⟨cR4, dR4, fR4, hR4⟩ := R4.out.two
        have yO4 := O4.out.lt
        have yR4 := R4.out.lt
        clear hb
        clear cO3 dO3 fO3 hO3 cR3 dR3 fR3 hR3
        go_wp2
        refine bodyPost_ret (v := .tuple #[.agg #[.int .i64 (0), .int .i64 (0)], .bool false]) (by simp [results, Try.results44, go_sem, *]) rfl (mix_any ?_)
        go_grown
    · obtain rfl : k = 2 := by omega
      rcases Bool.eq_false_or_eq_true (vW (mixA l 2) (mixH l 2)) with hm | hm
      · have HVK := Lib.hid hm
        clear hm
        go_wp2_with fail
        refine (c_specWaterValid _ _ _).mono ?_
        rintro e w4 ⟨he, hb⟩
        rw [HVK.out] at he
        subst he
        have O4 := Lib.hid (blk_b0 O3.out hb)
        have R4 := Lib.hid (blk_b0 R3.out hb)
        have hB4 := bel0 hB3 hb
        obtain ⟨cO4, dO4, fO4, hO4⟩ := O4.out.two
        obtain ⟨cR4, dR4, fR4, hR4⟩ := R4.out.two
        have yO4 := O4.out.lt
        have yR4 := R4.out.lt
        clear hb
        clear cO3 dO3 fO3 hO3 cR3 dR3 fR3 hR3
        go_wp2
        refine bodyPost_ret (v := .tuple #[.agg #[.int .i64 (mixA l 2), .int .i64 (mixH l 2)], .bool true]) (by simp [results, Try.results44, go_sem, *]) rfl (mix_any ?_)
        go_grown
      · have HVK := Lib.hid hm
        clear hm
        go_wp2_with fail
        refine (c_specWaterValid _ _ _).mono ?_
        rintro e w4 ⟨he, hb⟩
        rw [HVK.out] at he
        subst he
        have O4 := Lib.hid (blk_b0 O3.out hb)
        have R4 := Lib.hid (blk_b0 R3.out hb)
        have hB4 := bel0 hB3 hb
        obtain ⟨cO4, dO4, fO4, hO4⟩ := O4.out.two
        obtain ⟨cR4, dR4, fR4, hR4⟩ := R4.out.two
        have yO4 := O4.out.lt
        have yR4 := R4.out.lt
        clear hb
        clear cO3 dO3 fO3 hO3 cR3 dR3 fR3 hR3
        go_wp2
        refine bodyPost_ret (v := .tuple #[.agg #[.int .i64 (0), .int .i64 (0)], .bool false]) (by simp [results, Try.results44, go_sem, *]) rfl (mix_any ?_)
        go_grown
end Go.Proofs.Ytbbipieadjggkaa
