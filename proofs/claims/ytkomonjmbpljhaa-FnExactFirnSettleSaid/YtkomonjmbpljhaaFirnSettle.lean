/-
  Contracts of FirnSettle, of the program and of the reference.
-/
import Derived.Test.YtkomonjmbpljhaaFirnWalks
import Derived.Test.YtkomonjmbpljhaaFirnSums
import Derived.Test.YtkomonjmbpljhaaFirnDraw
import Derived.Test.YtkomonjmbpljhaaFirnMath3
import Derived.Test.YtkomonjmbpljhaaOwn
namespace Go.Proofs.Ytkomonjmbpljhaa
open Go.RowKit

theorem cell_two_at {W : World} {n : Nat} {t : TypeId} {a b : Value} (h : W.heap.size = n) : ∀ j u, [a, b][j]? = some u → (W.alloc (.cells #[a, b] t)).cell? ((⟨n, 0, none⟩ : Addr).add j) = some u := by
  subst h
  exact cell_two_new _ _ _ _
theorem _root_.Go.RowKit.Below.of_base {B : Nat} {w W w5 : World} (h5 : Below B W w5) (h : Below B w W) : Below B w w5 := h.trans h5
def SettlePost (l : List (Int × Int)) (d : Int) (w : World) (e : Ending) (w' : World) : Prop :=
  ∃ A n c, e = .returned (.tuple #[.slice A n c, .bool (okS l d)]) ∧ n ≤ 20 ∧ OwnP w' w.heap.size 30 (.slice A n c) n (stlV l d) ∧ Below w.heap.size w w'
def SettleRel (n : Nat) (l : List (Int × Int)) (d : Int) (w : World) (o i : Value) (wr : World) : Prop :=
  ∃ k : Nat, k ≤ n ∧ i = .int .i64 k ∧ OwnP wr w.heap.size 30 o k ((stlL l d).take k) ∧ Below w.heap.size w wr
theorem stl_take {l : List (Int × Int)} {d : Int} {k : Nat} (hk : k < l.length) : (stlL l d).take (k + 1) = (stlL l d).take k ++ [((stl d (px l k, py l k)).1, (stl d (px l k, py l k)).2)] := by
  rw [List.take_succ_eq_append_getElem (by rw [stlL_len]; exact hk)]
  congr 1
  simp [stlL, px_eq hk, py_eq hk]
theorem settle_step {w wr w5 : World} {n k : Nat} {l : List (Int × Int)} {d x y : Int} {v : Value} (hk : k < l.length) (hn : l.length = n) (hx : stl d (px l k, py l k) = (x, y)) (hO : OwnP w5 w.heap.size 30 v (k + 1) ((stlL l d).take k ++ [(x, y)])) (hB : Below w.heap.size w wr) (hB5 : Below w.heap.size wr w5) : SettleRel n l d w v (.int .i64 ((k + 1 : Nat) : Int)) w5 :=
  ⟨k + 1, by omega, rfl, by rw [stl_take hk, hx]; exact hO, hB.trans hB5⟩
theorem settle_end {w wr : World} {n : Nat} {l : List (Int × Int)} {d : Int} {A : Option Addr} {c : Nat} (hv : okS l d = true) (hn : l.length = n) (h20 : n ≤ 20) (hO : OwnP wr w.heap.size 30 (.slice A n c) n ((stlL l d).take n)) (hB : Below w.heap.size w wr) : SettlePost l d w (.returned (.tuple #[.slice A n c, .bool true])) wr := by
  refine ⟨A, n, c, by rw [hv], h20, ?_, hB⟩
  have : (stlL l d).take n = stlV l d := by rw [stlV, if_pos hv, List.take_of_length_le (by rw [stlL_len]; omega)]
  rwa [this] at hO
theorem settle_no {w W : World} {l : List (Int × Int)} {d : Int} {A : Option Addr} {c : Nat} (hv : okS l d = false) (hO : OwnP W w.heap.size 30 (.slice A 0 c) 0 []) (hB : Below w.heap.size w W) : SettlePost l d w (.returned (.tuple #[.slice A 0 c, .bool false])) W :=
  ⟨A, 0, c, by rw [hv], by omega, by rw [stlV, hv]; exact hO, hB⟩

set_option maxHeartbeats 2000000 in
theorem c_specFirnSettle (A : Option Addr) (n c : Nat) (l : List (Int × Int)) (d : Int) (w : World) (hn : n ≤ 2000000) (h : RdP w A n l) :
    Calls Try.prog 17 #[.slice A n c, .int .i64 d] w (SettlePost l d w) := by
  have HR := Lib.hid h
  have HL := Lib.hid h.len
  have HA := Lib.hid h.at_
  clear h
  obtain ⟨i0, hi, hz0, hz1, hz2⟩ := info_parts info_slab'
  have HI := Lib.hid hi
  have HZ0 := Lib.hid hz0
  have HZ1 := Lib.hid hz1
  have HZ2 := Lib.hid hz2
  clear hi hz0 hz1 hz2
  rcases Bool.eq_false_or_eq_true (vFirn l) with hv | hv
  · rcases Bool.eq_false_or_eq_true (inB d 1 917) with hd | hd
    · have HK := Lib.hid (show okS l d = true by simp [okS, hv, hd])
      have HV := Lib.hid (vFirn_ok hv)
      obtain ⟨hd0, hd1⟩ := inB_true hd
      have h20 : n ≤ 20 := by have := HV.out.2; have := HL.out; omega
      go_enter Try.func17, Try.ntmps17
      go_wp2_with fail
      refine (c_specFirnValid _ _ _ l _ hn (HR.out.below ((Below.refl _ _).alloc (Nat.le_refl _) _))).mono ?_
      rintro e w1 ⟨rfl, rfl⟩
      go_wp2_with fail
      refine (c_l6In _ _ _ _).mono ?_
      rintro e w' ⟨rfl, rfl⟩
      go_wp2_with fail
      go_loopw [6, 7] (fun o i wr => SettleRel n l d w o i wr) (fun _ i _ => n - (intOf i).toNat)
      case atStart => exact ⟨0, Nat.zero_le _, rfl, OwnP.empty w _ (Nat.le_refl _), (Below.refl _ _).alloc (Nat.le_refl _) _⟩
      case round =>
        obtain ⟨k, hk, rfl, hO, hB⟩ := hrel
        have HO := Lib.hid hO
        have HB := Lib.hid hB
        have hsz := hB.size
        by_cases hlt : k < n
        · obtain ⟨b, off, rfl, hb, hc⟩ := HA.out (by omega)
          obtain ⟨hc0, hc1⟩ := hc k hlt
          rw [← hB.cell (p := ⟨b, off + k * 2, none⟩) hb] at hc0
          rw [← hB.cell (p := ⟨b, off + k * 2 + 1, none⟩) hb] at hc1
          clear hc hO hB
          have hlk : k < l.length := by have := HL.out; omega
          obtain ⟨p0, p1, p2, p3⟩ := vOk_at HV.out.1 hlk
          obtain ⟨m0, m1, m2⟩ := prod_at HV.out.1 hlk
          by_cases hdy : py l k < d
          · obtain ⟨q0, _, _, q3⟩ := div_bd (px l k * py l k) d (by omega) hd0
            have HX := Lib.hid (show stl d (px l k, py l k) = (max 1 (px l k * py l k / d), d) by simp [stl, hdy])
            by_cases hq : 1 < px l k * py l k / d
            · have HY := Lib.hid (show stl d (px l k, py l k) = (px l k * py l k / d, d) by rw [HX.out, show max 1 (px l k * py l k / d) = px l k * py l k / d by omega])
              go_wp2_with (at_builtin; refine wpList_appendP (by rfl) _ _ 23 rfl w.heap.size 30 i0 (.agg #[.int .i64 0, .int .i64 0]) Try.underlying23 HI.out HZ0.out HZ1.out HZ2.out rfl _ _ _ rfl (HO.out.below (by go_grown)) ⟨wr.heap.size + 1, 0, none⟩ (px l k * py l k / d) (d) rfl (cell_two_at (by simp)) (by omega) (by simp; omega) ?_; intro v' w5 hO5 hB5)
              have HBg := Lib.hid (hB5.of_base (show Below w.heap.size wr _ from by go_grown))
              go_roundw
              case rel => exact settle_step hlk HL.out HY.out hO5 HB.out HBg.out
              case measure => simp [intOf]; omega
            · have HY := Lib.hid (show stl d (px l k, py l k) = (1, d) by rw [HX.out, show max 1 (px l k * py l k / d) = 1 by omega])
              go_wp2_with (at_builtin; refine wpList_appendP (by rfl) _ _ 23 rfl w.heap.size 30 i0 (.agg #[.int .i64 0, .int .i64 0]) Try.underlying23 HI.out HZ0.out HZ1.out HZ2.out rfl _ _ _ rfl (HO.out.below (by go_grown)) ⟨wr.heap.size + 1, 0, none⟩ (1) (d) rfl (cell_two_at (by simp)) (by omega) (by simp; omega) ?_; intro v' w5 hO5 hB5)
              have HBg := Lib.hid (hB5.of_base (show Below w.heap.size wr _ from by go_grown))
              go_roundw
              case rel => exact settle_step hlk HL.out HY.out hO5 HB.out HBg.out
              case measure => simp [intOf]; omega
          · have HY := Lib.hid (stl_same d (px l k, py l k) (show d ≤ py l k by omega))
            go_wp2_with (at_builtin; refine wpList_appendP (by rfl) _ _ 23 rfl w.heap.size 30 i0 (.agg #[.int .i64 0, .int .i64 0]) Try.underlying23 HI.out HZ0.out HZ1.out HZ2.out rfl _ _ _ rfl (HO.out.below (by go_grown)) ⟨wr.heap.size + 1, 0, none⟩ (px l k) (py l k) rfl (cell_two_at (by simp)) (by omega) (by simp; omega) ?_; intro v' w5 hO5 hB5)
            have HBg := Lib.hid (hB5.of_base (show Below w.heap.size wr _ from by go_grown))
            go_roundw
            case rel => exact settle_step hlk HL.out HY.out hO5 HB.out HBg.out
            case measure => simp [intOf]; omega
        · obtain rfl : k = n := by omega
          clear hO hB
          obtain ⟨A4, c4, rfl, _⟩ := HO.out.form
          go_wp2
          go_ret2
          exact settle_end HK.out HL.out h20 HO.out HB.out
    · have HK := Lib.hid (show okS l d = false by simp [okS, hd])
      go_enter Try.func17, Try.ntmps17
      go_wp2_with fail
      refine (c_specFirnValid _ _ _ l _ hn (HR.out.below ((Below.refl _ _).alloc (Nat.le_refl _) _))).mono ?_
      rintro e w1 ⟨rfl, rfl⟩
      go_wp2_with fail
      refine (c_l6In _ _ _ _).mono ?_
      rintro e w' ⟨rfl, rfl⟩
      go_wp2
      go_ret2
      exact settle_no HK.out (OwnP.empty w _ (Nat.le_refl _)) ((Below.refl _ _).alloc (Nat.le_refl _) _)
  · have HK := Lib.hid (show okS l d = false by simp [okS, hv])
    go_enter Try.func17, Try.ntmps17
    go_wp2_with fail
    refine (c_specFirnValid _ _ _ l _ hn (HR.out.below ((Below.refl _ _).alloc (Nat.le_refl _) _))).mono ?_
    rintro e w1 ⟨rfl, rfl⟩
    go_wp2
    go_ret2
    exact settle_no HK.out (OwnP.empty w _ (Nat.le_refl _)) ((Below.refl _ _).alloc (Nat.le_refl _) _)

set_option maxHeartbeats 2000000 in
theorem c_implFirnSettle (A : Option Addr) (n c : Nat) (l : List (Int × Int)) (d : Int) (w : World) (hn : n ≤ 2000000) (h : RdP w A n l) :
    Calls Try.prog 16 #[.slice A n c, .int .i64 d] w (SettlePost l d w) := by
  have HR := Lib.hid h
  have HL := Lib.hid h.len
  have HA := Lib.hid h.at_
  clear h
  obtain ⟨i0, hi, hz0, hz1, hz2⟩ := info_parts info_slab'
  have HI := Lib.hid hi
  have HZ0 := Lib.hid hz0
  have HZ1 := Lib.hid hz1
  have HZ2 := Lib.hid hz2
  clear hi hz0 hz1 hz2
  rcases Bool.eq_false_or_eq_true (vFirn l) with hv | hv
  · rcases Bool.eq_false_or_eq_true (inB d 1 917) with hd | hd
    · have HK := Lib.hid (show okS l d = true by simp [okS, hv, hd])
      have HV := Lib.hid (vFirn_ok hv)
      obtain ⟨hd0, hd1⟩ := inB_true hd
      have h20 : n ≤ 20 := by have := HV.out.2; have := HL.out; omega
      have hdd1 : decide (d < 1) = false := by simp; omega
      have hdd2 : decide (917 < d) = false := by simp; omega
      go_enter Try.func16, Try.ntmps16
      go_wp2_with fail
      refine (c_implFirnValid _ _ _ l _ hn HR.out).mono ?_
      rintro e w1 ⟨rfl, hb1⟩
      go_wp2_with fail
      go_loopw [6, 23] (fun o i wr => SettleRel n l d w o i wr) (fun _ i _ => n - (intOf i).toNat)
      case atStart => exact ⟨0, Nat.zero_le _, rfl, OwnP.nil _ _ _, hb1⟩
      case round =>
        obtain ⟨k, hk, rfl, hO, hB⟩ := hrel
        have HO := Lib.hid hO
        have HB := Lib.hid hB
        have hsz := hB.size
        by_cases hlt : k < n
        · obtain ⟨b, off, rfl, hb, hc⟩ := HA.out (by omega)
          obtain ⟨hc0, hc1⟩ := hc k hlt
          rw [← hB.cell (p := ⟨b, off + k * 2, none⟩) hb] at hc0
          rw [← hB.cell (p := ⟨b, off + k * 2 + 1, none⟩) hb] at hc1
          clear hc hO hB
          have hlk : k < l.length := by have := HL.out; omega
          obtain ⟨p0, p1, p2, p3⟩ := vOk_at HV.out.1 hlk
          obtain ⟨m0, m1, m2⟩ := prod_at HV.out.1 hlk
          by_cases hdy : py l k < d
          · obtain ⟨q0, _, _, q3⟩ := div_bd (px l k * py l k) d (by omega) hd0
            have HX := Lib.hid (show stl d (px l k, py l k) = (max 1 (px l k * py l k / d), d) by simp [stl, hdy])
            by_cases hq : 1 < px l k * py l k / d
            · have HY := Lib.hid (show stl d (px l k, py l k) = (px l k * py l k / d, d) by rw [HX.out, show max 1 (px l k * py l k / d) = px l k * py l k / d by omega])
              go_wp2_with fail
              refine (c_mass _ _ _ (by omega) (by omega)).mono ?_
              rintro e w4 ⟨rfl, hb4⟩
              have hW : Below wr.heap.size wr w4 := ((Below.refl _ _).alloc (Nat.le_refl _) _).trans (hb4.mono (by simp))
              have hsz4 := hW.size
              have HO4 := Lib.hid (HO.out.below hW)
              clear hb4
              go_wp2_with (at_builtin; refine wpList_appendP (by rfl) _ _ 23 rfl w.heap.size 30 i0 (.agg #[.int .i64 0, .int .i64 0]) Try.underlying23 HI.out HZ0.out HZ1.out HZ2.out rfl _ _ _ rfl (HO4.out.alloc _) ⟨w4.heap.size, 0, none⟩ (px l k * py l k / d) (d) rfl (cell_two_new _ _ _ _) (by omega) (by simp; omega) ?_; intro v' w5 hO5 hB5)
              have HBg := Lib.hid (((hW.mono hsz).alloc (by omega) _).trans hB5)
              go_roundw
              case rel => exact settle_step hlk HL.out HY.out hO5 HB.out HBg.out
              case measure => simp [intOf]; omega
            · have HY := Lib.hid (show stl d (px l k, py l k) = (1, d) by rw [HX.out, show max 1 (px l k * py l k / d) = 1 by omega])
              go_wp2_with fail
              refine (c_mass _ _ _ (by omega) (by omega)).mono ?_
              rintro e w4 ⟨rfl, hb4⟩
              have hW : Below wr.heap.size wr w4 := ((Below.refl _ _).alloc (Nat.le_refl _) _).trans (hb4.mono (by simp))
              have hsz4 := hW.size
              have HO4 := Lib.hid (HO.out.below hW)
              clear hb4
              go_wp2_with (at_builtin; refine wpList_appendP (by rfl) _ _ 23 rfl w.heap.size 30 i0 (.agg #[.int .i64 0, .int .i64 0]) Try.underlying23 HI.out HZ0.out HZ1.out HZ2.out rfl _ _ _ rfl (HO4.out.alloc _) ⟨w4.heap.size, 0, none⟩ (1) (d) rfl (cell_two_new _ _ _ _) (by omega) (by simp; omega) ?_; intro v' w5 hO5 hB5)
              have HBg := Lib.hid (((hW.mono hsz).alloc (by omega) _).trans hB5)
              go_roundw
              case rel => exact settle_step hlk HL.out HY.out hO5 HB.out HBg.out
              case measure => simp [intOf]; omega
          · have HY := Lib.hid (stl_same d (px l k, py l k) (show d ≤ py l k by omega))
            have hqq : px l k * py l k / py l k = px l k := Int.mul_ediv_cancel _ (by omega)
            by_cases h1 : 1 < px l k
            · go_wp2_with fail
              refine (c_mass _ _ _ (by omega) (by omega)).mono ?_
              rintro e w4 ⟨rfl, hb4⟩
              have hW : Below wr.heap.size wr w4 := ((Below.refl _ _).alloc (Nat.le_refl _) _).trans (hb4.mono (by simp))
              have hsz4 := hW.size
              have HO4 := Lib.hid (HO.out.below hW)
              clear hb4
              go_wp2_with (at_builtin; refine wpList_appendP (by rfl) _ _ 23 rfl w.heap.size 30 i0 (.agg #[.int .i64 0, .int .i64 0]) Try.underlying23 HI.out HZ0.out HZ1.out HZ2.out rfl _ _ _ rfl (HO4.out.alloc _) ⟨w4.heap.size, 0, none⟩ (px l k) (py l k) rfl (cell_two_new _ _ _ _) (by omega) (by simp; omega) ?_; intro v' w5 hO5 hB5)
              have HBg := Lib.hid (((hW.mono hsz).alloc (by omega) _).trans hB5)
              go_roundw
              case rel => exact settle_step hlk HL.out HY.out hO5 HB.out HBg.out
              case measure => simp [intOf]; omega

            · have HY := Lib.hid (show stl d (px l k, py l k) = (1, py l k) by rw [HY.out, show px l k = 1 by omega])
              go_wp2_with fail
              refine (c_mass _ _ _ (by omega) (by omega)).mono ?_
              rintro e w4 ⟨rfl, hb4⟩
              have hW : Below wr.heap.size wr w4 := ((Below.refl _ _).alloc (Nat.le_refl _) _).trans (hb4.mono (by simp))
              have hsz4 := hW.size
              have HO4 := Lib.hid (HO.out.below hW)
              clear hb4
              go_wp2_with (at_builtin; refine wpList_appendP (by rfl) _ _ 23 rfl w.heap.size 30 i0 (.agg #[.int .i64 0, .int .i64 0]) Try.underlying23 HI.out HZ0.out HZ1.out HZ2.out rfl _ _ _ rfl (HO4.out.alloc _) ⟨w4.heap.size, 0, none⟩ (1) (py l k) rfl (cell_two_new _ _ _ _) (by omega) (by simp; omega) ?_; intro v' w5 hO5 hB5)
              have HBg := Lib.hid (((hW.mono hsz).alloc (by omega) _).trans hB5)
              go_roundw
              case rel => exact settle_step hlk HL.out HY.out hO5 HB.out HBg.out
              case measure => simp [intOf]; omega
        · obtain rfl : k = n := by omega
          clear hO hB
          obtain ⟨A4, c4, rfl, _⟩ := HO.out.form
          go_wp2
          go_ret2
          exact settle_end HK.out HL.out h20 HO.out HB.out
    · have HK := Lib.hid (show okS l d = false by simp [okS, hd])
      rcases inB_false hd with hd1 | hd1
      · go_enter Try.func16, Try.ntmps16
        go_wp2_with fail
        refine (c_implFirnValid _ _ _ l _ hn HR.out).mono ?_
        rintro e w1 ⟨rfl, hb1⟩
        go_wp2
        go_ret2
        exact settle_no HK.out (OwnP.nil _ _ _) hb1
      · have hdd1 : decide (d < 1) = false := by simp; omega
        go_enter Try.func16, Try.ntmps16
        go_wp2_with fail
        refine (c_implFirnValid _ _ _ l _ hn HR.out).mono ?_
        rintro e w1 ⟨rfl, hb1⟩
        go_wp2
        go_ret2
        exact settle_no HK.out (OwnP.nil _ _ _) hb1
  · have HK := Lib.hid (show okS l d = false by simp [okS, hv])
    go_enter Try.func16, Try.ntmps16
    go_wp2_with fail
    refine (c_implFirnValid _ _ _ l _ hn HR.out).mono ?_
    rintro e w1 ⟨rfl, hb1⟩
    go_wp2
    go_ret2
    exact settle_no HK.out (OwnP.nil _ _ _) hb1

end Go.Proofs.Ytkomonjmbpljhaa
