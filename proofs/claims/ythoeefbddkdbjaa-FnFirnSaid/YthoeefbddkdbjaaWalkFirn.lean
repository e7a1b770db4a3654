/-
  The walk of the law FnFirn: it returns true and writes nothing that was there.
-/
import Derived.Test.YthoeefbddkdbjaaFirnDrawV
import Derived.Test.YthoeefbddkdbjaaFirnMath3
import Derived.Test.YthoeefbddkdbjaaHeadTail
import Derived.Deep.RegionHeld3
import Derived.IntWalk
namespace Go.Proofs.Ythoeefbddkdbjaa
open Go.RowKit

set_option maxHeartbeats 800000 in
theorem walk_FnFirn (A : Option Addr) (n c : Nat) (A' : Option Addr) (n' c' : Nat) (w : World) (h : RdB w A n) (hn : n ≤ maxLen) (hc : n ≤ c) (_h' : RdB w A' n') (hn' : n' ≤ maxLen) (_hc' : n' ≤ c') :
    Calls Try.prog 4 #[.slice A n c, .slice A' n' c'] w fun e w' => e = .returned (.bool true) ∧ Below w.heap.size w w' := by
  unfold maxLen at hn hn'
  have HB := Lib.hid h
  clear h _h'
  by_cases hbig : 1048576 < n
  · go_enter Try.func4, Try.ntmps4
    go_wp2
    go_ret
    exact ⟨rfl, Below.refl _ _⟩
  · have hd1 : decide ((1048576 : Int) < (n : Int)) = false := by simp; omega
    by_cases hbig' : 1048576 < n'
    · go_enter Try.func4, Try.ntmps4
      go_wp2
      go_ret
      exact ⟨rfl, Below.refl _ _⟩
    · have hd2 : decide ((1048576 : Int) < (n' : Int)) = false := by simp; omega
      go_enter Try.func4, Try.ntmps4
      go_wp2_with fail
      refine (c_DrawFirnValid _ _ _ _ HB.out (by omega) hc).mono ?_
      rintro e w1 ⟨A1, n1, c1, l, rfl, hn1, hc1, hr1, hb1⟩
      have HR1 := Lib.hid hr1
      clear hr1
      go_wp2_with fail
      refine (c_implFirnValid _ _ _ l _ (by omega) HR1.out).mono ?_
      rintro e w2 ⟨rfl, hb2⟩
      have HR2 := Lib.hid (HR1.out.below hb2)
      have hB2 := hb1.trans (hb2.mono hb1.size)
      clear hb1 hb2 HR1
      go_wp2_with fail
      refine (c_specFirnValid _ _ _ l _ (by omega) HR2.out).mono ?_
      rintro e w3 ⟨rfl, hw3⟩
      have HR3 := Lib.hid (show RdP w3 A1 n1 l from hw3 ▸ HR2.out)
      have hB3 : Below w.heap.size w w3 := hw3 ▸ hB2
      clear hB2 hw3 HR2
      have hne : (vFirn l != vFirn l) = false := by simp
      have heq : (vFirn l == vFirn l) = true := by simp
      rcases Bool.eq_false_or_eq_true (vFirn l) with hv | hv
      · obtain ⟨k, hk, hkl⟩ : ∃ k : Nat, (n' : Int) % ((n1 : Int) + 1) = (k : Int) ∧ k ≤ n1 := ⟨n' % (n1 + 1), by push_cast; rfl, by have := Nat.mod_lt n' (show 0 < n1 + 1 by omega); omega⟩
        have hv1 := vFirn_take hv k
        have hv2 := vFirn_drop hv k
        have hv3 := firn_bad l
        obtain ⟨i0, hi, hz0, hz1, hz2⟩ := info_parts info_slab'
        have HI := Lib.hid hi
        have HZ0 := Lib.hid hz0
        have HZ1 := Lib.hid hz1
        have HZ2 := Lib.hid hz2
        clear hi hz0 hz1 hz2
        by_cases hck : c1 = k
        · subst hck
          have hT := HR3.out.take hkl
          have hC := HR3.out.cut hkl hc1
          rw [if_pos rfl, show n1 - c1 = 0 by omega] at hC
          have HS := Lib.hid (show FT w A1 A1 0 c1 l w3 from ⟨hT, hC, hB3⟩)
          clear hT hC
          go_wp2_with fail
          refine (c_implFirnValid _ _ _ (l.take c1) _ (by omega) HS.out.tk).mono ?_
          rintro e w4 ⟨rfl, hb4⟩
          have HS4 := Lib.hid (HS.out.below hb4)
          have HR4 := Lib.hid (HR3.out.below hb4)
          clear hb4 HS HR3
          go_wp2_with fail
          refine (c_implFirnValid _ _ _ (l.drop c1) _ (by omega) HS4.out.ct).mono ?_
          rintro e w5 ⟨rfl, hb5⟩
          have hB3 := (HS4.out.below hb5).2.2
          have HR3 := Lib.hid (HR4.out.below hb5)
          clear hb5 HS4 HR4
          go_wp2_with (first | (at_builtin; refine wpList_appendL (o := ⟨some 52, _, _, _, _, _⟩) (by rfl) _ _ 25 rfl w5.heap.size 32 i0 (.agg #[.int .i64 0, .int .i64 0]) Try.underlying25 HI.out HZ0.out HZ1.out HZ2.out rfl _ _ _ rfl (OwnP.empty _ _ (Nat.le_refl _)) A1 n1 c1 l rfl (HR3.out.below ((Below.refl _ _).alloc (Nat.le_refl _) _)) (by omega) (by simp <;> omega) ?_; intro v4 w4 hO4 hB4; have hsz4 := hB4.size; simp at hsz4) | (at_builtin; refine wpList_appendP (o := ⟨some 55, _, _, _, _, _⟩) (by rfl) _ _ 25 rfl w5.heap.size 32 i0 (.agg #[.int .i64 0, .int .i64 0]) Try.underlying25 HI.out HZ0.out HZ1.out HZ2.out rfl _ _ _ rfl (hO4.alloc _) ⟨w4.heap.size, 0, none⟩ (0) (1) rfl (cell_two_new _ _ _ _) (by omega) (by simp <;> omega) ?_; intro v5 w6 hO5 hB5))
          obtain ⟨A5, c5, rfl, hc5, _, hrd5, _⟩ := hO5.form
          have HR5 := Lib.hid hrd5
          have hB34 : Below w5.heap.size w5 w6 := below_two hB4 hB5
          have HR6 := Lib.hid (HR3.out.below hB34)
          have hB6 := hB3.trans (hB34.mono hB3.size)
          clear hrd5 hO5 hO4 hB4 hB5 hB34 hB3 HR3
          refine (c_implFirnValid _ _ _ (l ++ [(0, 1)]) _ (by omega) HR5.out).mono ?_
          rintro e w7 ⟨rfl, hb7⟩
          have hB7 := hB6.trans (hb7.mono hB6.size)
          go_wp2
          go_ret
          exact ⟨rfl, hB7⟩
        · have hT := HR3.out.take hkl
          have hC := HR3.out.cut hkl hc1
          rw [if_neg hck] at hC
          have HS := Lib.hid (show FT w (Option.map (·.add (k * 2)) A1) A1 (n1 - k) k l w3 from ⟨hT, hC, hB3⟩)
          clear hT hC
          go_wp2_with fail
          refine (c_implFirnValid _ _ _ (l.take k) _ (by omega) HS.out.tk).mono ?_
          rintro e w4 ⟨rfl, hb4⟩
          have HS4 := Lib.hid (HS.out.below hb4)
          have HR4 := Lib.hid (HR3.out.below hb4)
          clear hb4 HS HR3
          go_wp2_with fail
          refine (c_implFirnValid _ _ _ (l.drop k) _ (by omega) HS4.out.ct).mono ?_
          rintro e w5 ⟨rfl, hb5⟩
          have hB3 := (HS4.out.below hb5).2.2
          have HR3 := Lib.hid (HR4.out.below hb5)
          clear hb5 HS4 HR4
          go_wp2_with (first | (at_builtin; refine wpList_appendL (o := ⟨some 52, _, _, _, _, _⟩) (by rfl) _ _ 25 rfl w5.heap.size 32 i0 (.agg #[.int .i64 0, .int .i64 0]) Try.underlying25 HI.out HZ0.out HZ1.out HZ2.out rfl _ _ _ rfl (OwnP.empty _ _ (Nat.le_refl _)) A1 n1 c1 l rfl (HR3.out.below ((Below.refl _ _).alloc (Nat.le_refl _) _)) (by omega) (by simp <;> omega) ?_; intro v4 w4 hO4 hB4; have hsz4 := hB4.size; simp at hsz4) | (at_builtin; refine wpList_appendP (o := ⟨some 55, _, _, _, _, _⟩) (by rfl) _ _ 25 rfl w5.heap.size 32 i0 (.agg #[.int .i64 0, .int .i64 0]) Try.underlying25 HI.out HZ0.out HZ1.out HZ2.out rfl _ _ _ rfl (hO4.alloc _) ⟨w4.heap.size, 0, none⟩ (0) (1) rfl (cell_two_new _ _ _ _) (by omega) (by simp <;> omega) ?_; intro v5 w6 hO5 hB5))
          obtain ⟨A5, c5, rfl, hc5, _, hrd5, _⟩ := hO5.form
          have HR5 := Lib.hid hrd5
          have hB34 : Below w5.heap.size w5 w6 := below_two hB4 hB5
          have HR6 := Lib.hid (HR3.out.below hB34)
          have hB6 := hB3.trans (hB34.mono hB3.size)
          clear hrd5 hO5 hO4 hB4 hB5 hB34 hB3 HR3
          refine (c_implFirnValid _ _ _ (l ++ [(0, 1)]) _ (by omega) HR5.out).mono ?_
          rintro e w7 ⟨rfl, hb7⟩
          have hB7 := hB6.trans (hb7.mono hB6.size)
          go_wp2
          go_ret
          exact ⟨rfl, hB7⟩

      · go_wp2
        go_ret
        exact ⟨rfl, hB3⟩
end Go.Proofs.Ythoeefbddkdbjaa
