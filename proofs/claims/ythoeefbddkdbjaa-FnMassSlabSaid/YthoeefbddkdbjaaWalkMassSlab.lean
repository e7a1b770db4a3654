/-
  The walk of the law FnMassSlab: it returns true and writes nothing that was there.
-/
import Derived.Test.YthoeefbddkdbjaaFirnDrawA
import Derived.Test.YthoeefbddkdbjaaFirnMath3
import Derived.Deep.RegionHeld3
import Derived.IntWalk
namespace Go.Proofs.Ythoeefbddkdbjaa
open Go.RowKit

set_option maxHeartbeats 800000 in
theorem walk_FnMassSlab (A : Option Addr) (n c : Nat) (w : World) (h : RdB w A n) (hn : n ≤ maxLen) (hc : n ≤ c) :
    Calls Try.prog 12 #[.slice A n c] w fun e w' => e = .returned (.bool true) ∧ Below w.heap.size w w' := by
  unfold maxLen at hn
  have HB := Lib.hid h
  clear h
  by_cases hbig : 1048576 < n
  · go_enter Try.func12, Try.ntmps12
    go_wp2
    go_ret
    exact ⟨rfl, Below.refl _ _⟩
  · have hd1 : decide ((1048576 : Int) < (n : Int)) = false := by simp; omega
    go_enter Try.func12, Try.ntmps12
    go_wp2_with fail
    refine (c_DrawFirnMass _ _ _ _ HB.out (by omega) hc).mono ?_
    rintro e w1 ⟨A1, n1, c1, l, rfl, hn1, hc1, hr1, hb1⟩
    have HR1 := Lib.hid hr1
    clear hr1
    go_wp2_with fail
    refine (c_implFirnMass _ _ _ l _ (by omega) HR1.out).mono ?_
    rintro e w2 ⟨rfl, hb2⟩
    have HR2 := Lib.hid (HR1.out.below hb2)
    have hB2 := hb1.trans (hb2.mono hb1.size)
    clear hb1 hb2 HR1
    go_wp2_with fail
    refine (c_specFirnMass _ _ _ l _ (by omega) HR2.out).mono ?_
    rintro e w3 ⟨rfl, hb3⟩
    have HR3 := Lib.hid (HR2.out.below hb3)
    have hB3 := hB2.trans (hb3.mono hB2.size)
    clear hB2 hb3 HR2
    have hne : (massR l != massR l) = false := by simp
    have heq : (massR l == massR l) = true := by simp
    by_cases hneg : massR l < 0
    · go_wp2
      go_ret
      exact ⟨rfl, hB3⟩

    · have HV := Lib.hid (massR_ok (show 0 ≤ massR l by omega))
      have HL := Lib.hid HR3.out.len
      have hbd := massR_bd l
      have hbt := thickR_bd l
      by_cases h20 : n1 = 20
      · subst h20
        have f1 : decide (0 < massR l) = true := by have := massR_pos HV.out (by have := HL.out; omega); simp; omega
        go_wp2
        go_ret
        exact ⟨rfl, hB3⟩
      · have h20' : ((n1 : Int) == 20) = false := by simp; omega
        have HQ := Lib.hid (mass_slab HV.out (by have := (vFirn_ok HV.out).2; have := HL.out; omega))
        have hbx := massR_bd (l ++ [(2, 400)])
        have hby := thickR_bd (l ++ [(2, 400)])
        obtain ⟨i0, hi, hz0, hz1, hz2⟩ := info_parts info_slab'
        have HI := Lib.hid hi
        have HZ0 := Lib.hid hz0
        have HZ1 := Lib.hid hz1
        have HZ2 := Lib.hid hz2
        clear hi hz0 hz1 hz2
        go_wp2_with (first | (at_builtin; refine wpList_appendL (o := ⟨some 33, _, _, _, _, _⟩) (by rfl) _ _ 25 rfl w3.heap.size 32 i0 (.agg #[.int .i64 0, .int .i64 0]) Try.underlying25 HI.out HZ0.out HZ1.out HZ2.out rfl _ _ _ rfl (OwnP.empty _ _ (Nat.le_refl _)) A1 n1 c1 l rfl (HR3.out.below ((Below.refl _ _).alloc (Nat.le_refl _) _)) (by omega) (by simp <;> omega) ?_; intro v4 w4 hO4 hB4; have hsz4 := hB4.size; simp at hsz4) | (at_builtin; refine wpList_appendP (o := ⟨some 36, _, _, _, _, _⟩) (by rfl) _ _ 25 rfl w3.heap.size 32 i0 (.agg #[.int .i64 0, .int .i64 0]) Try.underlying25 HI.out HZ0.out HZ1.out HZ2.out rfl _ _ _ rfl (hO4.alloc _) ⟨w4.heap.size, 0, none⟩ (2) (400) rfl (cell_two_new _ _ _ _) (by omega) (by simp <;> omega) ?_; intro v5 w5 hO5 hB5))
        simp only [Nat.zero_add, List.nil_append] at hO5
        obtain ⟨A5, c5, rfl, hc5, _, hrd5, _⟩ := hO5.form
        have HR5 := Lib.hid hrd5
        have hB34 : Below w3.heap.size w3 w5 := below_two hB4 hB5
        have HR6 := Lib.hid (HR3.out.below hB34)
        have hB6 := hB3.trans (hB34.mono hB3.size)
        clear hrd5 hO5 hO4 hB4 hB5 hB34 hB3 HR3
        have hq1 : n1 + 1 ≤ 2000000 := by omega
        have hq2 : n1 ≤ 2000000 := by omega
        have f1 : (massR (l ++ [(2, 400)]) == massR l + 800) = true := by rw [HQ.out.1]; simp
        have f2 : (thickR (l ++ [(2, 400)]) == thickR l + 2) = true := by rw [HQ.out.2]; simp
        refine (c_implFirnMass _ _ _ (l ++ [(2, 400)]) _ hq1 HR5.out).mono ?_
        rintro e w7 ⟨rfl, hb7⟩
        have HR7 := Lib.hid (HR5.out.below hb7)
        have HR8 := Lib.hid (HR6.out.below hb7)
        have hB7 := hB6.trans (hb7.mono hB6.size)
        clear hb7 hB6 HR5 HR6
        go_wp2_with fail
        refine (c_implFirnThick _ _ _ (l ++ [(2, 400)]) _ hq1 HR7.out).mono ?_
        rintro e w8 ⟨rfl, hb8⟩
        have HR9 := Lib.hid (HR8.out.below hb8)
        have hB8 := hB7.trans (hb8.mono hB7.size)
        clear hb8 hB7 HR7 HR8
        go_wp2_with fail
        refine (c_implFirnThick _ _ _ l _ hq2 HR9.out).mono ?_
        rintro e w9 ⟨rfl, hb9⟩
        have hB9 := hB8.trans (hb9.mono hB8.size)
        clear hb9 hB8 HR9
        go_wp2
        go_ret
        exact ⟨rfl, hB9⟩
end Go.Proofs.Ythoeefbddkdbjaa
