/-
  The walk of the law FnThickFirn.
-/
import Derived.Test.YthoeefbddkdbjaaFirnDrawA
import Derived.Test.YthoeefbddkdbjaaFirnMath3
import Derived.Deep.RegionHeld3
import Derived.IntWalk
namespace Go.Proofs.Ythoeefbddkdbjaa
open Go.RowKit

/-- the list, its head and its tail, at any world on the way -/
def FT (w : World) (A2 A1 : Option Addr) (m2 k : Nat) (l : List (Int × Int)) (W : World) : Prop :=
  RdP W A1 k (l.take k) ∧ RdP W A2 m2 (l.drop k) ∧ Below w.heap.size w W
section
variable {w : World} {A2 A1 : Option Addr} {m2 k : Nat} {l : List (Int × Int)} {W : World}
theorem FT.drew (h : FT w A2 A1 m2 k l W) : FT w A2 A1 m2 k l W.drew := ⟨h.1.drew, h.2.1.drew, h.2.2.drew⟩
theorem FT.below {W' : World} (h : FT w A2 A1 m2 k l W) (hb : Below W.heap.size W W') : FT w A2 A1 m2 k l W' := ⟨h.1.below hb, h.2.1.below hb, h.2.2.trans (hb.mono h.2.2.size)⟩
theorem FT.tk (h : FT w A2 A1 m2 k l W) : RdP W A1 k (l.take k) := h.1
theorem FT.ct (h : FT w A2 A1 m2 k l W) : RdP W A2 m2 (l.drop k) := h.2.1
end

set_option maxHeartbeats 400000 in
theorem walk_FnThickFirn (A : Option Addr) (n c : Nat) (A' : Option Addr) (n' c' : Nat) (w : World) (h : RdB w A n) (hn : n ≤ maxLen) (hc : n ≤ c) (_h' : RdB w A' n') (hn' : n' ≤ maxLen) (_hc' : n' ≤ c') :
    Calls Try.prog 5 #[.slice A n c, .slice A' n' c'] w fun e w' => e = .returned (.bool true) ∧ Below w.heap.size w w' := by
  unfold maxLen at hn hn'
  have HB := Lib.hid h
  clear h _h'
  by_cases hbig : 1048576 < n
  · go_enter Try.func5, Try.ntmps5
    go_wp2
    go_ret
    exact ⟨rfl, Below.refl _ _⟩
  · have hd1 : decide ((1048576 : Int) < (n : Int)) = false := by simp; omega
    by_cases hbig' : 1048576 < n'
    · go_enter Try.func5, Try.ntmps5
      go_wp2
      go_ret
      exact ⟨rfl, Below.refl _ _⟩
    · have hd2 : decide ((1048576 : Int) < (n' : Int)) = false := by simp; omega
      go_enter Try.func5, Try.ntmps5
      go_wp2_with fail
      refine (c_DrawFirnThick _ _ _ _ HB.out (by omega) hc).mono ?_
      rintro e w1 ⟨A1, n1, c1, l, rfl, hn1, hc1, hr1, hb1⟩
      have HR1 := Lib.hid hr1
      clear hr1
      go_wp2_with fail
      refine (c_implFirnThick _ _ _ l _ (by omega) HR1.out).mono ?_
      rintro e w2 ⟨rfl, hb2⟩
      have HR2 := Lib.hid (HR1.out.below hb2)
      have hB2 := hb1.trans (hb2.mono hb1.size)
      clear hb1 hb2 HR1
      go_wp2_with fail
      refine (c_specFirnThick _ _ _ l _ (by omega) HR2.out).mono ?_
      rintro e w3 ⟨rfl, hb3⟩
      have HR3 := Lib.hid (HR2.out.below hb3)
      have hB3 := hB2.trans (hb3.mono hB2.size)
      clear hB2 hb3 HR2
      have hne : (thickR l != thickR l) = false := by simp
      have heq : (thickR l == thickR l) = true := by simp
      by_cases hneg : thickR l < 0
      · go_wp2
        go_ret
        exact ⟨rfl, hB3⟩
      · obtain ⟨k, hk, hkl⟩ : ∃ k : Nat, (n' : Int) % ((n1 : Int) + 1) = (k : Int) ∧ k ≤ n1 := ⟨n' % (n1 + 1), by push_cast; rfl, by have := Nat.mod_lt n' (show 0 < n1 + 1 by omega); omega⟩
        have HV := Lib.hid (thickR_ok (show 0 ≤ thickR l by omega))
        have f1 : (IntKind.i64.wrap (thickR (l.take k) + thickR (l.drop k)) == thickR l) = true := by
          have := thickR_bd l
          rw [thickR_parts HV.out, IntWalk.i64_in _ (by omega)]
          simp
        have f2 : decide ((n1 : Int) ≤ thickR l) = true := by
          have := thickR_len HV.out
          have := HR3.out.len
          simp; omega
        by_cases hck : c1 = k
        · subst hck
          have hT := HR3.out.take hkl
          have hC := HR3.out.cut hkl hc1
          rw [if_pos rfl, show n1 - c1 = 0 by omega] at hC
          have HS := Lib.hid (show FT w A1 A1 0 c1 l w3 from ⟨hT, hC, hB3⟩)
          clear hT hC
          go_wp2_with fail
          have hk0 : (0 : Int) ≤ (c1 : Int) := by omega
          have hk1 : (c1 : Int) ≤ (n1 : Int) := by omega
          have hk2 : (c1 : Int) ≤ (c1 : Int) := by omega
          go_region_held3 (fun W => FT w A1 A1 0 c1 l W) (first | exact HS.out | exact HS.out.drew | assumption)
            (first | (go_at_call 22; (with_reducible refine (c_implFirnThick A1 c1 _ (l.take c1) _ (by omega) (FT.tk (by assumption))).mono ?_); rintro e w4 ⟨rfl, hb4⟩; have hS4 := FT.below (by assumption) hb4; clear hb4) | (go_at_call 22; (with_reducible refine (c_implFirnThick _ 0 _ (l.drop c1) _ (by omega) (FT.ct (by assumption))).mono ?_); rintro e w4 ⟨rfl, hb4⟩; have hS4 := FT.below (by assumption) hb4; clear hb4))
          go_wp2
          go_ret
          exact ⟨rfl, hS4.2.2⟩
        · have hT := HR3.out.take hkl
          have hC := HR3.out.cut hkl hc1
          rw [if_neg hck] at hC
          have HS := Lib.hid (show FT w (Option.map (·.add (k * 2)) A1) A1 (n1 - k) k l w3 from ⟨hT, hC, hB3⟩)
          clear hT hC
          go_wp2_with fail
          have hk0 : (0 : Int) ≤ (k : Int) := by omega
          have hk1 : (k : Int) ≤ (n1 : Int) := by omega
          have hk2 : (k : Int) ≤ (c1 : Int) := by omega
          go_region_held3 (fun W => FT w (Option.map (·.add (k * 2)) A1) A1 (n1 - k) k l W) (first | exact HS.out | exact HS.out.drew | assumption)
            (first | (go_at_call 22; (with_reducible refine (c_implFirnThick A1 k _ (l.take k) _ (by omega) (FT.tk (by assumption))).mono ?_); rintro e w4 ⟨rfl, hb4⟩; have hS4 := FT.below (by assumption) hb4; clear hb4) | (go_at_call 22; (with_reducible refine (c_implFirnThick _ (n1 - k) _ (l.drop k) _ (by omega) (FT.ct (by assumption))).mono ?_); rintro e w4 ⟨rfl, hb4⟩; have hS4 := FT.below (by assumption) hb4; clear hb4))
          go_wp2
          go_ret
          exact ⟨rfl, hS4.2.2⟩
end Go.Proofs.Ythoeefbddkdbjaa
