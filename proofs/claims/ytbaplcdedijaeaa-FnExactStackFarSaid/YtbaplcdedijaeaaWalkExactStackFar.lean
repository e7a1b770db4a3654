/-
  The walk of the law FnExactStackFar: it returns true and writes nothing that was there.
-/
import Derived.Test.YtbaplcdedijaeaaToRows
import Derived.Test.YtbaplcdedijaeaaStackFar
namespace Go.Proofs.Ytbaplcdedijaeaa
open Go.RowKit

set_option maxHeartbeats 2000000 in
theorem walk_FnExactStackFar (A : Option Addr) (n c : Nat) (rs : List RV) (d : Int) (w : World) (h : RdR w A n rs) (hn : n ≤ maxLen) (hf : ∀ i, i < rs.length → (rv rs i).n ≤ maxLen) (_hx0 : -9223372036854775808 ≤ d) (_hx1 : d ≤ 9223372036854775807) :
    Calls Try.prog 6 #[.slice A n c, .int .i64 d] w fun e w' => e = .returned (.bool true) ∧ Below w.heap.size w w' := by
  unfold maxLen at hn hf
  have HR := Lib.hid h
  have HF := Lib.hid (show Fits rs from fun i hi => by have := hf i hi; omega)
  have hrl := h.len
  clear h hf
  go_enter Try.func6, Try.ntmps6
  go_wp2_with fail
  refine (c_szIntSS _ _ _ rs _ (by omega) HR.out HF.out).mono ?_
  rintro e w' ⟨x, rfl, rfl, hx⟩
  rcases hx with hx | ⟨x0, hn1, hs⟩
  · go_wp2
    go_ret
    exact ⟨rfl, Below.refl _ _⟩
  · have hx0 : decide (x < 0) = false := by simp; omega
    have HS := Lib.hid (show Short rs from fun i hi => by have := hs i (by omega); omega)
    clear hs hrl
    go_wp2_with fail
    refine (c_toIntSS _ _ _ rs _ (by omega) HR.out HS.out).mono ?_
    rintro e w1 ⟨rs1, rfl, hr1, hv1, hs1, _, hb1⟩
    have R1 := Lib.hid hr1
    have V1 := Lib.hid hv1
    have S1 := Lib.hid hs1
    have hB1 := hb1
    clear hr1 hv1 hs1 hb1
    go_wp2_with fail
    refine (c_specStackFar _ _ _ rs1 d _ (by omega) R1.out S1.out).mono ?_
    rintro e w2 ⟨he, hb⟩
    rw [V1.out] at he
    subst he
    have hB2 := hB1.trans (hb.mono hB1.size)
    clear hb R1
    go_wp2_with fail
    refine (c_toIntSS _ _ _ rs _ (by omega) (HR.out.below hB2) HS.out).mono ?_
    rintro e w3 ⟨rs3, rfl, hr3, hv3, hs3, _, hb⟩
    have R3 := Lib.hid hr3
    have V3 := Lib.hid hv3
    have S3 := Lib.hid hs3
    have hB3 := hB2.trans (hb.mono hB2.size)
    clear hr3 hv3 hs3 hb
    have hne : (farV (vals rs) d != farV (vals rs) d) = false := by simp
    go_wp2_with fail
    refine (c_implStackFar _ _ _ rs3 d _ (by omega) R3.out S3.out).mono ?_
    rintro e w6 ⟨he, hb⟩
    rw [V3.out] at he
    subst he
    have R6 := Lib.hid (R3.out.below hb)
    have hB6 := hB3.trans (hb.mono hB3.size)
    clear hb R3
    go_wp2_with fail
    refine (c_toIntSS _ _ _ rs _ (by omega) (HR.out.below hB6) HS.out).mono ?_
    rintro e w4 ⟨rs4, rfl, hr4, hv4, hs4, _, hb⟩
    have R4 := Lib.hid hr4
    have V4 := Lib.hid hv4
    have S4 := Lib.hid hs4
    have HB4 := Lib.hid hb
    have hB4 := hB6.trans (hb.mono hB6.size)
    clear hr4 hv4 hs4 hb
    go_wp2_with fail
    refine (c_eqIntSS _ _ _ _ _ _ rs3 rs4 _ (by omega) (by omega) (R6.out.below HB4.out) R4.out S3.out S4.out).mono ?_
    intro e w5 hq
    obtain ⟨he, hb⟩ := hq.below
    rw [show eqR (vals rs3) (vals rs4) = true by rw [V3.out, V4.out]; simp [eqR]] at he
    subst he
    have hB5 := hB4.trans (hb.mono hB4.size)
    clear hb hq
    go_wp2
    go_ret
    exact ⟨rfl, hB5⟩
end Go.Proofs.Ytbaplcdedijaeaa
