/-
  Contracts of FirnSolid, of the program.
-/
import Derived.Test.YtkomonjmbpljhaaFirnWalks
import Derived.Test.YtkomonjmbpljhaaFirnSums
import Derived.Test.YtkomonjmbpljhaaFirnMath2
import Derived.Handy
import Derived.Deep.QuietTactic
import Derived.BigQuiet
namespace Go.Proofs.Ytkomonjmbpljhaa
open Go.RowKit

set_option maxHeartbeats 400000 in
theorem c_implFirnSolid (A : Option Addr) (n c : Nat) (l : List (Int × Int)) (d : Int) (w : World) (hn : n ≤ 2000000) (h : RdP w A n l) :
    Calls Try.prog 28 #[.slice A n c, .int .i64 d] w fun e w' => e = .returned (.int .i64 (solidR l d)) ∧ Below w.heap.size w w' := by
  have HR := Lib.hid h
  have HL := Lib.hid h.len
  have HA := Lib.hid h.at_
  clear h
  rcases Bool.eq_false_or_eq_true (vFirn l) with hv | hv
  · go_enter Try.func28, Try.ntmps28
    go_wp2_with fail
    refine (c_implFirnValid _ _ _ l _ hn HR.out).mono ?_
    rintro e w1 ⟨rfl, hb1⟩
    have hB1 : Below w.heap.size w w1 := hb1
    clear hb1
    go_wp2_with fail
    go_loopw [5] (fun i wr => ∃ k : Nat, k ≤ n ∧ i = .int .i64 k ∧ Hid (solidAt l d n = solidAt l d k) ∧ Below w.heap.size w wr) (fun i _ => (intOf i).toNat)
    case atStart => exact ⟨n, Nat.le_refl _, rfl, Lib.hid rfl, hB1⟩
    case round =>
      obtain ⟨k, hk, rfl, HK, hBk⟩ := hrel
      by_cases hlt : 0 < k
      · obtain ⟨j, rfl⟩ : ∃ j, k = j + 1 := ⟨k - 1, by omega⟩
        obtain ⟨b, off, rfl, hb, hc⟩ := HA.out (by omega)
        obtain ⟨hc0, hc1⟩ := hc j (by omega)
        rw [← hBk.cell (p := ⟨b, off + j * 2 + 1, none⟩) hb] at hc1
        clear hc hc0
        have hj1 : ((j + 1 : Nat) : Int) - 1 = (j : Int) := by omega
        have hj2 : ((j : Int) + 1) - 1 = (j : Int) := by omega
        by_cases hd : d ≤ py l j
        · go_wp2
          go_roundw
          case rel => exact ⟨j, by omega, by go_num, Lib.hid (HK.out.trans (solidAt_yes hd)), hBk⟩
          case measure => simp [intOf]
        · go_wp2
          go_ret
          exact ⟨ret_int (by simp [solidR, hv, HL.out, HK.out, solidAt_no (show py l j < d by omega)]), hBk⟩
      · obtain rfl : k = 0 := by omega
        go_wp2
        go_ret
        exact ⟨ret_int (by simp [solidR, hv, HL.out, HK.out, solidAt]), hBk⟩
  · go_enter Try.func28, Try.ntmps28
    go_wp2_with fail
    refine (c_implFirnValid _ _ _ l _ hn HR.out).mono ?_
    rintro e w1 ⟨rfl, hb1⟩
    have hB1 : Below w.heap.size w w1 := hb1
    clear hb1
    go_wp2_with fail
    go_ret
    exact ⟨ret_int (by simp [solidR, hv]), hB1⟩

end Go.Proofs.Ytkomonjmbpljhaa
