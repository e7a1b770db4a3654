/-
  Contract of CurveTurn of the program.
-/
import Derived.Test.YtfngdemjlglliaaLagWords
import Derived.Test.YtfngdemjlglliaaCurveImpl
namespace Go.Proofs.Ytfngdemjlglliaa
open Go.RowKit

set_option maxHeartbeats 4000000 in
theorem c_implCurveTurn (A : Option Addr) (n c : Nat) (l : List (Int × Int)) (w : World) (hn : n ≤ 2000000) (h : RdP w A n l) :
    Calls Try.prog 38 #[.slice A n c] w (TurnPost l w) := by
  have HR := Lib.hid h
  have HL := Lib.hid h.len
  clear h
  obtain ⟨i0, hi, hz0, hz1, hz2⟩ := info_parts info_knot
  have HI := Lib.hid hi
  have HZ0 := Lib.hid hz0
  have HZ1 := Lib.hid hz1
  have HZ2 := Lib.hid hz2
  clear hi hz0 hz1 hz2
  rcases Bool.eq_false_or_eq_true (vC l) with hv | hv
  all_goals have HV := Lib.hid hv
  · have h12 : n ≤ 12 := by have := (vC_yes hv).2.2.2; have := HL.out; omega
    clear hv
    go_enter Try.func38, Try.ntmps38
    go_wp2_with fail
    refine (c_implCurveValid _ _ _ l _ hn HR.out).mono ?_
    rintro e w1 ⟨he, hb⟩
    rw [HV.out] at he
    subst he
    have hB1 := hb
    clear hb
    go_wp2_with fail
    go_loopw [4, 12] (fun o i wr => TurnRel l w o i wr) (fun _ i _ => n - (intOf i).toNat)
    case atStart => exact ⟨0, Nat.zero_le _, rfl, OwnP.nil _ _ _, hB1⟩
    case round =>
      obtain ⟨k, hk, rfl, hO, hB⟩ := hrel
      rw [HL.out] at hk
      have HO := Lib.hid hO
      have hsz := hB.size
      clear hO
      by_cases hlt : k < n
      · have hkl : k < l.length := by have := HL.out; omega
        obtain ⟨b, off, rfl, hb, hc⟩ := HR.out.at_ (by omega)
        obtain ⟨hc0, hc1⟩ := hc k hlt
        rw [← hB.cell (p := ⟨b, off + k * 2, none⟩) hb] at hc0
        rw [← hB.cell (p := ⟨b, off + k * 2 + 1, none⟩) hb] at hc1
        have hk0 : (0 : Int) ≤ (k : Int) := by omega
        have hk1 : (k : Int) < (n : Int) := by omega
        have HT := Lib.hid (turn_take hkl)
        clear hc
        go_wp2_with (at_builtin; refine wpList_appendP (by rfl) _ _ 23 rfl w.heap.size 31 i0 (.agg #[.int .i64 0, .int .i64 0]) Try.underlying23 HI.out HZ0.out HZ1.out HZ2.out rfl _ k ((turn l).take k) rfl ((HO.out.alloc _).alloc _) ⟨wr.heap.size + 1, 0, none⟩ (py l k) (px l k) rfl (cell_knot1 _ _ _ _ _) (by omega) (by simp; omega) ?_; intro v' w5 hO5 hB5)
        go_roundw
        case rel => exact ⟨k + 1, by rw [HL.out]; omega, by go_num, by rw [HT.out]; exact hO5, ((hB.alloc hsz _).alloc (by simp; omega) _).trans hB5⟩
        case measure => simp [intOf]; omega
      · obtain rfl : k = n := by omega
        obtain ⟨A4, c4, rfl, _⟩ := HO.out.form
        have HO4 := Lib.hid (show OwnP wr w.heap.size 31 (.slice A4 k c4) k (turn l) by rw [← turn_all HL.out]; exact HO.out)
        go_wp2
        go_ret2
        exact turn_yes HV.out HL.out HO4.out hB
  · clear hv
    go_enter Try.func38, Try.ntmps38
    go_wp2_with fail
    refine (c_implCurveValid _ _ _ l _ hn HR.out).mono ?_
    rintro e w1 ⟨he, hb⟩
    rw [HV.out] at he
    subst he
    have hB1 := hb
    clear hb
    go_wp2
    go_ret2
    exact turn_no HV.out hB1
end Go.Proofs.Ytfngdemjlglliaa
