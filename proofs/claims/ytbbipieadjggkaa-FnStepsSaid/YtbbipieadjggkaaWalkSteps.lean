/-
  The walk of the law FnSteps: it returns true and writes nothing that was there.
-/
import Derived.Test.YtbbipieadjggkaaStepsWords
import Derived.Test.YtbbipieadjggkaaDrawSteps
import Derived.Test.YtbbipieadjggkaaFracMulImpl
import Derived.Test.YtbbipieadjggkaaFracDivImpl
import Derived.Deep.RegionHeld3
namespace Go.Proofs.Ytbbipieadjggkaa
open Go.RowKit

set_option maxHeartbeats 8000000 in
theorem walk_FnSteps (A : Option Addr) (n c : Nat) (w : World) (h : RdB w A n) (hn : n ≤ maxLen) (hc : n ≤ c) :
    Calls Try.prog 4 #[.slice A n c] w fun e w' => e = .returned (.bool true) ∧ Below w.heap.size w w' := by
  unfold maxLen at hn
  have HB := Lib.hid h
  clear h
  by_cases hbig : 1048576 < n
  · go_enter Try.func4, Try.ntmps4
    go_wp2
    go_ret
    exact ⟨rfl, Below.refl _ _⟩
  · have hd1 : decide ((1048576 : Int) < (n : Int)) = false := by simp; omega
    go_enter Try.func4, Try.ntmps4
    go_wp2_with fail
    refine (c_DrawWaterSteps _ _ _ _ HB.out (by omega) hc).mono ?_
    rintro e w1 ⟨rn, rd, fn, fd, nn, rfl, _, _, _, _, _, _, _, _, _, _, hB1⟩
    rcases Bool.eq_false_or_eq_true (stV rn rd fn fd nn) with hok | hok
    · obtain ⟨m, rfl, hm, hr, hf, ho⟩ := stV_yes hok
      obtain ⟨N, hN⟩ : ∃ x, stN rn rd fn fd m = x := ⟨_, rfl⟩
      obtain ⟨D, hD⟩ : ∃ x, stD rn rd fn fd m = x := ⟨_, rfl⟩
      have HN := Lib.hid hN
      have HD := Lib.hid hD
      have HR := Lib.hid hr
      have HF := Lib.hid hf
      have HO := Lib.hid ho
      have HVF := Lib.hid (show vF N D = true by rw [← hN, ← hD]; exact st_vF hr ho)
      clear hok hr hf ho hN hD
      go_wp2_with fail
      refine (c_implWaterSteps _ _ _ _ _ _).mono ?_
      intro e w2 hp
      obtain ⟨rfl, hb⟩ := st_at rfl hm HR.out HF.out HO.out HN.out HD.out hp
      clear hp
      have J2 := Lib.hid (blk_n2 hb)
      have K2 := Lib.hid (blk_n2' hb)
      have hB2 := bel2 hB1 hb
      have zJ2 := J2.out.lt
      have zK2 := K2.out.lt
      obtain ⟨cJ2, dJ2, _, _⟩ := J2.out.two
      obtain ⟨cK2, dK2, _, _⟩ := K2.out.two
      clear hb
      go_wp2_with fail
      refine (c_specWaterSteps _ _ _ _ _ _).mono ?_
      intro e w3 hp
      obtain ⟨rfl, hb⟩ := st_at rfl hm HR.out HF.out HO.out HN.out HD.out hp
      clear hp
      have J3 := Lib.hid (blk_b1 J2.out hb)
      have K3 := Lib.hid (blk_b1 K2.out hb)
      have O3 := Lib.hid (blk_n1 hb)
      have hB3 := bel1 hB2 hb
      have zJ3 := J3.out.lt
      have zK3 := K3.out.lt
      have zO3 := O3.out.lt
      obtain ⟨cJ3, dJ3, _, _⟩ := J3.out.two
      obtain ⟨cK3, dK3, _, _⟩ := K3.out.two
      obtain ⟨cO3, dO3, _, _⟩ := O3.out.two
      clear hb
      rcases Nat.eq_zero_or_pos m with hz | hz
      · subst hz
        obtain rfl : N = rn := HN.out.symm
        obtain rfl : D = rd := HD.out.symm
        go_wp2_with fail
        refine (c_implWaterSteps _ _ _ _ _ _).mono ?_
        intro e w4 hp
        obtain ⟨rfl, hb⟩ := st_at (m := 0) rfl (by omega) HR.out HF.out rfl rfl rfl hp
        clear hp
        have J4 := Lib.hid (blk_b1 J3.out hb)
        have K4 := Lib.hid (blk_b1 K3.out hb)
        have O4 := Lib.hid (blk_b1 O3.out hb)
        have X4 := Lib.hid (blk_n1 hb)
        have hB4 := bel1 hB3 hb
        have zJ4 := J4.out.lt
        have zK4 := K4.out.lt
        have zO4 := O4.out.lt
        have zX4 := X4.out.lt
        obtain ⟨cJ4, dJ4, _, _⟩ := J4.out.two
        obtain ⟨cO4, dO4, _, _⟩ := O4.out.two
        clear hb
        go_wp2
        go_ret
        exact ⟨rfl, hB4.alloc hB4.size _⟩
      · obtain ⟨k, rfl⟩ : ∃ k, m = k + 1 := ⟨m - 1, by omega⟩
        obtain ⟨yN, hyN⟩ : ∃ x, stN rn rd fn fd k = x := ⟨_, rfl⟩
        obtain ⟨yD, hyD⟩ : ∃ x, stD rn rd fn fd k = x := ⟨_, rfl⟩
        have hop := stO_pred HO.out
        have HO' := Lib.hid hop.1
        have HY := Lib.hid (show okF (yN * fn) (yD * fd) = true by rw [← hyN, ← hyD]; exact hop.2)
        have HZN := Lib.hid (show nF (yN * fn) (yD * fd) = N by rw [← hyN, ← hyD, ← stN_succ]; exact HN.out)
        have HZD := Lib.hid (show dF (yN * fn) (yD * fd) = D by rw [← hyN, ← hyD, ← stD_succ]; exact HD.out)
        have HT := Lib.hid (show two yN yD fn fd = true by rw [← hyN, ← hyD]; simp [two, st_vF HR.out hop.1, HF.out])
        have HYN := Lib.hid hyN
        have HYD := Lib.hid hyD
        have hne : (((k : Int) + 1) == 0) = false := by simp; omega
        clear hyN hyD hop
        go_wp2_with fail
        refine (c_implWaterSteps _ _ _ _ _ _).mono ?_
        intro e w4 hp
        obtain ⟨rfl, hb⟩ := st_at (m := 0) rfl (by omega) HR.out HF.out rfl rfl rfl hp
        clear hp
        have J4 := Lib.hid (blk_b1 J3.out hb)
        have K4 := Lib.hid (blk_b1 K3.out hb)
        have O4 := Lib.hid (blk_b1 O3.out hb)
        have X4 := Lib.hid (blk_n1 hb)
        have hB4 := bel1 hB3 hb
        have zJ4 := J4.out.lt
        have zK4 := K4.out.lt
        have zO4 := O4.out.lt
        have zX4 := X4.out.lt
        obtain ⟨cJ4, dJ4, _, _⟩ := J4.out.two
        obtain ⟨cK4, dK4, _, _⟩ := K4.out.two
        clear hb
        go_wp2_with fail
        refine (c_implWaterSteps _ _ _ _ _ _).mono ?_
        intro e w5 hp
        obtain ⟨rfl, hb⟩ := st_at (m := k) (by push_cast; omega) (by omega) HR.out HF.out HO'.out HYN.out HYD.out hp
        clear hp
        have J5 := Lib.hid (blk_b1 J4.out hb)
        have K5 := Lib.hid (blk_b1 K4.out hb)
        have O5 := Lib.hid (blk_b1 O4.out hb)
        have X5 := Lib.hid (blk_b1 X4.out hb)
        have P5 := Lib.hid (blk_n1 hb)
        have hB5 := bel1 hB4 hb
        have zJ5 := J5.out.lt
        have zK5 := K5.out.lt
        have zO5 := O5.out.lt
        have zX5 := X5.out.lt
        have zP5 := P5.out.lt
        obtain ⟨cK5, dK5, _, _⟩ := K5.out.two
        clear hb
        go_wp2_with fail
        refine (c_implFracMul _ _ _ _ _).mono ?_
        intro e w6 hp
        obtain ⟨rfl, hb⟩ := op_at HT.out HZN.out HZD.out HY.out hp
        clear hp
        have J6 := Lib.hid (blk_b1 J5.out hb)
        have K6 := Lib.hid (blk_b1 K5.out hb)
        have O6 := Lib.hid (blk_b1 O5.out hb)
        have X6 := Lib.hid (blk_b1 X5.out hb)
        have P6 := Lib.hid (blk_b1 P5.out hb)
        have Q6 := Lib.hid (blk_n1 hb)
        have hB6 := bel1 hB5 hb
        have zJ6 := J6.out.lt
        have zK6 := K6.out.lt
        have zO6 := O6.out.lt
        have zX6 := X6.out.lt
        have zP6 := P6.out.lt
        have zQ6 := Q6.out.lt
        obtain ⟨cJ6, dJ6, _, _⟩ := J6.out.two
        obtain ⟨cO6, dO6, _, _⟩ := O6.out.two
        obtain ⟨cP6, dP6, _, _⟩ := P6.out.two
        clear hb
        go_wp2
        go_ret
        exact ⟨rfl, hB6.alloc hB6.size _⟩
    · have HO := Lib.hid hok
      clear hok
      go_wp2_with fail
      refine (c_implWaterSteps _ _ _ _ _ _).mono ?_
      intro e w2 hp
      obtain ⟨rfl, hb⟩ := st_bad HO.out hp
      clear hp
      have J2 := Lib.hid (blk_n2 hb)
      have K2 := Lib.hid (blk_n2' hb)
      have hB2 := bel2 hB1 hb
      have zJ2 := J2.out.lt
      have zK2 := K2.out.lt
      obtain ⟨cJ2, dJ2, _, _⟩ := J2.out.two
      obtain ⟨cK2, dK2, _, _⟩ := K2.out.two
      clear hb
      go_wp2_with fail
      refine (c_specWaterSteps _ _ _ _ _ _).mono ?_
      intro e w3 hp
      obtain ⟨rfl, hb⟩ := st_bad HO.out hp
      clear hp
      have J3 := Lib.hid (blk_b1 J2.out hb)
      have K3 := Lib.hid (blk_b1 K2.out hb)
      have O3 := Lib.hid (blk_n1 hb)
      have hB3 := bel1 hB2 hb
      have zJ3 := J3.out.lt
      have zK3 := K3.out.lt
      have zO3 := O3.out.lt
      obtain ⟨cO3, dO3, _, _⟩ := O3.out.two
      clear hb
      go_wp2
      go_ret
      exact ⟨rfl, hB3.alloc hB3.size _⟩
end Go.Proofs.Ytbbipieadjggkaa
