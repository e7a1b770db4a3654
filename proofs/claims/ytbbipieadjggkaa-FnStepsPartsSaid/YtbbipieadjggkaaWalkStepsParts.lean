/-
  The walk of the law FnStepsParts: it returns true and writes nothing that was there.
-/
import Derived.Test.YtbbipieadjggkaaStepsWords
import Derived.Test.YtbbipieadjggkaaDrawSteps
import Derived.Test.YtbbipieadjggkaaFracMulImpl
import Derived.Test.YtbbipieadjggkaaFracDivImpl
import Derived.Deep.RegionHeld3
namespace Go.Proofs.Ytbbipieadjggkaa
open Go.RowKit

set_option maxHeartbeats 8000000 in
theorem walk_FnStepsParts (A : Option Addr) (n c : Nat) (A' : Option Addr) (n' c' : Nat) (w : World) (h : RdB w A n) (hn : n ≤ maxLen) (hc : n ≤ c) (_h' : RdB w A' n') (hn' : n' ≤ maxLen) (_hc' : n' ≤ c') :
    Calls Try.prog 5 #[.slice A n c, .slice A' n' c'] w fun e w' => e = .returned (.bool true) ∧ Below w.heap.size w w' := by
  unfold maxLen at hn hn'
  have HB := Lib.hid h
  clear h _h'
  by_cases hbig : 1048576 < n
  · go_enter Try.func5, Try.ntmps5
    go_wp2
    go_ret
    exact ⟨rfl, Below.refl _ _⟩
  · have hd1 : decide ((1048576 : Int) < (n : Int)) = false := by simp; omega
    by_cases hbig' : 1048576 < n'
    · go_enter Try.func5, Try.ntmps5
      go_wp2
      go_ret
      exact ⟨rfl, Below.refl _ _⟩
    · have hd2 : decide ((1048576 : Int) < (n' : Int)) = false := by simp; omega
      go_enter Try.func5, Try.ntmps5
      go_wp2_with fail
      refine (c_DrawWaterSteps _ _ _ _ HB.out (by omega) hc).mono ?_
      rintro e w1 ⟨rn, rd, fn, fd, nn, rfl, _, _, _, _, _, _, _, _, _, _, hB1⟩
      rcases Bool.eq_false_or_eq_true (stV rn rd fn fd nn) with hok | hok
      · obtain ⟨m, rfl, hm, hr, hf, ho⟩ := stV_yes hok
        obtain ⟨N, hN⟩ : ∃ x, stN rn rd fn fd m = x := ⟨_, rfl⟩
        obtain ⟨D, hD⟩ : ∃ x, stD rn rd fn fd m = x := ⟨_, rfl⟩
        have HN := Lib.hid hN
        have HD := Lib.hid hD
        have HR := Lib.hid hr
        have HF := Lib.hid hf
        have HO := Lib.hid ho
        have HVF := Lib.hid (show vF N D = true by rw [← hN, ← hD]; exact st_vF hr ho)
        clear hok hr hf ho hN hD
        go_wp2_with fail
        refine (c_implWaterSteps _ _ _ _ _ _).mono ?_
        intro e w2 hp
        obtain ⟨rfl, hb⟩ := st_at rfl hm HR.out HF.out HO.out HN.out HD.out hp
        clear hp
        have J2 := Lib.hid (blk_n2 hb)
        have K2 := Lib.hid (blk_n2' hb)
        have hB2 := bel2 hB1 hb
        have zJ2 := J2.out.lt
        have zK2 := K2.out.lt
        obtain ⟨cJ2, dJ2, _, _⟩ := J2.out.two
        obtain ⟨cK2, dK2, _, _⟩ := K2.out.two
        clear hb
        go_wp2_with fail
        refine (c_specWaterSteps _ _ _ _ _ _).mono ?_
        intro e w3 hp
        obtain ⟨rfl, hb⟩ := st_at rfl hm HR.out HF.out HO.out HN.out HD.out hp
        clear hp
        have J3 := Lib.hid (blk_b1 J2.out hb)
        have K3 := Lib.hid (blk_b1 K2.out hb)
        have O3 := Lib.hid (blk_n1 hb)
        have hB3 := bel1 hB2 hb
        have zJ3 := J3.out.lt
        have zK3 := K3.out.lt
        have zO3 := O3.out.lt
        obtain ⟨cJ3, dJ3, _, _⟩ := J3.out.two
        obtain ⟨cK3, dK3, _, _⟩ := K3.out.two
        obtain ⟨cO3, dO3, _, _⟩ := O3.out.two
        clear hb
        obtain ⟨k, hk, hkm⟩ : ∃ k : Nat, (n' : Int) % ((m : Int) + 1) = (k : Int) ∧ k ≤ m := ⟨n' % (m + 1), by push_cast; rfl, by have := Nat.mod_lt n' (show 0 < m + 1 by omega); omega⟩
        obtain ⟨xN, hxN⟩ : ∃ x, stN rn rd fn fd k = x := ⟨_, rfl⟩
        obtain ⟨xD, hxD⟩ : ∃ x, stD rn rd fn fd k = x := ⟨_, rfl⟩
        have ha := st_add (rn := rn) (rd := rd) (fn := fn) (fd := fd) k (m - k)
        rw [show k + (m - k) = m by omega, hxN, hxD, HO.out, HN.out, HD.out] at ha
        obtain ⟨ha1, ha2, ha3⟩ := ha
        have hok1 := stO_le HO.out hkm
        rw [hok1, Bool.true_and] at ha1
        have HK := Lib.hid hok1
        have HVX := Lib.hid (show vF xN xD = true by rw [← hxN, ← hxD]; exact st_vF HR.out hok1)
        have HA1 := Lib.hid ha1.symm
        have HA2 := Lib.hid ha2.symm
        have HA3 := Lib.hid ha3.symm
        have HXN := Lib.hid hxN
        have HXD := Lib.hid hxD
        clear ha1 ha2 ha3 hxN hxD hok1
        go_wp2_with fail
        refine (c_implWaterSteps _ _ _ _ _ _).mono ?_
        intro e w4 hp
        obtain ⟨rfl, hb⟩ := st_at (m := k) rfl (by omega) HR.out HF.out HK.out HXN.out HXD.out hp
        clear hp
        have J4 := Lib.hid (blk_b1 J3.out hb)
        have K4 := Lib.hid (blk_b1 K3.out hb)
        have O4 := Lib.hid (blk_b1 O3.out hb)
        have X4 := Lib.hid (blk_n1 hb)
        have hB4 := bel1 hB3 hb
        have zJ4 := J4.out.lt
        have zK4 := K4.out.lt
        have zO4 := O4.out.lt
        have zX4 := X4.out.lt
        obtain ⟨cK4, dK4, _, _⟩ := K4.out.two
        clear hb
        go_wp2_with fail
        refine (c_implWaterSteps _ _ _ _ _ _).mono ?_
        intro e w5 hp
        obtain ⟨rfl, hb⟩ := st_at (m := m - k) (by omega) (by omega) HVX.out HF.out HA1.out HA2.out HA3.out hp
        clear hp
        have J5 := Lib.hid (blk_b1 J4.out hb)
        have K5 := Lib.hid (blk_b1 K4.out hb)
        have O5 := Lib.hid (blk_b1 O4.out hb)
        have X5 := Lib.hid (blk_b1 X4.out hb)
        have P5 := Lib.hid (blk_n1 hb)
        have hB5 := bel1 hB4 hb
        have zJ5 := J5.out.lt
        have zK5 := K5.out.lt
        have zO5 := O5.out.lt
        have zX5 := X5.out.lt
        have zP5 := P5.out.lt
        obtain ⟨cO5, dO5, _, _⟩ := O5.out.two
        clear hb
        go_wp2
        go_ret
        exact ⟨rfl, hB5.alloc hB5.size _⟩
      · have HO := Lib.hid hok
        clear hok
        go_wp2_with fail
        refine (c_implWaterSteps _ _ _ _ _ _).mono ?_
        intro e w2 hp
        obtain ⟨rfl, hb⟩ := st_bad HO.out hp
        clear hp
        have J2 := Lib.hid (blk_n2 hb)
        have K2 := Lib.hid (blk_n2' hb)
        have hB2 := bel2 hB1 hb
        have zJ2 := J2.out.lt
        have zK2 := K2.out.lt
        obtain ⟨cJ2, dJ2, _, _⟩ := J2.out.two
        obtain ⟨cK2, dK2, _, _⟩ := K2.out.two
        clear hb
        go_wp2_with fail
        refine (c_specWaterSteps _ _ _ _ _ _).mono ?_
        intro e w3 hp
        obtain ⟨rfl, hb⟩ := st_bad HO.out hp
        clear hp
        have J3 := Lib.hid (blk_b1 J2.out hb)
        have K3 := Lib.hid (blk_b1 K2.out hb)
        have O3 := Lib.hid (blk_n1 hb)
        have hB3 := bel1 hB2 hb
        have zJ3 := J3.out.lt
        have zK3 := K3.out.lt
        have zO3 := O3.out.lt
        obtain ⟨cO3, dO3, _, _⟩ := O3.out.two
        clear hb
        go_wp2
        go_ret
        exact ⟨rfl, hB3.alloc hB3.size _⟩
end Go.Proofs.Ytbbipieadjggkaa
