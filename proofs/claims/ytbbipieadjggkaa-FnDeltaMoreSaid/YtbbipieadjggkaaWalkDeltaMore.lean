/-
  The walk of the law FnDeltaMore: it returns true and writes nothing that was there.
-/
import Derived.Test.YtbbipieadjggkaaWaterA
import Derived.Test.YtbbipieadjggkaaIsoDrawD
import Derived.Test.YtbbipieadjggkaaLawWords
import Derived.Test.YtbbipieadjggkaaFracAddImpl
import Derived.Test.YtbbipieadjggkaaFracMulImpl
import Derived.Test.YtbbipieadjggkaaFracDivImpl
import Derived.Test.YtbbipieadjggkaaFracLessImpl
import Derived.Deep.RegionHeld3
namespace Go.Proofs.Ytbbipieadjggkaa
open Go.RowKit

set_option maxHeartbeats 4000000 in
theorem walk_FnDeltaMore (A : Option Addr) (n c : Nat) (w : World) (h : RdB w A n) (hn : n ≤ maxLen) (hc : n ≤ c) :
    Calls Try.prog 3 #[.slice A n c] w fun e w' => e = .returned (.bool true) ∧ Below w.heap.size w w' := by
  unfold maxLen at hn
  have HB := Lib.hid h
  clear h
  by_cases hbig : 1048576 < n
  · go_enter Try.func3, Try.ntmps3
    go_wp2
    go_ret
    exact ⟨rfl, Below.refl _ _⟩
  · have hd1 : decide ((1048576 : Int) < (n : Int)) = false := by simp; omega
    go_enter Try.func3, Try.ntmps3
    go_wp2_with fail
    refine (c_DrawWaterDelta _ _ _ _ HB.out (by omega) hc).mono ?_
    rintro e w1 ⟨a, h, sn, sd, rfl, a0, a9, h0, h9, s0, s9, d0, d9, hB1⟩
    rcases Bool.eq_false_or_eq_true (okO (vD a h sn sd) (dX a h sn sd) (a * sn)) with hok | hok
    · obtain ⟨N, D, hN, hD, hv, hk, hvf, hf, HO⟩ := op_val hok
      have HN := Lib.hid hN
      have HD := Lib.hid hD
      have HV := Lib.hid hv
      have HF := Lib.hid hk
      have HVF := Lib.hid hvf
      obtain ⟨n1, n2, n3, n4, _⟩ := vF_yes hvf
      clear hok hN hD hk hvf hv
      go_wp2_with fail
      refine (c_implWaterDelta _ _ _ _ _).mono ?_
      intro e w2 hp
      obtain ⟨rfl, hb⟩ := HO _ _ _ hp
      clear hp
      have J2 := Lib.hid (blk_n2 hb)
      have K2 := Lib.hid (blk_n2' hb)
      have hB2 := bel2 hB1 hb
      have zJ2 := J2.out.lt
      have zK2 := K2.out.lt
      obtain ⟨cJ2, dJ2, _, _⟩ := J2.out.two
      obtain ⟨cK2, dK2, _, _⟩ := K2.out.two
      clear hb
      go_wp2_with fail
      refine (c_specWaterDelta _ _ _ _ _).mono ?_
      intro e w3 hp
      obtain ⟨rfl, hb⟩ := HO _ _ _ hp
      clear hp HO
      have J3 := Lib.hid (blk_b1 J2.out hb)
      have K3 := Lib.hid (blk_b1 K2.out hb)
      have O3 := Lib.hid (blk_n1 hb)
      have hB3 := bel1 hB2 hb
      have zJ3 := J3.out.lt
      have zK3 := K3.out.lt
      have zO3 := O3.out.lt
      obtain ⟨cJ3, dJ3, _, _⟩ := J3.out.two
      obtain ⟨cK3, dK3, _, _⟩ := K3.out.two
      obtain ⟨cO3, dO3, _, _⟩ := O3.out.two
      clear hb
      rcases Bool.eq_false_or_eq_true (okO (vD a (h + 1) sn sd) (dX a (h + 1) sn sd) (a * sn)) with hok | hok
      · obtain ⟨N', D', hN, hD, hv, hk, _, _, HO⟩ := op_val hok
        obtain ⟨hv1, hs1, h1s⟩ := vD_yes HV.out
        have HE := Lib.hid (show lessF N D N' D' = true by rw [HN.out, HD.out, hN, hD]; exact delta_more hv1 hs1 h1s HF.out hk)
        clear hok hN hD hk hv hv1 hs1 h1s
        go_wp2_with fail
        refine (c_implWaterDelta _ _ _ _ _).mono ?_
        intro e w4 hp
        obtain ⟨rfl, hb⟩ := HO _ _ _ hp
        clear hp HO
        have O4 := Lib.hid (blk_b1 O3.out hb)
        have hB4 := bel1 hB3 hb
        have zO4 := O4.out.lt
        obtain ⟨cO4, dO4, _, _⟩ := O4.out.two
        clear hb
        go_wp2_with fail
        refine (c_implFracLess _ _ _ _ _).mono ?_
        rintro e w5 ⟨he, hb⟩
        rw [HE.out] at he
        subst he
        have hB5 := bel1 hB4 hb
        clear hb
        go_wp2
        go_ret
        exact ⟨rfl, hB5⟩
      · have HO := Lib.hid hok
        clear hok
        go_wp2_with fail
        refine (c_implWaterDelta _ _ _ _ _).mono ?_
        intro e w4 hp
        obtain ⟨rfl, hb⟩ := op_bad HO.out hp
        clear hp
        have O4 := Lib.hid (blk_b1 O3.out hb)
        have hB4 := bel1 hB3 hb
        have zO4 := O4.out.lt
        obtain ⟨cO4, dO4, _, _⟩ := O4.out.two
        clear hb
        go_wp2
        go_ret
        exact ⟨rfl, hB4.alloc hB4.size _⟩
    · have HO := Lib.hid hok
      clear hok
      go_wp2_with fail
      refine (c_implWaterDelta _ _ _ _ _).mono ?_
      intro e w2 hp
      obtain ⟨rfl, hb⟩ := op_bad HO.out hp
      clear hp
      have J2 := Lib.hid (blk_n2 hb)
      have K2 := Lib.hid (blk_n2' hb)
      have hB2 := bel2 hB1 hb
      have zJ2 := J2.out.lt
      have zK2 := K2.out.lt
      obtain ⟨cJ2, dJ2, _, _⟩ := J2.out.two
      obtain ⟨cK2, dK2, _, _⟩ := K2.out.two
      clear hb
      go_wp2_with fail
      refine (c_specWaterDelta _ _ _ _ _).mono ?_
      intro e w3 hp
      obtain ⟨rfl, hb⟩ := op_bad HO.out hp
      clear hp
      have J3 := Lib.hid (blk_b1 J2.out hb)
      have K3 := Lib.hid (blk_b1 K2.out hb)
      have O3 := Lib.hid (blk_n1 hb)
      have hB3 := bel1 hB2 hb
      have zJ3 := J3.out.lt
      have zK3 := K3.out.lt
      have zO3 := O3.out.lt
      obtain ⟨cO3, dO3, _, _⟩ := O3.out.two
      clear hb
      go_wp2
      go_ret
      exact ⟨rfl, hB3.alloc hB3.size _⟩
end Go.Proofs.Ytbbipieadjggkaa
