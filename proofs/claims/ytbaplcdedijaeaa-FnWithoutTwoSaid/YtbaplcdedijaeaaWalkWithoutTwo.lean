/-
  The walk of the law FnWithoutTwo: it returns true and writes nothing that was there.
-/
import Derived.Test.YtbaplcdedijaeaaStackLawW
import Derived.Test.YtbaplcdedijaeaaStackWithout
import Derived.Test.YtbaplcdedijaeaaStackDraws
import Derived.Test.YtbaplcdedijaeaaSameInts
namespace Go.Proofs.Ytbaplcdedijaeaa
open Go.RowKit

set_option maxHeartbeats 4000000 in
theorem walk_FnWithoutTwo (A : Option Addr) (n c : Nat) (w : World) (h : RdB w A n) (hn : n ≤ maxLen) (hc : n ≤ c) :
    Calls Try.prog 10 #[.slice A n c] w fun e w' => e = .returned (.bool true) ∧ Below w.heap.size w w' := by
  unfold maxLen at hn
  have HB := Lib.hid h
  clear h
  by_cases hbig : 1048576 < n
  · go_enter Try.func10, Try.ntmps10
    go_wp2
    go_ret
    exact ⟨rfl, Below.refl _ _⟩
  · have hd1 : decide ((1048576 : Int) < (n : Int)) = false := by simp; omega
    go_enter Try.func10, Try.ntmps10
    go_wp2_with fail
    refine (c_DrawStackWithout _ _ _ _ HB.out (by omega) hc).mono ?_
    rintro e w1 ⟨A1, n1, c1, rs, d, rfl, hd0, hd2, ⟨hn1, hc1, hr1, hh1, hl1⟩, hB1⟩
    have HR1 := Lib.hid hr1
    have HH1 := Lib.hid hh1
    have HS1 := Lib.hid (short8 hl1)
    have HL1 := Lib.hid (show (vals rs).length = n1 by rw [vals_len]; exact hr1.len)
    have hB11 : Below w1.heap.size w1 w1 := Below.refl _ _
    clear hr1 hh1 hl1
    go_wp2_with fail
    refine (c_implStackWithout _ _ _ rs d _ (by omega) HR1.out HS1.out).mono ?_
    rintro e w2 ⟨A2, n2, c2, rs2, rfl, hn2, hO2, hh2, hv2, hs2, hb⟩
    have HR2 := Lib.hid hO2.rdr
    have HC2 := Lib.hid hO2.cap
    have HH2 := Lib.hid hh2
    have HV2 := Lib.hid hv2
    have HS2 := Lib.hid hs2
    have hB2 := hB1.trans (hb.mono hB1.size)
    have hB12 := hB11.trans hb
    have hB22 : Below w2.heap.size w2 w2 := Below.refl _ _
    clear hO2 hh2 hv2 hs2 hb
    go_wp2_with fail
    refine (c_specStackWithout _ _ _ rs d _ (by omega) (HR1.out.below hB12) HS1.out).mono ?_
    rintro e w3 ⟨A3, n3, c3, rs3, rfl, hn3, hO3, hh3, hv3, hs3, hb⟩
    have HR3 := Lib.hid hO3.rdr
    have HV3 := Lib.hid hv3
    have HS3 := Lib.hid hs3
    have hB3 := hB2.trans (hb.mono hB2.size)
    have hB13 := hB12.trans (hb.mono hB12.size)
    have hB23 := hB22.trans hb
    clear hO3 hh3 hv3 hs3 hb
    have HQ := Lib.hid (show eqR (vals rs2) (vals rs3) = true by rw [HV2.out, HV3.out]; simp [eqR])
    rcases Bool.eq_false_or_eq_true (okW (vals rs) d) with hok | hok
    · obtain ⟨i, rfl⟩ : ∃ i : Nat, d = (i : Int) := ⟨d.toNat, by have := (okW_yes hok).2.1; omega⟩
      have HK := Lib.hid hok
      obtain ⟨hy1, hy2, hy3, hy4, hy5⟩ := okW_yes hok
      rw [HL1.out, Int.toNat_natCast] at hy3
      rw [HL1.out] at hy4 hy5
      have HY := Lib.hid hy1
      have HN2 := Lib.hid (show n2 = n1 - 1 by
        have := (woV_stack hok).2
        rw [← HV2.out, vals_len, HL1.out] at this
        have := HR2.out.len
        omega)
      clear hy1 hy2
      go_wp2_with fail
      refine (c_sameRows _ _ _ _ _ _ rs2 rs3 _ (by omega) (by omega) (HR2.out.below hB23) HR3.out HS2.out HS3.out).mono ?_
      intro e w4 hq
      obtain ⟨he, hb⟩ := hq.below
      rw [HQ.out] at he
      subst he
      have hB4 := hB3.trans (hb.mono hB3.size)
      have hB14 := hB13.trans (hb.mono hB13.size)
      have hB24 := hB23.trans (hb.mono hB23.size)
      clear hb hq HR3
      by_cases h3 : n1 < 3
      · have hn1e : ((n2 : Int) == (n1 : Int) - 1) = true := by have := HN2.out; simp; omega
        go_wp2
        go_ret
        exact ⟨rfl, hB4⟩
      · have h3' : decide ((n1 : Int) < 3) = false := by simp; omega
        by_cases h0 : i = 0
        · subst h0
          have HT := Lib.hid (two_ok (f := 1) (l := 0) HK.out (by rw [HL1.out]; omega) (.inl ⟨rfl, rfl, rfl⟩))
          have t1 := HT.out.1
          have t2 := HT.out.2.1
          have t3 := HT.out.2.2.1
          have HT4 := Lib.hid HT.out.2.2.2
          rw [← HV2.out] at t1
          go_wp2_with fail
          refine (c_implStackWithout _ _ _ rs2 0 _ (by omega) (HR2.out.below hB24) HS2.out).mono ?_
          rintro e w5 ⟨A5, n5, c5, rs5, rfl, hn5, hO5, hh5, hv5, hs5, hb⟩
          have HR5 := Lib.hid hO5.rdr
          have HV5 := Lib.hid hv5
          have HS5 := Lib.hid hs5
          have hB5 := hB4.trans (hb.mono hB4.size)
          have hB15 := hB14.trans (hb.mono hB14.size)
          have hB55 : Below w5.heap.size w5 w5 := Below.refl _ _
          clear hO5 hh5 hv5 hs5 hb
          go_wp2_with fail
          refine (c_implStackWithout _ _ _ rs 1 _ (by omega) (HR1.out.below hB15) HS1.out).mono ?_
          rintro e w6 ⟨A6, n6, c6, rs6, rfl, hn6, hO6, hh6, hv6, hs6, hb⟩
          have HR6 := Lib.hid hO6.rdr
          have HV6 := Lib.hid hv6
          have HS6 := Lib.hid hs6
          have hB6 := hB5.trans (hb.mono hB5.size)
          have hB56 := hB55.trans hb
          have t3' : okW (vals rs6) 0 = true := by rw [hv6]; exact t3
          clear hO6 hh6 hv6 hs6 hb
          go_wp2_with fail
          refine (c_implStackWithout _ _ _ rs6 0 _ (by omega) HR6.out HS6.out).mono ?_
          rintro e w7 ⟨A7, n7, c7, rs7, rfl, hn7, hO7, hh7, hv7, hs7, hb⟩
          have HR7 := Lib.hid hO7.rdr
          have HV7 := Lib.hid hv7
          have HS7 := Lib.hid hs7
          have hB7 := hB6.trans (hb.mono hB6.size)
          have hB57 := hB56.trans (hb.mono hB56.size)
          clear hO7 hh7 hv7 hs7 hb
          have HE := Lib.hid (show eqR (vals rs5) (vals rs7) = true by rw [HV5.out, HV7.out, HV6.out, HV2.out]; exact decide_eq_true HT4.out)
          go_wp2_with fail
          refine (c_sameRows _ _ _ _ _ _ rs5 rs7 _ (by omega) (by omega) (HR5.out.below hB57) HR7.out HS5.out HS7.out).mono ?_
          intro e w8 hq
          obtain ⟨he, hb⟩ := hq.below
          rw [HE.out] at he
          subst he
          have hB8 := hB7.trans (hb.mono hB7.size)
          clear hb hq
          go_wp2
          go_ret
          exact ⟨rfl, hB8⟩
        · have h0' : ((i : Int) == 0) = false := by simp; omega
          obtain ⟨j, rfl⟩ : ∃ j, i = j + 1 := ⟨i - 1, by omega⟩
          have hj : ((j + 1 : Nat) : Int) - 1 = (j : Int) := by omega
          have HT := Lib.hid (two_ok (f := 0) (l := j) HK.out (by rw [HL1.out]; omega) (.inr ⟨by omega, rfl, by omega⟩))
          have t1 := HT.out.1
          have t2 := HT.out.2.1
          have t3 := HT.out.2.2.1
          have HT4 := Lib.hid HT.out.2.2.2
          rw [← HV2.out] at t1
          go_wp2_with fail
          refine (c_implStackWithout _ _ _ rs2 0 _ (by omega) (HR2.out.below hB24) HS2.out).mono ?_
          rintro e w5 ⟨A5, n5, c5, rs5, rfl, hn5, hO5, hh5, hv5, hs5, hb⟩
          have HR5 := Lib.hid hO5.rdr
          have HV5 := Lib.hid hv5
          have HS5 := Lib.hid hs5
          have hB5 := hB4.trans (hb.mono hB4.size)
          have hB15 := hB14.trans (hb.mono hB14.size)
          have hB55 : Below w5.heap.size w5 w5 := Below.refl _ _
          clear hO5 hh5 hv5 hs5 hb
          go_wp2_with fail
          refine (c_implStackWithout _ _ _ rs 0 _ (by omega) (HR1.out.below hB15) HS1.out).mono ?_
          rintro e w6 ⟨A6, n6, c6, rs6, rfl, hn6, hO6, hh6, hv6, hs6, hb⟩
          have HR6 := Lib.hid hO6.rdr
          have HV6 := Lib.hid hv6
          have HS6 := Lib.hid hs6
          have hB6 := hB5.trans (hb.mono hB5.size)
          have hB56 := hB55.trans hb
          have t3' : okW (vals rs6) ((j : Nat) : Int) = true := by rw [hv6]; exact t3
          clear hO6 hh6 hv6 hs6 hb
          go_wp2_with fail
          refine (c_implStackWithout _ _ _ rs6 ((j : Nat) : Int) _ (by omega) HR6.out HS6.out).mono ?_
          rintro e w7 ⟨A7, n7, c7, rs7, rfl, hn7, hO7, hh7, hv7, hs7, hb⟩
          have HR7 := Lib.hid hO7.rdr
          have HV7 := Lib.hid hv7
          have HS7 := Lib.hid hs7
          have hB7 := hB6.trans (hb.mono hB6.size)
          have hB57 := hB56.trans (hb.mono hB56.size)
          clear hO7 hh7 hv7 hs7 hb
          have HE := Lib.hid (show eqR (vals rs5) (vals rs7) = true by rw [HV5.out, HV7.out, HV6.out, HV2.out]; exact decide_eq_true HT4.out)
          go_wp2_with fail
          refine (c_sameRows _ _ _ _ _ _ rs5 rs7 _ (by omega) (by omega) (HR5.out.below hB57) HR7.out HS5.out HS7.out).mono ?_
          intro e w8 hq
          obtain ⟨he, hb⟩ := hq.below
          rw [HE.out] at he
          subst he
          have hB8 := hB7.trans (hb.mono hB7.size)
          clear hb hq
          go_wp2
          go_ret
          exact ⟨rfl, hB8⟩
    · go_wp2_with fail
      refine (c_sameRows _ _ _ _ _ _ rs2 rs3 _ (by omega) (by omega) (HR2.out.below hB23) HR3.out HS2.out HS3.out).mono ?_
      intro e w4 hq
      obtain ⟨he, hb⟩ := hq.below
      rw [HQ.out] at he
      subst he
      have hB4 := hB3.trans (hb.mono hB3.size)
      have hB24 := hB23.trans (hb.mono hB23.size)
      have HR4 := Lib.hid (HR3.out.below hb)
      clear hb hq
      go_wp2_with fail
      refine (c_sameRows _ _ _ _ _ _ rs2 rs3 _ (by omega) (by omega) (HR2.out.below hB24) HR4.out HS2.out HS3.out).mono ?_
      intro e w5 hq
      obtain ⟨he, hb⟩ := hq.below
      rw [HQ.out] at he
      subst he
      have hB5 := hB4.trans (hb.mono hB4.size)
      clear hb hq
      go_wp2
      go_ret
      exact ⟨rfl, hB5⟩
end Go.Proofs.Ytbaplcdedijaeaa
