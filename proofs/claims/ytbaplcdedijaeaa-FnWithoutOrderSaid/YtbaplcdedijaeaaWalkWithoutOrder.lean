/-
  The walk of the law FnWithoutOrder: it returns true and writes nothing that was there.
-/
import Derived.Test.YtbaplcdedijaeaaStackLawW
import Derived.Test.YtbaplcdedijaeaaStackWithout
import Derived.Test.YtbaplcdedijaeaaStackDraws
import Derived.Test.YtbaplcdedijaeaaSameInts
namespace Go.Proofs.Ytbaplcdedijaeaa
open Go.RowKit

set_option maxHeartbeats 4000000 in
theorem walk_FnWithoutOrder (A : Option Addr) (n c : Nat) (w : World) (h : RdB w A n) (hn : n ≤ maxLen) (hc : n ≤ c) :
    Calls Try.prog 9 #[.slice A n c] w fun e w' => e = .returned (.bool true) ∧ Below w.heap.size w w' := by
  unfold maxLen at hn
  have HB := Lib.hid h
  clear h
  obtain ⟨i0, hi, hz0, hz1, hz2⟩ := info_parts info_rowD
  have HI := Lib.hid hi
  have HZ0 := Lib.hid hz0
  have HZ1 := Lib.hid hz1
  have HZ2 := Lib.hid hz2
  clear hi hz0 hz1 hz2
  by_cases hbig : 1048576 < n
  · go_enter Try.func9, Try.ntmps9
    go_wp2
    go_ret
    exact ⟨rfl, Below.refl _ _⟩
  · have hd1 : decide ((1048576 : Int) < (n : Int)) = false := by simp; omega
    go_enter Try.func9, Try.ntmps9
    go_wp2_with fail
    refine (c_DrawStackWithout _ _ _ _ HB.out (by omega) hc).mono ?_
    rintro e w1 ⟨A1, n1, c1, rs, d, rfl, hd0, hd2, ⟨hn1, hc1, hr1, hh1, hl1⟩, hB1⟩
    have HR1 := Lib.hid hr1
    have HH1 := Lib.hid hh1
    have HS1 := Lib.hid (short8 hl1)
    have HL1 := Lib.hid (show (vals rs).length = n1 by rw [vals_len]; exact hr1.len)
    have hB11 : Below w1.heap.size w1 w1 := Below.refl _ _
    clear hr1 hh1 hl1
    go_wp2_with fail
    refine (c_implStackWithout _ _ _ rs d _ (by omega) HR1.out HS1.out).mono ?_
    rintro e w2 ⟨A2, n2, c2, rs2, rfl, hn2, hO2, hh2, hv2, hs2, hb⟩
    have HR2 := Lib.hid hO2.rdr
    have HC2 := Lib.hid hO2.cap
    have HH2 := Lib.hid hh2
    have HV2 := Lib.hid hv2
    have HS2 := Lib.hid hs2
    have hB2 := hB1.trans (hb.mono hB1.size)
    have hB12 := hB11.trans hb
    have hB22 : Below w2.heap.size w2 w2 := Below.refl _ _
    clear hO2 hh2 hv2 hs2 hb
    go_wp2_with fail
    refine (c_specStackWithout _ _ _ rs d _ (by omega) (HR1.out.below hB12) HS1.out).mono ?_
    rintro e w3 ⟨A3, n3, c3, rs3, rfl, hn3, hO3, hh3, hv3, hs3, hb⟩
    have HR3 := Lib.hid hO3.rdr
    have HV3 := Lib.hid hv3
    have HS3 := Lib.hid hs3
    have hB3 := hB2.trans (hb.mono hB2.size)
    have hB13 := hB12.trans (hb.mono hB12.size)
    have hB23 := hB22.trans hb
    clear hO3 hh3 hv3 hs3 hb
    have HQ := Lib.hid (show eqR (vals rs2) (vals rs3) = true by rw [HV2.out, HV3.out]; simp [eqR])
    rcases Bool.eq_false_or_eq_true (okW (vals rs) d) with hok | hok
    · obtain ⟨i, rfl⟩ : ∃ i : Nat, d = (i : Int) := ⟨d.toNat, by have := (okW_yes hok).2.1; omega⟩
      have HK := Lib.hid hok
      obtain ⟨hy1, hy2, hy3, hy4, hy5⟩ := okW_yes hok
      rw [HL1.out, Int.toNat_natCast] at hy3
      rw [HL1.out] at hy4 hy5
      have HY := Lib.hid hy1
      have HN2 := Lib.hid (show n2 = n1 - 1 by
        have := (woV_stack hok).2
        rw [← HV2.out, vals_len, HL1.out] at this
        have := HR2.out.len
        omega)
      clear hy1 hy2
      go_wp2_with fail
      refine (c_sameRows _ _ _ _ _ _ rs2 rs3 _ (by omega) (by omega) (HR2.out.below hB23) HR3.out HS2.out HS3.out).mono ?_
      intro e w4 hq
      obtain ⟨he, hb⟩ := hq.below
      rw [HQ.out] at he
      subst he
      have hB4 := hB3.trans (hb.mono hB3.size)
      have hB14 := hB13.trans (hb.mono hB13.size)
      have hB24 := hB23.trans (hb.mono hB23.size)
      clear hb hq HR3
      have HR4 := Lib.hid (HR2.out.below hB24)
      have HR14 := Lib.hid (HR1.out.below hB14)
      have hi0 : (0 : Int) ≤ (i : Int) := by omega
      have hi1 : (i : Int) < (n1 : Int) := by omega
      have hin2 : i ≤ n2 := by have := HN2.out; omega
      have hcc2 := HC2.out
      have HX := Lib.hid (HR4.out.take hin2)
      have HXH := Lib.hid (HH2.out.sub (l := rs2.take i) fun r hr => List.mem_of_mem_take hr)
      have HYH := Lib.hid (HH2.out.sub (l := rs2.drop i) fun r hr => List.mem_of_mem_drop hr)
      have HSX := Lib.hid (HS2.out.sub (l := rs2.take i) fun r hr => List.mem_of_mem_take hr)
      have HSY := Lib.hid (HS2.out.sub (l := rs2.drop i) fun r hr => List.mem_of_mem_drop hr)
      obtain ⟨b2, off2, rfl, _, _⟩ := HR4.out.at_ (show 0 < n2 by have := HN2.out; omega)
      have hlen1 : i < rs.length := by have := HR1.out.len; omega
      have hln2 : rs2.length = n2 := HR2.out.len
      obtain ⟨b, off, rfl, hb, hcl⟩ := HR14.out.at_ (by omega)
      have hci := hcl i (by omega)
      have HRK := Lib.hid (HR14.out.row (show i < n1 by omega))
      have HMK := Lib.hid (rv_mem hlen1)
      have HF := Lib.hid (show vals (rs2.take i ++ [rv rs i] ++ rs2.drop i) = vals rs by
        rw [vals_app, vals_app, vals_take, vals_drop, HV2.out, woV_yes HK.out, Int.toNat_natCast]
        have := wo_order (L := vals rs) (i := i) (by rw [HL1.out]; omega)
        rw [rw_vals hlen1] at this
        exact this)
      have HS1I := Lib.hid (HS1.out i hlen1)
      clear hcl
      have hl0 := HX.out.len
      have hB44 : Below w4.heap.size w4 w4 := Below.refl _ _
      generalize rv rs i = r1 at *
      obtain ⟨R1A, R1n, R1c, R1l⟩ := r1
      clear HR2 hbig
      have HHR := Lib.hid (show 0 < R1n → ∃ g, R1A = some ⟨g, 0, none⟩ from HH1.out _ HMK.out)
      by_cases hck : c2 = i
      · have HY2 := Lib.hid (show RdR w4 (some ⟨b2, off2, none⟩) (n2 - i) (rs2.drop i) from HR4.out.cut hin2 hcc2 _ (by rw [if_pos hck]))
        have HLD := Lib.hid HY2.out.len
        go_wp2_with (first | (at_builtin; refine wpList_appendRR (by rfl) _ _ 22 rfl w4.heap.size 29 i0 (.slice none 0 0) Try.underlying22 HI.out HZ0.out HZ1.out HZ2.out rfl _ 0 [] rfl (OwnR.empty w4 29 (Nat.le_refl _)) Heads.nil _ i _ (rs2.take i) rfl hl0 (cells_of (HX.out.below ((Below.refl _ _).alloc (Nat.le_refl _) _))) (HX.out.below ((Below.refl _ _).alloc (Nat.le_refl _) _)).rows HXH.out (fun _ => apart_new HX.out.rows HXH.out) (by omega) (by simp) ?_; intro v5 w5 hO5 hB5 hG5; have HO5 := Lib.hid (own_copyR hO5); have hB45 : Below w4.heap.size w4 w5 := ((Below.refl _ _).alloc (Nat.le_refl _) _).trans hB5; have hc5 := cell_keepD hB45 hci hb; have HRK5 := Lib.hid (HRK.out.1.below hB45); have HRH5 := Lib.hid (old_apart HRK.out.1 HHR.out HO5.out); have HRC5 := Lib.hid HRK.out.2; have HYY := Lib.hid (HY2.out.below hB45); have hz5 := hB45.size; clear hO5 hB5 hG5) | (at_builtin; refine wpList_appendR1 (by rfl) _ _ 22 rfl w4.heap.size 29 i0 (.slice none 0 0) Try.underlying22 HI.out HZ0.out HZ1.out HZ2.out rfl _ i (rs2.take i) rfl (HO5.out.alloc _) HXH.out w5.heap.size (RV.mk R1A R1n R1c R1l) rfl (cell_newD w5 _ _) (HRK5.out.below ((Below.refl _ _).alloc (Nat.le_refl _) _)) HRC5.out HRH5.out (by omega) (by simp; omega) ?_; intro v6 w6 hO6 hH6 hB6 _; have HO6 := Lib.hid hO6; have HH6 := Lib.hid hH6; have hB46 : Below w4.heap.size w4 w6 := (hB45.alloc hz5 _).trans hB6; have HY6 := Lib.hid (HY2.out.below hB46); have hz6 := hB46.size; clear hO6 hH6 hB6) | (at_builtin; refine wpList_appendRR (by rfl) _ _ 22 rfl w4.heap.size 29 i0 (.slice none 0 0) Try.underlying22 HI.out HZ0.out HZ1.out HZ2.out rfl _ (i + 1) (rs2.take i ++ [RV.mk R1A R1n R1c R1l]) rfl HO6.out HH6.out _ (n2 - i) _ (rs2.drop i) rfl HLD.out (cells_of HY6.out) HY6.out.rows HYH.out (fun h0 => absurd h0 (by omega)) (by omega) hz6 ?_; intro v7 w7 hO7 hB7 _; have HO7 := Lib.hid hO7; have hB47 := hB46.trans hB7; clear hO7 hB7; obtain ⟨A7, c7, rfl, _⟩ := HO7.out.form))
        have HR7 := Lib.hid HO7.out.rdr
        have HSH7 := Lib.hid ((HSX.out.app (short1 (r := RV.mk R1A R1n R1c R1l) HS1I.out)).app HSY.out)
        have HE7 := Lib.hid (show eqR (vals (rs2.take i ++ [RV.mk R1A R1n R1c R1l] ++ rs2.drop i)) (vals rs) = true from decide_eq_true HF.out)
        clear HO7
        refine (c_sameRows _ _ _ _ _ _ _ rs _ (by omega) (by omega) HR7.out (HR14.out.below hB47) HSH7.out HS1.out).mono ?_
        intro e w8 hq
        obtain ⟨he, hb8⟩ := hq.below
        rw [HE7.out] at he
        subst he
        have hB8 := (hB4.trans (hB47.mono hB4.size)).trans (hb8.mono (hB4.trans (hB47.mono hB4.size)).size)
        clear hb8 hq
        go_wp2
        go_ret
        exact ⟨rfl, hB8⟩
      · have HY2 := Lib.hid (show RdR w4 (some ⟨b2, off2 + i, none⟩) (n2 - i) (rs2.drop i) from HR4.out.cut hin2 hcc2 _ (by rw [if_neg hck]; simp [add_none]))
        have HLD := Lib.hid HY2.out.len
        go_wp2_with (first | (at_builtin; refine wpList_appendRR (by rfl) _ _ 22 rfl w4.heap.size 29 i0 (.slice none 0 0) Try.underlying22 HI.out HZ0.out HZ1.out HZ2.out rfl _ 0 [] rfl (OwnR.empty w4 29 (Nat.le_refl _)) Heads.nil _ i _ (rs2.take i) rfl hl0 (cells_of (HX.out.below ((Below.refl _ _).alloc (Nat.le_refl _) _))) (HX.out.below ((Below.refl _ _).alloc (Nat.le_refl _) _)).rows HXH.out (fun _ => apart_new HX.out.rows HXH.out) (by omega) (by simp) ?_; intro v5 w5 hO5 hB5 hG5; have HO5 := Lib.hid (own_copyR hO5); have hB45 : Below w4.heap.size w4 w5 := ((Below.refl _ _).alloc (Nat.le_refl _) _).trans hB5; have hc5 := cell_keepD hB45 hci hb; have HRK5 := Lib.hid (HRK.out.1.below hB45); have HRH5 := Lib.hid (old_apart HRK.out.1 HHR.out HO5.out); have HRC5 := Lib.hid HRK.out.2; have HYY := Lib.hid (HY2.out.below hB45); have hz5 := hB45.size; clear hO5 hB5 hG5) | (at_builtin; refine wpList_appendR1 (by rfl) _ _ 22 rfl w4.heap.size 29 i0 (.slice none 0 0) Try.underlying22 HI.out HZ0.out HZ1.out HZ2.out rfl _ i (rs2.take i) rfl (HO5.out.alloc _) HXH.out w5.heap.size (RV.mk R1A R1n R1c R1l) rfl (cell_newD w5 _ _) (HRK5.out.below ((Below.refl _ _).alloc (Nat.le_refl _) _)) HRC5.out HRH5.out (by omega) (by simp; omega) ?_; intro v6 w6 hO6 hH6 hB6 _; have HO6 := Lib.hid hO6; have HH6 := Lib.hid hH6; have hB46 : Below w4.heap.size w4 w6 := (hB45.alloc hz5 _).trans hB6; have HY6 := Lib.hid (HY2.out.below hB46); have hz6 := hB46.size; clear hO6 hH6 hB6) | (at_builtin; refine wpList_appendRR (by rfl) _ _ 22 rfl w4.heap.size 29 i0 (.slice none 0 0) Try.underlying22 HI.out HZ0.out HZ1.out HZ2.out rfl _ (i + 1) (rs2.take i ++ [RV.mk R1A R1n R1c R1l]) rfl HO6.out HH6.out _ (n2 - i) _ (rs2.drop i) rfl HLD.out (cells_of HY6.out) HY6.out.rows HYH.out (fun h0 => absurd h0 (by omega)) (by omega) hz6 ?_; intro v7 w7 hO7 hB7 _; have HO7 := Lib.hid hO7; have hB47 := hB46.trans hB7; clear hO7 hB7; obtain ⟨A7, c7, rfl, _⟩ := HO7.out.form))
        have HR7 := Lib.hid HO7.out.rdr
        have HSH7 := Lib.hid ((HSX.out.app (short1 (r := RV.mk R1A R1n R1c R1l) HS1I.out)).app HSY.out)
        have HE7 := Lib.hid (show eqR (vals (rs2.take i ++ [RV.mk R1A R1n R1c R1l] ++ rs2.drop i)) (vals rs) = true from decide_eq_true HF.out)
        clear HO7
        refine (c_sameRows _ _ _ _ _ _ _ rs _ (by omega) (by omega) HR7.out (HR14.out.below hB47) HSH7.out HS1.out).mono ?_
        intro e w8 hq
        obtain ⟨he, hb8⟩ := hq.below
        rw [HE7.out] at he
        subst he
        have hB8 := (hB4.trans (hB47.mono hB4.size)).trans (hb8.mono (hB4.trans (hB47.mono hB4.size)).size)
        clear hb8 hq
        go_wp2
        go_ret
        exact ⟨rfl, hB8⟩
    · go_wp2_with fail
      refine (c_sameRows _ _ _ _ _ _ rs2 rs3 _ (by omega) (by omega) (HR2.out.below hB23) HR3.out HS2.out HS3.out).mono ?_
      intro e w4 hq
      obtain ⟨he, hb⟩ := hq.below
      rw [HQ.out] at he
      subst he
      have hB4 := hB3.trans (hb.mono hB3.size)
      have hB24 := hB23.trans (hb.mono hB23.size)
      have HR4 := Lib.hid (HR3.out.below hb)
      clear hb hq
      go_wp2_with fail
      refine (c_sameRows _ _ _ _ _ _ rs2 rs3 _ (by omega) (by omega) (HR2.out.below hB24) HR4.out HS2.out HS3.out).mono ?_
      intro e w5 hq
      obtain ⟨he, hb⟩ := hq.below
      rw [HQ.out] at he
      subst he
      have hB5 := hB4.trans (hb.mono hB4.size)
      clear hb hq
      go_wp2
      go_ret
      exact ⟨rfl, hB5⟩
end Go.Proofs.Ytbaplcdedijaeaa
