/-
  The walk of the law FnStackSum: it returns true and writes nothing that was there.
-/
import Derived.Test.YtbaplcdedijaeaaStackLawW
import Derived.Test.YtbaplcdedijaeaaStackSum
import Derived.Test.YtbaplcdedijaeaaStackDraws
import Derived.Test.YtbaplcdedijaeaaSameInts
import Derived.IntWalk
namespace Go.Proofs.Ytbaplcdedijaeaa
open Go.RowKit

def BkRel (rs : List RV) (w0 : World) (o i : Value) (wr : World) : Prop :=
  ∃ (k : Nat) (ks : List RV), k ≤ rs.length ∧ i = .int .i64 ((rs.length : Int) - 1 - k) ∧ OwnR wr w0.heap.size 29 o k ks ∧ ks = rs.reverse.take k ∧ Below w0.heap.size w0 wr
theorem rev_take {rs : List RV} {k j : Nat} (hk : k < rs.length) (hj : j = rs.length - 1 - k) : rs.reverse.take (k + 1) = rs.reverse.take k ++ [rv rs j] := by
  rw [List.take_succ_eq_append_getElem (by simpa using hk), rv_eq (by omega)]
  simp [hj]
def QRel (m : Nat) (w8 : World) (q : Value) (wr : World) : Prop := ∃ k : Nat, k ≤ m ∧ q = .int .i64 k ∧ ∃ t, wr = w8.drewN t
theorem vals_rev (rs : List RV) : vals rs.reverse = (vals rs).reverse := by simp [vals]
set_option maxHeartbeats 8000000 in
set_option maxRecDepth 4000 in
theorem walk_FnStackSum (A : Option Addr) (n c : Nat) (A' : Option Addr) (n' c' : Nat) (w : World) (h : RdB w A n) (hn : n ≤ maxLen) (hc : n ≤ c) (_h' : RdB w A' n') (hn' : n' ≤ maxLen) (_hc' : n' ≤ c') :
    Calls Try.prog 5 #[.slice A n c, .slice A' n' c'] w fun e w' => e = .returned (.bool true) ∧ Below w.heap.size w w' := by
  unfold maxLen at hn hn'
  have HB := Lib.hid h
  clear h
  obtain ⟨i0, hi, hz0, hz1, hz2⟩ := info_parts info_rowD
  have HI := Lib.hid hi
  have HZ0 := Lib.hid hz0
  have HZ1 := Lib.hid hz1
  have HZ2 := Lib.hid hz2
  obtain ⟨j0, hj, hy0, hy1, hy2⟩ := info_parts info_int
  have HJ := Lib.hid hj
  have HY0 := Lib.hid hy0
  have HY1 := Lib.hid hy1
  have HY2 := Lib.hid hy2
  clear hi hz0 hz1 hz2 hj hy0 hy1 hy2
  by_cases hbig : 1048576 < n
  · go_enter Try.func5, Try.ntmps5
    go_wp2
    go_ret
    exact ⟨rfl, Below.refl _ _⟩
  · have hd1 : decide ((1048576 : Int) < (n : Int)) = false := by simp; omega
    by_cases hbig' : 1048576 < n'
    · go_enter Try.func5, Try.ntmps5
      go_wp2
      go_ret
      exact ⟨rfl, Below.refl _ _⟩
    · have hd2 : decide ((1048576 : Int) < (n' : Int)) = false := by simp; omega
      go_enter Try.func5, Try.ntmps5
      go_wp2_with fail
      refine (c_DrawStackSum _ _ _ _ HB.out (by omega) hc).mono ?_
      rintro e w1 ⟨A1, n1, c1, rs, rfl, ⟨hn1, hc1, hr1, hh1, hl1⟩, hB1⟩
      have HR1 := Lib.hid hr1
      have HH1 := Lib.hid hh1
      have HS1 := Lib.hid (short8 hl1)
      have HL1 := Lib.hid (show (vals rs).length = n1 by rw [vals_len]; exact hr1.len)
      have hB11 : Below w1.heap.size w1 w1 := Below.refl _ _
      clear hr1 hh1 hl1
      go_wp2_with fail
      refine (c_implStackSum _ _ _ rs _ (by omega) HR1.out HS1.out).mono ?_
      rintro e w2 ⟨A2, n2, c2, rfl, hn2, hO2, hb⟩
      have HR2 := Lib.hid hO2.rd
      have hB2 := hB1.trans (hb.mono hB1.size)
      have hB12 := hB11.trans hb
      have hB22 : Below w2.heap.size w2 w2 := Below.refl _ _
      clear hO2 hb
      go_wp2_with fail
      refine (c_specStackSum _ _ _ rs _ (by omega) (HR1.out.below hB12) HS1.out).mono ?_
      rintro e w3 ⟨A3, n3, c3, rfl, hn3, hO3, hb⟩
      have HR3 := Lib.hid hO3.rd
      have hB3 := hB2.trans (hb.mono hB2.size)
      have hB13 := hB12.trans (hb.mono hB12.size)
      have hB23 := hB22.trans hb
      clear hO3 hb
      have HQ := Lib.hid (show eqI (sumV (vals rs)) (sumV (vals rs)) = true by simp [eqI])
      rcases Bool.eq_false_or_eq_true (vStack (vals rs)) with hv | hv
      · have HV := Lib.hid hv
        go_wp2_with fail
        refine (c_sameInts _ _ _ _ _ _ (sumV (vals rs)) (sumV (vals rs)) _ (by omega) (by omega) (HR2.out.below hB23) HR3.out).mono ?_
        intro e w4 hq
        obtain ⟨he, hb⟩ := hq.below
        rw [HQ.out] at he
        subst he
        have hB4 := hB3.trans (hb.mono hB3.size)
        have hB14 := hB13.trans (hb.mono hB13.size)
        have hB24 := hB23.trans (hb.mono hB23.size)
        have hB44 : Below w4.heap.size w4 w4 := Below.refl _ _
        have HR4 := Lib.hid (HR1.out.below hB14)
        have hrl : rs.length = n1 := HR4.out.len
        have hn6 : 1 ≤ n1 := by have := (vStack_yes hv).2.1; have := HL1.out; omega
        clear hb hq hv HR3
        go_wp2_with fail
        go_loopw [10, 11] (fun o q wr => BkRel rs w4 o q wr) (fun _ q _ => (intOf q + 1).toNat)
        case atStart => exact ⟨0, [], Nat.zero_le _, by rw [hrl]; go_num, OwnR.empty w4 _ (Nat.le_refl _), rfl, (Below.refl _ _).alloc (Nat.le_refl _) _⟩
        case round =>
          obtain ⟨k, ks, hk, rfl, hO, hks, hB⟩ := hrel
          rw [hrl] at hk ⊢
          have HO := Lib.hid hO
          have HKS := Lib.hid hks
          have hsz := hB.size
          clear hO hks
          have HRW := Lib.hid (HR4.out.below hB)
          by_cases hlt : k < n1
          · obtain ⟨j, hj⟩ : ∃ j : Nat, j = n1 - 1 - k := ⟨_, rfl⟩
            have hji : (n1 : Int) - 1 - (k : Int) = (j : Int) := by omega
            have hjr : j < rs.length := by omega
            have HT := Lib.hid (rev_take (rs := rs) (k := k) (j := j) (by omega) (by omega))
            rw [hji]
            obtain ⟨b, off, rfl, hb, hcl⟩ := HRW.out.at_ (by omega)
            have hcj := hcl j (by omega)
            have HRK := Lib.hid (HRW.out.row (show j < n1 by omega)).1
            have HCK := Lib.hid (HRW.out.row (show j < n1 by omega)).2
            have HAP := Lib.hid (old_apart (HR4.out.row (show j < n1 by omega)).1 (HH1.out _ (rv_mem hjr)) HO.out)
            have HHT := Lib.hid (HH1.out.sub (l := ks) fun r hr => List.mem_reverse.1 (List.mem_of_mem_take (by rw [HKS.out] at hr; exact hr)))
            have HJJ := Lib.hid hji
            have hjk : (k : Int) = (n1 : Int) - 1 - (j : Int) := by omega
            have hj0 : (0 : Int) ≤ (j : Int) := by omega
            have hj1 : (j : Int) < (n1 : Int) := by omega
            clear hcl hb hji hjk hj
            generalize rv rs j = r1 at *
            obtain ⟨RA, Rn, Rc, Rl⟩ := r1
            go_wp2_with (at_builtin; refine wpList_appendR1 (by rfl) _ _ 22 rfl w4.heap.size 29 i0 (.slice none 0 0) Try.underlying22 HI.out HZ0.out HZ1.out HZ2.out rfl _ k ks rfl (HO.out.alloc _) HHT.out wr.heap.size (RV.mk RA Rn Rc Rl) rfl (cell_newD wr _ _) (HRK.out.below ((Below.refl _ _).alloc (Nat.le_refl _) _)) HCK.out HAP.out (by omega) (by simp; omega) ?_; intro v' w5 hO5 hH5 hB5 _)
            have hji2 : (n1 : Int) - 1 - ((k + 1 : Nat) : Int) = (j : Int) - 1 := by have := HJJ.out; omega
            have HJ2 := Lib.hid hji2
            clear hji2
            go_roundw
            case rel => exact ⟨k + 1, _, by omega, by rw [hrl, HJ2.out], hO5, by rw [HT.out, HKS.out], (hB.alloc hsz _).trans hB5⟩
            case measure => simp [intOf]
          · obtain rfl : k = n1 := by omega
            have hdk : decide ((0 : Int) ≤ (k : Int) - 1 - (k : Int)) = false := by simp; omega
            obtain ⟨A5, c5, rfl, _⟩ := HO.out.form
            have HXR := Lib.hid (show RdR wr A5 k rs.reverse by
              have := HO.out.rdr
              rwa [HKS.out, List.take_of_length_le (by simp; omega)] at this)
            have HXS := Lib.hid (HS1.out.sub (l := rs.reverse) fun r hr => List.mem_reverse.1 hr)
            have HSR := Lib.hid (show sumV (vals rs.reverse) = sumV (vals rs) by rw [vals_rev, sumV_rev HV.out])
            have HVR := Lib.hid (show vStack (vals rs.reverse) = true by rw [vals_rev, vStack_rev HV.out])
            have hBr := hB4.trans (hB.mono hB4.size)
            have hB2r := hB24.trans (hB.mono hB24.size)
            clear HO hdk hB44
            have hdk : decide ((0 : Int) ≤ (k : Int) - 1 - (k : Int)) = false := by simp; omega
            go_wp2_with fail
            refine (c_implStackSum _ _ _ rs.reverse _ (by omega) HXR.out HXS.out).mono ?_
            rintro e w6 ⟨A6, n6, c6, he, hn7, hO6, hb⟩
            rw [HVR.out] at he
            subst he
            rw [HSR.out] at hO6
            have HX6 := Lib.hid hO6.rd
            have hB6 := hBr.trans (hb.mono hBr.size)
            have hB26 := hB2r.trans (hb.mono hB2r.size)
            have hB66 : Below w6.heap.size w6 w6 := Below.refl _ _
            have HR6 := Lib.hid (HRW.out.below hb)
            clear hO6 hb
            obtain ⟨m, hm, hmk⟩ : ∃ m : Nat, (n' : Int) % (k : Int) = (m : Int) ∧ m < k := ⟨n' % k, by push_cast; rfl, Nat.mod_lt _ (by omega)⟩
            by_cases hm0 : m = 0
            · subst hm0
              go_wp2_with fail
              refine (c_sameInts _ _ _ _ _ _ (sumV (vals rs)) (sumV (vals rs)) _ (by omega) (by omega) HX6.out (HR2.out.below hB26)).mono ?_
              intro e w7 hq
              obtain ⟨he, hb⟩ := hq.below
              rw [HQ.out] at he
              subst he
              have hB7 := hB6.trans (hb.mono hB6.size)
              clear hb hq
              go_wp2
              go_ret
              exact ⟨rfl, hB7⟩
            · have hm0' : ((m : Int) == 0) = false := by simp; omega
              obtain ⟨b, off, rfl, _, _⟩ := HR6.out.at_ (by omega)
              have hck : ¬ c1 = m := by omega
              have HTK := Lib.hid (HR6.out.take (k := m) (by omega))
              have HDR := Lib.hid (show RdR w6 (some ⟨b, off + m, none⟩) (k - m) (rs.drop m) from HR6.out.cut (by omega) hc1 _ (by rw [if_neg hck]; simp [add_none]))
              have HTS := Lib.hid (HS1.out.sub (l := rs.take m) fun r hr => List.mem_of_mem_take hr)
              have HDS := Lib.hid (HS1.out.sub (l := rs.drop m) fun r hr => List.mem_of_mem_drop hr)
              have HVT := Lib.hid (show vStack (vals (rs.take m)) = true by rw [vals_take]; exact vStack_take HV.out (by omega))
              have HVD := Lib.hid (show vStack (vals (rs.drop m)) = true by rw [vals_drop]; exact vStack_drop HV.out (by rw [HL1.out]; omega))
              have hpp := sumV_parts HV.out (show 1 ≤ m by omega) (show m < (vals rs).length by rw [HL1.out]; omega)
              rw [← vals_take, ← vals_drop] at hpp
              have HPP := Lib.hid hpp.2.2
              have HN2 := Lib.hid (show n2 = wide (vals rs) by rw [← sumV_len HV.out]; exact HR2.out.len.symm)
              obtain ⟨hp1, hp2, _⟩ := hpp
              have HP1 := Lib.hid hp1
              have HP2 := Lib.hid hp2
              clear hp1 hp2 HR4 HRW HXR
              go_wp2_with fail
              refine (c_implStackSum _ _ _ (rs.take m) _ (by omega) HTK.out HTS.out).mono ?_
              rintro e w7 ⟨A7, n7, c7, he, hn8, hO7, hb⟩
              rw [HVT.out] at he
              subst he
              have HX7 := Lib.hid hO7.rd
              have hB7 := hB6.trans (hb.mono hB6.size)
              have hB27 := hB26.trans (hb.mono hB26.size)
              have hB67 := hB66.trans hb
              have hB77 : Below w7.heap.size w7 w7 := Below.refl _ _
              clear hO7 hb
              go_wp2_with fail
              refine (c_implStackSum _ _ _ (rs.drop m) _ (by omega) (HDR.out.below hB67) HDS.out).mono ?_
              rintro e w8 ⟨A8, n8, c8, he, hn9, hO8, hb⟩
              rw [HVD.out] at he
              subst he
              have HX8 := Lib.hid hO8.rd
              have hB8 := hB7.trans (hb.mono hB7.size)
              have hB28 := hB27.trans (hb.mono hB27.size)
              have hB68 := hB67.trans (hb.mono hB67.size)
              have hB78 := hB77.trans hb
              clear hO8 hb
              obtain rfl : n7 = n2 := by have := HX7.out.len; have := HP1.out; have := HN2.out; omega
              obtain rfl : n8 = n7 := by have := HX8.out.len; have := HP2.out; have := HN2.out; omega
              have hw1 : 1 ≤ n8 := by have := (wide_bd HV.out).1; have := HN2.out; omega
              have HA := Lib.hid (HX7.out.below hB78)
              have HBQ := Lib.hid HX8.out
              have HC := Lib.hid (HR2.out.below hB28)
              have HD := Lib.hid (HX6.out.below hB68)
              obtain ⟨ba, oa, ea, hba, hca⟩ := HA.out.at_ hw1
              obtain ⟨bb, ob, eb, hbb, hcb⟩ := HBQ.out.at_ hw1
              obtain ⟨bc, oc, ec, hbc, hcc⟩ := HC.out.at_ hw1
              subst ea eb ec
              have HCA := Lib.hid hca
              have HCB := Lib.hid hcb
              have HCC := Lib.hid hcc
              clear hca hcb hcc HX7 HX8 HTK HDR
              have hnn : ((n8 : Int) != (n8 : Int)) = false := by simp
              go_wp2_with fail
              go_loopw [19] (fun q wr => QRel n8 w8 q wr) (fun q _ => n8 - (intOf q).toNat)
              case atStart => exact ⟨0, Nat.zero_le _, rfl, 0, rfl⟩
              case round =>
                obtain ⟨q, hq, rfl, t, hwr⟩ := hrel
                have HWR := Lib.hid hwr
                have HD9 := Lib.hid (show RdI wr A6 n6 (sumV (vals rs)) by rw [hwr]; exact HD.out.drewN t)
                have HC9 := Lib.hid (show RdI wr (some ⟨bc, oc, none⟩) n8 (sumV (vals rs)) by rw [hwr]; exact HC.out.drewN t)
                have hB9 : Below w.heap.size w wr := by rw [hwr]; exact below_drewK hB8
                by_cases hlq : q < n8
                · have hqa : wr.cell? ⟨ba, oa + q, none⟩ = some (.int .i64 (ix (sumV (vals (rs.take m))) q)) := by rw [hwr]; exact HCA.out q hlq
                  have hqb : wr.cell? ⟨bb, ob + q, none⟩ = some (.int .i64 (ix (sumV (vals (rs.drop m))) q)) := by rw [hwr]; exact HCB.out q hlq
                  have hqc : wr.cell? ⟨bc, oc + q, none⟩ = some (.int .i64 (ix (sumV (vals rs)) q)) := by rw [hwr]; exact HCC.out q hlq
                  have hsum := HPP.out q (by rw [← HN2.out]; exact hlq)
                  have hsb := sumV_bd HV.out (show q < wide (vals rs) by rw [← HN2.out]; exact hlq)
                  have hne : (wrap64 (ix (sumV (vals (rs.take m))) q + ix (sumV (vals (rs.drop m))) q) != ix (sumV (vals rs)) q) = false := by
                    rw [hsum, show wrap64 (ix (sumV (vals rs)) q) = ix (sumV (vals rs)) q by unfold wrap64; omega]; simp
                  have hq0 : (0 : Int) ≤ (q : Int) := by omega
                  have hq1 : (q : Int) < (n8 : Int) := by omega
                  clear hsum hsb hwr
                  generalize ix (sumV (vals (rs.take m))) q = xa at *
                  generalize ix (sumV (vals (rs.drop m))) q = xb at *
                  generalize ix (sumV (vals rs)) q = xc at *
                  go_wp2_with fail
                  go_quiet (fail)
                  go_wp2
                  go_roundw
                  case rel => exact ⟨q + 1, by omega, by go_num, t + nq, by rw [HWR.out, World.drewN_drewN]⟩
                  case measure => simp [intOf]; omega
                · obtain rfl : q = n8 := by omega
                  clear hwr
                  go_wp2_with fail
                  refine (c_sameInts _ _ _ _ _ _ (sumV (vals rs)) (sumV (vals rs)) _ (by omega) (by omega) HD9.out HC9.out).mono ?_
                  intro e w9 hq
                  obtain ⟨he, hb⟩ := hq.below
                  rw [HQ.out] at he
                  subst he
                  have hB10 := hB9.trans (hb.mono hB9.size)
                  clear hb hq
                  go_wp2
                  go_ret
                  exact ⟨rfl, hB10⟩
      · go_wp2_with fail
        refine (c_sameInts _ _ _ _ _ _ (sumV (vals rs)) (sumV (vals rs)) _ (by omega) (by omega) (HR2.out.below hB23) HR3.out).mono ?_
        intro e w4 hq
        obtain ⟨he, hb⟩ := hq.below
        rw [HQ.out] at he
        subst he
        have hB4 := hB3.trans (hb.mono hB3.size)
        have hB24 := hB23.trans (hb.mono hB23.size)
        have HR4 := Lib.hid (HR3.out.below hb)
        clear hb hq
        go_wp2_with fail
        refine (c_sameInts _ _ _ _ _ _ (sumV (vals rs)) (sumV (vals rs)) _ (by omega) (by omega) (HR2.out.below hB24) HR4.out).mono ?_
        intro e w5 hq
        obtain ⟨he, hb⟩ := hq.below
        rw [HQ.out] at he
        subst he
        have hB5 := hB4.trans (hb.mono hB4.size)
        clear hb hq
        go_wp2
        go_ret
        exact ⟨rfl, hB5⟩
end Go.Proofs.Ytbaplcdedijaeaa
