/-
  The walk of the law FnFarShift: it returns true and writes nothing that was there.
-/
import Derived.Test.YtbaplcdedijaeaaStackLawW
import Derived.Test.YtbaplcdedijaeaaStackFar
import Derived.Test.YtbaplcdedijaeaaStackDraws
namespace Go.Proofs.Ytbaplcdedijaeaa
open Go.RowKit

def ShRel (L : List (List Int)) (w0 : World) (o i : Value) (wr : World) : Prop :=
  ∃ (k : Nat) (xs : List RV), k ≤ L.length ∧ i = .int .i64 k ∧ OwnR wr w0.heap.size 29 o k xs ∧ OwnAll wr w0.heap.size xs ∧ vals xs = (up3s L).take k ∧ Short xs ∧ Below w0.heap.size w0 wr
def ShIn (l : List Int) (W0 : World) (o i : Value) (wr : World) : Prop :=
  ∃ q : Nat, q ≤ l.length ∧ i = .int .i64 q ∧ OwnI wr W0.heap.size 3 o q ((up3 l).take q) ∧ Below W0.heap.size W0 wr
theorem up3_take {l : List Int} {q : Nat} (h : q < l.length) : (up3 l).take (q + 1) = (up3 l).take q ++ [ix l q + 3] := by
  rw [List.take_succ_eq_append_getElem (by simpa [up3] using h), ix_eq h]
  simp [up3]
theorem up3s_take {L : List (List Int)} {k : Nat} {xs : List RV} {r : RV} (h : vals xs = (up3s L).take k) (hk : k < L.length) (hr : r.l = up3 (rw_ L k)) : vals (xs ++ [r]) = (up3s L).take (k + 1) := by
  rw [List.take_succ_eq_append_getElem (by simpa [up3s] using hk), vals_app, h]
  congr 1
  simp [vals, up3s, hr, rw_eq hk]
set_option maxHeartbeats 4000000 in
theorem walk_FnFarShift (A : Option Addr) (n c : Nat) (w : World) (h : RdB w A n) (hn : n ≤ maxLen) (hc : n ≤ c) :
    Calls Try.prog 7 #[.slice A n c] w fun e w' => e = .returned (.bool true) ∧ Below w.heap.size w w' := by
  unfold maxLen at hn
  have HB := Lib.hid h
  clear h
  obtain ⟨i0, hi, hz0, hz1, hz2⟩ := info_parts info_rowD
  have HI := Lib.hid hi
  have HZ0 := Lib.hid hz0
  have HZ1 := Lib.hid hz1
  have HZ2 := Lib.hid hz2
  obtain ⟨j0, hj, hy0, hy1, hy2⟩ := info_parts info_int
  have HJ := Lib.hid hj
  have HY0 := Lib.hid hy0
  have HY1 := Lib.hid hy1
  have HY2 := Lib.hid hy2
  clear hi hz0 hz1 hz2 hj hy0 hy1 hy2
  by_cases hbig : 1048576 < n
  · go_enter Try.func7, Try.ntmps7
    go_wp2
    go_ret
    exact ⟨rfl, Below.refl _ _⟩
  · have hd1 : decide ((1048576 : Int) < (n : Int)) = false := by simp; omega
    go_enter Try.func7, Try.ntmps7
    go_wp2_with fail
    refine (c_DrawStackFar _ _ _ _ HB.out (by omega) hc).mono ?_
    rintro e w1 ⟨A1, n1, c1, rs, d, rfl, hd0, hd2, ⟨hn1, hc1, hr1, hh1, hl1⟩, hB1⟩
    have HR1 := Lib.hid hr1
    have HS1 := Lib.hid (short8 hl1)
    have HL8 := Lib.hid hl1
    have HL1 := Lib.hid (show (vals rs).length = n1 by rw [vals_len]; exact hr1.len)
    have hB11 : Below w1.heap.size w1 w1 := Below.refl _ _
    clear hr1 hh1 hl1
    have hnef : (farV (vals rs) d != farV (vals rs) d) = false := by simp
    have heqf : (farV (vals rs) d == farV (vals rs) d) = true := by simp
    go_wp2_with fail
    refine (c_implStackFar _ _ _ rs d _ (by omega) HR1.out HS1.out).mono ?_
    rintro e w2 ⟨rfl, hb⟩
    have HR2 := Lib.hid (HR1.out.below hb)
    have hB2 := hB1.trans (hb.mono hB1.size)
    clear hb HR1
    go_wp2_with fail
    refine (c_specStackFar _ _ _ rs d _ (by omega) HR2.out HS1.out).mono ?_
    rintro e w3 ⟨rfl, hb⟩
    have HR3 := Lib.hid (HR2.out.below hb)
    have hB3 := hB2.trans (hb.mono hB2.size)
    clear hb HR2
    rcases Bool.eq_false_or_eq_true (okI (vals rs) d) with hok | hok
    · have HK := Lib.hid hok
      have h' := hok
      rw [okI, Bool.and_eq_true] at h'
      obtain ⟨hv, h2⟩ := h'
      have hbd := inB_true h2
      obtain ⟨i, rfl⟩ : ∃ i : Nat, d = (i : Int) := ⟨d.toNat, by omega⟩
      have hpos := farV_pos hok
      have HV := Lib.hid hv
      obtain ⟨f, hf⟩ : ∃ f, farV (vals rs) (i : Int) = f := ⟨_, rfl⟩
      rw [hf] at hnef heqf hpos ⊢
      have HFV := Lib.hid hf
      have hd0' : decide (f < 0) = false := by simp; omega
      clear hok h2 hv hf hbd
      go_wp2_with fail
      go_loopw [7, 8] (fun o q wr => ShRel (vals rs) w3 o q wr) (fun _ q _ => n1 - (intOf q).toNat)
      case atStart => exact ⟨0, [], Nat.zero_le _, rfl, OwnR.empty w3 _ (Nat.le_refl _), OwnAll.nil, rfl, (fun i hi => absurd hi (by simp)), (Below.refl _ _).alloc (Nat.le_refl _) _⟩
      case round =>
        obtain ⟨k, xs, hk, rfl, hO, hA, hv, hS, hB⟩ := hrel
        rw [HL1.out] at hk
        have HO := Lib.hid hO
        have HA := Lib.hid hA
        have HXV := Lib.hid hv
        have HSX := Lib.hid hS
        have hsz := hB.size
        clear hO hA hv hS
        have HRW := Lib.hid (HR3.out.below hB)
        by_cases hlt : k < n1
        · have hkr : k < rs.length := by have := HR3.out.len; omega
          have hkl : k < (vals rs).length := by have := HL1.out; omega
          have HWK := Lib.hid (rw_vals hkr)
          have hn8 := HL8.out _ (rv_mem hkr)
          have HNK := Lib.hid (HRW.out.row hlt).1.len
          have HVR := Lib.hid (vRow_yes ((vStack_yes HV.out).1 k hkl).1).1
          obtain ⟨b, off, rfl, hb, hcl⟩ := HRW.out.at_ (by omega)
          have hck0 := hcl k hlt
          have HRK := Lib.hid (HRW.out.row hlt).1
          clear hcl
          have hk0 : (0 : Int) ≤ (k : Int) := by omega
          have hk1 : (k : Int) < (n1 : Int) := by omega
          rw [HWK.out] at HVR
          generalize rv rs k = r1 at *
          obtain ⟨RA, Rn, Rc, Rl⟩ := r1
          obtain ⟨W0, hW0⟩ : ∃ W0, W0 = wr := ⟨_, rfl⟩
          subst hW0
          go_wp2_with fail
          go_loopw [9, 10] (fun o q wr => ShIn Rl W0 o q wr) (fun _ q _ => Rn - (intOf q).toNat)
          case atStart => exact ⟨0, Nat.zero_le _, rfl, OwnI.empty W0 3 (Nat.le_refl _), (Below.refl _ _).alloc (Nat.le_refl _) _⟩
          case round =>
            obtain ⟨q, hq, rfl, hO, hBi⟩ := hrel
            rw [show Rl.length = Rn from HNK.out] at hq
            have HNX := Lib.hid hO
            have hck := cell_keepD hBi hck0 hb
            have hszi := hBi.size
            clear hO
            by_cases hlq : q < Rn
            · obtain ⟨b2, off2, e2, hb2, hc2⟩ := HRK.out.at_ (show 0 < Rn by omega)
              have e2' : RA = some ⟨b2, off2, none⟩ := e2
              subst e2'
              have hcq := cell_keepD hBi (hc2 q hlq) hb2
              have hbx := HVR.out q (by rw [show Rl.length = Rn from HNK.out]; exact hlq)
              have HT := Lib.hid (up3_take (l := Rl) (q := q) (by rw [show Rl.length = Rn from HNK.out]; exact hlq))
              obtain ⟨x, hx⟩ : ∃ x, ix Rl q = x := ⟨_, rfl⟩
              have hx' : ix (RV.l ⟨some ⟨b2, off2, none⟩, Rn, Rc, Rl⟩) q = x := hx
              rw [hx] at hbx
              rw [hx'] at hcq
              have HX := Lib.hid hx
              obtain ⟨x0, x1⟩ := hbx
              have hq0 : (0 : Int) ≤ (q : Int) := by omega
              have hq1 : (q : Int) < (Rn : Int) := by omega
              clear hc2 hx hx' e2
              go_wp2_with (at_builtin; refine wpList_appendI (by rfl) _ _ 29 rfl W0.heap.size 3 j0 (.int .i64 0) Try.underlying29 HJ.out HY0.out HY1.out HY2.out rfl _ q ((up3 Rl).take q) rfl (HNX.out.alloc _) ⟨wr.heap.size, 0, none⟩ (x + 3) rfl (cell_1 _ _ _) (by omega) (by simp; omega) ?_; intro v' w5 hO5 hB5)
              go_roundw
              case rel => exact ⟨q + 1, by rw [show Rl.length = Rn from HNK.out]; omega, by go_num, by rw [HT.out, HX.out]; exact hO5, (hBi.alloc hszi _).trans hB5⟩
              case measure => simp [intOf]; omega
            · obtain rfl : q = Rn := by omega
              obtain ⟨An, cn, rfl, hcn, _⟩ := HNX.out.form
              have HNW := Lib.hid (show OwnI wr w3.heap.size 3 (slv (RV.mk An q cn (up3 Rl))) q (up3 Rl) from by
                have e : (up3 Rl).take q = up3 Rl := List.take_of_length_le (by simp [up3, show Rl.length = q from HNK.out])
                rw [← e]
                exact HNX.out.down hsz)
              have HOI := Lib.hid (HO.out.below hBi)
              have HAI := Lib.hid (HA.out.below hBi)
              have HVX := Lib.hid (up3s_take (r := RV.mk An q cn (up3 Rl)) HXV.out hkl (by rw [HWK.out]))
              have hBW := hB.trans (hBi.mono hsz)
              have hszw := hBW.size
              have HSS := Lib.hid (Short.app HSX.out (short1 (r := RV.mk An q cn (up3 Rl)) (show q ≤ 2000000 by have : q ≤ 8 := hn8; omega)))
              clear HNX HO HA
              go_wp2_with (at_builtin; refine wpList_appendO (by rfl) _ _ 22 rfl w3.heap.size i0 (.slice none 0 0) Try.underlying22 HI.out HZ0.out HZ1.out HZ2.out rfl _ k xs rfl (HOI.out.alloc _) w3.heap.size (HAI.out.alloc _) wr.heap.size (RV.mk An q cn (up3 Rl)) rfl (cell_newD wr _ _) (HNW.out.below ((Below.refl _ _).alloc (Nat.le_refl _) _)) (by omega) (by simp; omega) ?_; intro v' w5 hO5 hA5 hB5 hG5)
              go_roundw
              case rel => exact ⟨k + 1, _, by rw [HL1.out]; omega, by go_num, hO5, hA5, HVX.out, HSS.out, (hBW.alloc hszw _).trans hB5⟩
              case measure => simp [intOf]; omega
        · obtain rfl : k = n1 := by omega
          obtain ⟨A4, c4, rfl, _⟩ := HO.out.form
          have HXX := Lib.hid (show vals xs = up3s (vals rs) by rw [HXV.out, List.take_of_length_le (by simp [up3s, HL1.out])])
          have HRX := Lib.hid HO.out.rdr
          have hBr := hB3.trans (hB.mono hB3.size)
          clear HO HA HXV
          go_wp2_with fail
          refine (c_implStackFar _ _ _ xs (i : Int) _ (by omega) HRX.out HSX.out).mono ?_
          rintro e w6 ⟨he, hb⟩
          rw [HXX.out] at he
          have HR6 := Lib.hid (HRX.out.below hb)
          have hB6 := hBr.trans (hb.mono hBr.size)
          clear hb
          rcases farV_up3 HK.out with ⟨hv, hf⟩ | ⟨hv, hf⟩
          · rw [hf, HFV.out] at he
            subst he
            clear hv hf
            go_wp2
            go_ret
            exact ⟨rfl, hB6⟩
          · rw [hf] at he
            subst he
            have HVN := Lib.hid hv
            have hne : ((-1 : Int) == f) = false := by simp; omega
            clear hv hf
            go_wp2_with fail
            refine (c_implStackValid _ _ _ xs _ (by omega) HR6.out HSX.out).mono ?_
            rintro e w' ⟨he, rfl⟩
            rw [HXX.out, HVN.out] at he
            subst he
            go_wp2
            go_ret
            exact ⟨rfl, hB6⟩
    · rw [farV_no hok] at hnef heqf ⊢
      go_wp2
      go_ret
      exact ⟨rfl, hB3⟩
end Go.Proofs.Ytbaplcdedijaeaa
