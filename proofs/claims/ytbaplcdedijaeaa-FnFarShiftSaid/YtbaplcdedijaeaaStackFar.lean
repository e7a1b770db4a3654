/-
  Contracts of StackFar, of the program and of the reference.
-/
import Derived.Test.YtbaplcdedijaeaaStackSum
import Derived.IntWalk
namespace Go.Proofs.Ytbaplcdedijaeaa
open Go.RowKit

def FarPost (L : List (List Int)) (i : Int) (w : World) (e : Ending) (w' : World) : Prop := e = .returned (.int .i64 (farV L i)) ∧ Below w.heap.size w w'
theorem far_no {L : List (List Int)} {i : Int} {w W : World} (h : okI L i = false) (hB : Below w.heap.size w W) : FarPost L i w (.returned (.int .i64 (-1))) W := ⟨by simp [farV, h], hB⟩
theorem far_yes {L : List (List Int)} {i : Nat} {w W : World} {x : Int} (h : okI L i = true) (hx : x = farP L i (wide L)) (hB : Below w.heap.size w W) : FarPost L (i : Int) w (.returned (.int .i64 x)) W := ⟨by simp [farV, h, hx], hB⟩
theorem far_abs (x : Int) : (x < -x → max x (-x) = -x) ∧ (¬ x < -x → max x (-x) = x) := by constructor <;> intro h <;> omega

set_option maxHeartbeats 2000000 in
theorem c_implStackFar (A : Option Addr) (n c : Nat) (rs : List RV) (i : Int) (w : World) (hn : n ≤ 2000000) (h : RdR w A n rs) (hs : Short rs) :
    Calls Try.prog 22 #[.slice A n c, .int .i64 i] w (FarPost (vals rs) i w) := by
  have HR := Lib.hid h
  have HL := Lib.hid (show (vals rs).length = n by rw [vals_len]; exact h.len)
  have HS := Lib.hid hs
  clear h hs
  rcases Bool.eq_false_or_eq_true (vStack (vals rs)) with hv | hv
  · have HV := Lib.hid hv
    by_cases hi0 : i < 0
    · have HK := Lib.hid (show okI (vals rs) i = false by simp [okI, inB_not (show i < 0 ∨ (((vals rs).length : Int) - 1) < i from .inl hi0)])
      clear hv
      go_enter Try.func22, Try.ntmps22
      go_wp2_with fail
      refine (c_implStackSum _ _ _ rs _ hn HR.out HS.out).mono ?_
      rintro e w1 ⟨A1, n1, c1, he, hn1, hO1, hb⟩
      rw [HV.out] at he
      subst he
      clear hO1
      go_wp2
      go_ret
      exact far_no HK.out hb
    · have hd0 : decide (i < 0) = false := by simp; omega
      obtain ⟨i, rfl⟩ : ∃ m : Nat, i = (m : Int) := ⟨i.toNat, by omega⟩
      by_cases hin : n ≤ i
      · have HK := Lib.hid (show okI (vals rs) i = false by have := HL.out; simp [okI, inB_not (show (i : Int) < 0 ∨ (((vals rs).length : Int) - 1) < i from .inr (by omega))])
        clear hv
        go_enter Try.func22, Try.ntmps22
        go_wp2_with fail
        refine (c_implStackSum _ _ _ rs _ hn HR.out HS.out).mono ?_
        rintro e w1 ⟨A1, n1, c1, he, hn1, hO1, hb⟩
        rw [HV.out] at he
        subst he
        clear hO1
        go_wp2
        go_ret
        exact far_no HK.out hb
      · have hdn : decide ((n : Int) ≤ (i : Int)) = false := by simp; omega
        have hlt : i < n := by omega
        have hil : i < (vals rs).length := by have := HL.out; omega
        have HK := Lib.hid (show okI (vals rs) i = true by rw [okI, hv, inB_of (by omega) (by omega)]; rfl)
        obtain ⟨hy, hn1, hn6⟩ := vStack_yes hv
        have HY := Lib.hid hy
        have HW := Lib.hid (wide_bd hv)
        have h6 : n ≤ 6 := by have := HL.out; omega
        have hir : i < rs.length := by have := HR.out.len; omega
        have HWK := Lib.hid (rw_vals hir)
        have hrk := (HR.out.row hlt).1
        obtain ⟨m, hm⟩ : ∃ m, (rv rs i).n = m := ⟨_, rfl⟩
        have HMW := Lib.hid (show wide (vals rs) = m by
          have e := (hy i hil).2
          rw [HWK.out, hrk.len, hm] at e
          exact e.symm)
        have HM := Lib.hid hm
        have hm1 : 1 ≤ m := by have := HW.out; have := HMW.out; omega
        have hm20 : m ≤ 20 := by have := HW.out; have := HMW.out; omega
        clear hv hy hn1 hn6 hrk hm
        go_enter Try.func22, Try.ntmps22
        go_wp2_with fail
        refine (c_implStackSum _ _ _ rs _ hn HR.out HS.out).mono ?_
        rintro e w1 ⟨A1, n1, c1, he, hn1, hO1, hb⟩
        rw [HV.out] at he
        subst he
        have HSU := Lib.hid (show RdI w1 A1 n1 (sums (vals rs)) by
          have := hO1.rd
          rwa [sumV, if_pos HV.out] at this)
        obtain rfl : n1 = m := by
          have := HSU.out.len
          rw [sums_len, HMW.out] at this
          exact this.symm
        have HRW := Lib.hid (HR.out.below hb)
        have hB := hb
        clear hO1 hb
        obtain ⟨b, off, rfl, hb0, hc⟩ := HRW.out.at_ (by omega)
        have hck := hc i hlt
        rw [HM.out] at hck
        obtain ⟨b2, off2, e2, hb2, hc2⟩ := (HRW.out.row hlt).1.at_ (by rw [HM.out]; omega)
        rw [e2] at hck
        rw [HM.out] at hc2
        have HC2 := Lib.hid hc2
        obtain ⟨b3, off3, rfl, hb3, hc3⟩ := HSU.out.at_ (by omega)
        have HC3 := Lib.hid hc3
        clear hc hc2 hc3 e2
        go_wp2_with fail
        go_loop [7, 33] (fun f q => ∃ k : Nat, k ≤ n1 ∧ q = .int .i64 k ∧ f = .int .i64 (farP (vals rs) i k)) (fun _ q => n1 - (intOf q).toNat)
        case atStart => exact ⟨0, Nat.zero_le _, rfl, rfl⟩
        case round =>
          obtain ⟨k, hk, rfl, rfl⟩ := hrel
          by_cases hlk : k < n1
          · have hcx := HC2.out k hlk
            have hcs := HC3.out k hlk
            have hkw : k < wide (vals rs) := by rw [HMW.out]; exact hlk
            rw [sums_ix hkw] at hcs
            obtain ⟨m1, m2, m3, m4⟩ := far_step HV.out hil hkw
            rw [HWK.out, HL.out] at m1 m2
            have hbx := (vRow_yes (HY.out i hil).1).1 k (by rw [HWK.out, (HRW.out.row hlt).1.len, HM.out]; exact hlk)
            rw [HWK.out] at hbx
            obtain ⟨x0, x1⟩ := hbx
            obtain ⟨f0, f1⟩ := farP_bd HV.out hil (show k ≤ wide (vals rs) by omega)
            obtain ⟨a1, a2⟩ := far_abs ((n : Int) * ix (rv rs i).l k - sumAt (vals rs) k)
            have HP := Lib.hid (show farP (vals rs) i (k + 1) = farP (vals rs) i k + max ((n : Int) * ix (rv rs i).l k - sumAt (vals rs) k) (-((n : Int) * ix (rv rs i).l k - sumAt (vals rs) k)) by rw [farP, HWK.out, HL.out])
            by_cases hab : (n : Int) * ix (rv rs i).l k - sumAt (vals rs) k < -((n : Int) * ix (rv rs i).l k - sumAt (vals rs) k)
            · have HX := Lib.hid (a1 hab)
              clear a1 a2
              go_wp2
              go_round
              case rel => exact ⟨k + 1, by omega, by go_num, by rw [HP.out, HX.out]⟩
              case measure => simp [intOf]; omega
            · have HX := Lib.hid (a2 hab)
              clear a1 a2
              go_wp2
              go_round
              case rel => exact ⟨k + 1, by omega, by go_num, by rw [HP.out, HX.out]⟩
              case measure => simp [intOf]; omega
          · obtain rfl : k = n1 := by omega
            have HE := Lib.hid (show farP (vals rs) i k = farP (vals rs) i (wide (vals rs)) by rw [HMW.out])
            go_wp2
            go_ret
            exact far_yes HK.out HE.out hB
  · have HV := Lib.hid hv
    have HK := Lib.hid (show okI (vals rs) i = false by simp [okI, hv])
    clear hv
    go_enter Try.func22, Try.ntmps22
    go_wp2_with fail
    refine (c_implStackSum _ _ _ rs _ hn HR.out HS.out).mono ?_
    rintro e w1 ⟨A1, n1, c1, he, hn1, hO1, hb⟩
    rw [HV.out] at he
    subst he
    clear hO1
    go_wp2
    go_ret
    exact far_no HK.out hb

set_option maxHeartbeats 400000 in
theorem c_l2Abs (a : Int) (w : World) (h0 : -4000000000000000000 ≤ a) (h1 : a ≤ 4000000000000000000) :
    Calls Try.prog 41 #[.int .i64 a] w fun e w' => e = .returned (.int .i64 (max a (-a))) ∧ w = w' := by
  by_cases hx : a < 0 - a
  all_goals
    go_enter Try.func41, Try.ntmps41
    go_wp2
    go_ret
    exact ⟨ret_int (by omega), rfl⟩

set_option maxHeartbeats 2000000 in
theorem c_specStackFar (A : Option Addr) (n c : Nat) (rs : List RV) (i : Int) (w : World) (hn : n ≤ 2000000) (h : RdR w A n rs) (hs : Short rs) :
    Calls Try.prog 21 #[.slice A n c, .int .i64 i] w (FarPost (vals rs) i w) := by
  have HR := Lib.hid h
  have HL := Lib.hid (show (vals rs).length = n by rw [vals_len]; exact h.len)
  have HS := Lib.hid hs
  clear h hs
  rcases Bool.eq_false_or_eq_true (vStack (vals rs)) with hv | hv
  · have HV := Lib.hid hv
    rcases Bool.eq_false_or_eq_true (inB i 0 ((n : Int) - 1)) with hin | hin
    · have HIN := Lib.hid hin
      obtain ⟨hi0, hi1⟩ := inB_true hin
      obtain ⟨i, rfl⟩ : ∃ m : Nat, i = (m : Int) := ⟨i.toNat, by omega⟩
      have hlt : i < n := by omega
      have hil : i < (vals rs).length := by have := HL.out; omega
      have HK := Lib.hid (show okI (vals rs) i = true by rw [okI, hv, HL.out, hin]; rfl)
      obtain ⟨hy, hn1, hn6⟩ := vStack_yes hv
      have HY := Lib.hid hy
      have HW := Lib.hid (wide_bd hv)
      have h6 : n ≤ 6 := by have := HL.out; omega
      have hir : i < rs.length := by have := HR.out.len; omega
      have HWK := Lib.hid (rw_vals hir)
      have hrk := (HR.out.row hlt).1
      obtain ⟨m, hm⟩ : ∃ m, (rv rs i).n = m := ⟨_, rfl⟩
      have HMW := Lib.hid (show wide (vals rs) = m by
        have e := (hy i hil).2
        rw [HWK.out, hrk.len, hm] at e
        exact e.symm)
      have HM := Lib.hid hm
      have HM0 := Lib.hid (show (rv rs 0).n = m by
        have e := (HR.out.row (show 0 < n by omega)).1.len
        rw [← e, ← rw_vals (by omega)]
        exact HMW.out)
      have hm1 : 1 ≤ m := by have := HW.out; have := HMW.out; omega
      have hm20 : m ≤ 20 := by have := HW.out; have := HMW.out; omega
      have hz1 : (0 : Int) < (n : Int) := by omega
      clear hv hin hy hn1 hn6 hrk hm
      go_enter Try.func21, Try.ntmps21
      go_wp2_with fail
      refine (c_specStackValid _ _ _ rs _ hn HR.out HS.out).mono ?_
      rintro e w1 ⟨he, hb⟩
      rw [HV.out] at he
      subst he
      have HR1 := Lib.hid (HR.out.below hb)
      have hB1 := hb
      clear hb
      go_wp2_with fail
      refine (c_l6In _ _ _ _).mono ?_
      rintro e w' ⟨he, rfl⟩
      rw [HIN.out] at he
      subst he
      go_wp2_with fail
      go_loopw [5, 6] (fun f q wr => ∃ k : Nat, k ≤ m ∧ q = .int .i64 k ∧ f = .int .i64 (farP (vals rs) i k) ∧ Below w.heap.size w wr) (fun _ q _ => m - (intOf q).toNat)
      case atStart => exact ⟨0, Nat.zero_le _, rfl, rfl, hB1⟩
      case round =>
        obtain ⟨k, hk, rfl, rfl, hB⟩ := hrel
        have HRW := Lib.hid (HR.out.below hB)
        obtain ⟨b, off, rfl, hb0, hc⟩ := HRW.out.at_ (by omega)
        have hc0 := hc 0 (by omega)
        rw [Nat.add_zero, HM0.out] at hc0
        have hck := hc i hlt
        rw [HM.out] at hck
        obtain ⟨b2, off2, e2, hb2, hc2⟩ := (HRW.out.row hlt).1.at_ (by rw [HM.out]; omega)
        rw [e2] at hck
        rw [HM.out] at hc2
        have HC2 := Lib.hid hc2
        clear hc hc2 e2
        by_cases hlk : k < m
        · have hcx := HC2.out k hlk
          have hkw : k < wide (vals rs) := by rw [HMW.out]; exact hlk
          have hk0 : (0 : Int) ≤ (k : Int) := by omega
          have hk1 : (k : Int) < (m : Int) := by omega
          have hj0 : (0 : Int) ≤ (i : Int) := by omega
          have hj1 : (i : Int) < (n : Int) := by omega
          obtain ⟨m1, m2, m3, m4⟩ := far_step HV.out hil hkw
          rw [HWK.out, HL.out] at m1 m2
          have hbx := (vRow_yes (HY.out i hil).1).1 k (by rw [HWK.out, (HRW.out.row hlt).1.len, HM.out]; exact hlk)
          rw [HWK.out] at hbx
          obtain ⟨x0, x1⟩ := hbx
          obtain ⟨f0, f1⟩ := farP_bd HV.out hil (show k ≤ wide (vals rs) by omega)
          have HP := Lib.hid (show farP (vals rs) i (k + 1) = farP (vals rs) i k + max ((n : Int) * ix (rv rs i).l k - sumAt (vals rs) k) (-((n : Int) * ix (rv rs i).l k - sumAt (vals rs) k)) by rw [farP, HWK.out, HL.out])
          have hab0 : -4000000000000000000 ≤ (n : Int) * ix (rv rs i).l k - sumAt (vals rs) k := by omega
          have hab1 : (n : Int) * ix (rv rs i).l k - sumAt (vals rs) k ≤ 4000000000000000000 := by omega
          have hsum : farP (vals rs) i k + max ((n : Int) * ix (rv rs i).l k - sumAt (vals rs) k) (-((n : Int) * ix (rv rs i).l k - sumAt (vals rs) k)) ≤ 4000000000000000000 ∧ -4000000000000000000 ≤ farP (vals rs) i k + max ((n : Int) * ix (rv rs i).l k - sumAt (vals rs) k) (-((n : Int) * ix (rv rs i).l k - sumAt (vals rs) k)) := by omega
          obtain ⟨t0, t1⟩ := hsum
          have HRK := Lib.hid HRW.out
          have e3 : IntKind.i64.wrap (farP (vals rs) i k + max ((n : Int) * ix (rv rs i).l k - sumAt (vals rs) k) (-((n : Int) * ix (rv rs i).l k - sumAt (vals rs) k))) = farP (vals rs) i k + max ((n : Int) * ix (rv rs i).l k - sumAt (vals rs) k) (-((n : Int) * ix (rv rs i).l k - sumAt (vals rs) k)) := IntWalk.i64_in _ ⟨by omega, by omega⟩
          have e2 : IntKind.i64.wrap ((n : Int) * ix (rv rs i).l k - sumAt (vals rs) k) = (n : Int) * ix (rv rs i).l k - sumAt (vals rs) k := by clear e3; exact IntWalk.i64_in _ ⟨by omega, by omega⟩
          have e1 : IntKind.i64.wrap ((n : Int) * ix (rv rs i).l k) = (n : Int) * ix (rv rs i).l k := by clear e2 e3; exact IntWalk.i64_in _ ⟨by omega, by omega⟩
          clear t0 t1
          go_wp2_with fail
          go_quiet (first | (go_at_call 40; exact quiet_of (c_l41Sum _ _ _ rs k _ (HRK.out.drewN _) HV.out hkw)) | (go_at_call 41; exact quiet_of (c_l2Abs _ _ hab0 hab1)))
          clear e1 e2 e3
          go_wp2
          go_roundw
          case rel => exact ⟨k + 1, by omega, by go_num, by rw [HP.out], below_drewK hB⟩
          case measure => simp [intOf]; omega
        · obtain rfl : k = m := by omega
          have HE := Lib.hid (show farP (vals rs) i k = farP (vals rs) i (wide (vals rs)) by rw [HMW.out])
          go_wp2
          go_ret
          exact far_yes HK.out HE.out hB
    · have HIN := Lib.hid hin
      have HK := Lib.hid (show okI (vals rs) i = false by rw [okI, HL.out, hin, Bool.and_false])
      clear hv hin
      go_enter Try.func21, Try.ntmps21
      go_wp2_with fail
      refine (c_specStackValid _ _ _ rs _ hn HR.out HS.out).mono ?_
      rintro e w1 ⟨he, hb⟩
      rw [HV.out] at he
      subst he
      go_wp2_with fail
      refine (c_l6In _ _ _ _).mono ?_
      rintro e w' ⟨he, rfl⟩
      rw [HIN.out] at he
      subst he
      go_wp2
      go_ret
      exact far_no HK.out hb
  · have HV := Lib.hid hv
    have HK := Lib.hid (show okI (vals rs) i = false by simp [okI, hv])
    clear hv
    go_enter Try.func21, Try.ntmps21
    go_wp2_with fail
    refine (c_specStackValid _ _ _ rs _ hn HR.out HS.out).mono ?_
    rintro e w1 ⟨he, hb⟩
    rw [HV.out] at he
    subst he
    go_wp2
    go_ret
    exact far_no HK.out hb
end Go.Proofs.Ytbaplcdedijaeaa
