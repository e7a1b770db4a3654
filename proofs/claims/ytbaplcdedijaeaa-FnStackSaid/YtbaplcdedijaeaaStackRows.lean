/-
  Contracts of isRow, l13Row, StackValid and l41Sum.
-/
import Derived.Test.YtbaplcdedijaeaaStackMath
import Derived.Test.YtbaplcdedijaeaaIn
import Derived.Handy
import Derived.IntWalk
import Derived.Deep.QuietTactic
import Derived.BigQuiet
namespace Go.Proofs.Ytbaplcdedijaeaa
open Go.RowKit

theorem quiet_of {P : Program} {f : FuncId} {args : Array Value} {w : World} {n : Nat} {v : Value}
    (h : Calls P f args (w.drewN n) fun e w' => e = .returned v ∧ w.drewN n = w') : Calls P f args (w.drewN n) fun e w'' => e = .returned v ∧ ∃ m, w'' = w.drewN m :=
  h.mono fun _ _ ⟨he, hm⟩ => ⟨he, n, hm.symm⟩
theorem below_drewK {B n : Nat} {a w : World} (h : Below B a w) : Below B a (w.drewN n) := ⟨h.os, h.tape, h.output, h.size, h.block⟩
theorem RdI.drewN {w : World} {A : Option Addr} {n : Nat} {l : List Int} (h : RdI w A n l) (m : Nat) : RdI (w.drewN m) A n l := ⟨h.len, h.at_⟩
theorem RdR.drewN {w : World} {A : Option Addr} {n : Nat} {rs : List RV} (h : RdR w A n rs) (m : Nat) : RdR (w.drewN m) A n rs := ⟨h.len, h.at_, fun r hr => ⟨(h.rows r hr).1.drewN m, (h.rows r hr).2⟩⟩
theorem rw_vals {rs : List RV} {i : Nat} (h : i < rs.length) : rw_ (vals rs) i = (rv rs i).l := by
  rw [rw_eq (by rwa [vals_len])]
  exact vals_at h
theorem inR_of {x : Int} (h1 : -10000 ≤ x) (h2 : x ≤ 10000) : inR x = true := inB_of h1 h2
theorem inR_not {x : Int} (h : x < -10000 ∨ 10000 < x) : inR x = false := inB_not h

set_option maxHeartbeats 800000 in
theorem c_isRow (A : Option Addr) (n c : Nat) (l : List Int) (w : World) (hn : n ≤ 2000000) (h : RdI w A n l) :
    Calls Try.prog 36 #[.slice A n c] w fun e w' => e = .returned (.bool (vRow l)) ∧ w = w' := by
  have HL := Lib.hid h.len
  have HA := Lib.hid h.at_
  clear h
  go_enter Try.func36, Try.ntmps36
  go_wp2
  go_loop [7] (fun i => ∃ k : Nat, k ≤ n ∧ i = .int .i64 k ∧ Hid ((l.take k).all inR = true)) (fun i => n - (intOf i).toNat)
  case atStart => exact ⟨0, Nat.zero_le _, rfl, rfl⟩
  case round =>
    obtain ⟨k, hk, rfl, HK⟩ := hrel
    by_cases hlt : k < n
    · obtain ⟨b, off, rfl, hb, hc⟩ := HA.out (by omega)
      have hck := hc k hlt
      have hkl : k < l.length := by have := HL.out; omega
      clear hc
      by_cases h1 : ix l k < -10000
      · go_wp2
        go_ret
        exact ⟨ret_bool (vRow_bad hkl (inR_not (.inl h1))).symm, rfl⟩
      · have d1 : decide (ix l k < -10000) = false := by simp; omega
        by_cases h2 : 10000 < ix l k
        · go_wp2
          go_ret
          exact ⟨ret_bool (vRow_bad hkl (inR_not (.inr h2))).symm, rfl⟩
        · have d2 : decide (10000 < ix l k) = false := by simp; omega
          go_wp2
          go_round
          case rel => exact ⟨k + 1, by omega, by go_num, vRow_step hkl HK.out (inR_of (by omega) (by omega))⟩
          case measure => simp [intOf]; omega
    · obtain rfl : k = n := by omega
      have HE := Lib.hid (vRow_end HL.out HK.out)
      by_cases h0 : k = 0
      · subst h0
        go_wp2
        go_ret
        exact ⟨ret_bool (by rw [HE.out]; rfl), rfl⟩
      · have h0' : 1 ≤ k := by omega
        by_cases h20 : (k : Int) ≤ 20
        · go_wp2
          go_ret
          exact ⟨ret_bool (by rw [HE.out, inB_of (by omega) (by omega)]), rfl⟩
        · have d20 : decide ((k : Int) ≤ 20) = false := by simp; omega
          go_wp2
          go_ret
          exact ⟨ret_bool (by rw [HE.out, inB_not (by omega)]), rfl⟩

set_option maxHeartbeats 800000 in
theorem c_l13Row (A : Option Addr) (n c : Nat) (l : List Int) (w : World) (hn : n ≤ 2000000) (h : RdI w A n l) :
    Calls Try.prog 33 #[.slice A n c] w fun e w' => e = .returned (.bool (vRow l)) ∧ w = w' := by
  have HL := Lib.hid h.len
  have HA := Lib.hid h.at_
  clear h
  go_enter Try.func33, Try.ntmps33
  go_wp2
  go_loop [3] (fun i => ∃ k : Nat, k ≤ n ∧ i = .int .i64 k ∧ Hid ((l.take k).all inR = true)) (fun i => n - (intOf i).toNat)
  case atStart => exact ⟨0, Nat.zero_le _, rfl, rfl⟩
  case round =>
    obtain ⟨k, hk, rfl, HK⟩ := hrel
    by_cases hlt : k < n
    · obtain ⟨b, off, rfl, hb, hc⟩ := HA.out (by omega)
      have hck := hc k hlt
      have hkl : k < l.length := by have := HL.out; omega
      clear hc
      rcases Bool.eq_false_or_eq_true (inB (ix l k) (-10000) 10000) with h1 | h1
      · have H1 := Lib.hid (show inR (ix l k) = true from h1)
        go_wp2_with (go_at_call 34; refine (c_l6In _ _ _ _).mono ?_; rintro e w' ⟨rfl, rfl⟩)
        go_round
        case rel => exact ⟨k + 1, by omega, by go_num, vRow_step hkl HK.out H1.out⟩
        case measure => simp [intOf]; omega
      · have H1 := Lib.hid (show inR (ix l k) = false from h1)
        go_wp2_with (go_at_call 34; refine (c_l6In _ _ _ _).mono ?_; rintro e w' ⟨rfl, rfl⟩)
        go_ret
        exact ⟨ret_bool (vRow_bad hkl H1.out).symm, rfl⟩
    · obtain rfl : k = n := by omega
      have HE := Lib.hid (vRow_end HL.out HK.out)
      go_wp2_with (go_at_call 34; refine (c_l6In _ _ _ _).mono ?_; rintro e w' ⟨rfl, rfl⟩)
      go_ret
      exact ⟨ret_bool HE.out.symm, rfl⟩

/-- a list of rows, each at most two million long -/
def Short (rs : List RV) : Prop := ∀ i, i < rs.length → (rv rs i).n ≤ 2000000

set_option maxHeartbeats 1000000 in
theorem c_implStackValid (A : Option Addr) (n c : Nat) (rs : List RV) (w : World) (hn : n ≤ 2000000) (h : RdR w A n rs) (hs : Short rs) :
    Calls Try.prog 14 #[.slice A n c] w fun e w' => e = .returned (.bool (vStack (vals rs))) ∧ w = w' := by
  have HR := Lib.hid h
  have HL := Lib.hid (show (vals rs).length = n by rw [vals_len]; exact h.len)
  have HS := Lib.hid hs
  clear h hs
  go_enter Try.func14, Try.ntmps14
  go_wp2
  go_loop [7] (fun i => ∃ k : Nat, k ≤ n ∧ i = .int .i64 k ∧ Hid (((vals rs).take k).all (okR (rw_ (vals rs) 0).length) = true)) (fun i => n - (intOf i).toNat)
  case atStart => exact ⟨0, Nat.zero_le _, rfl, rfl⟩
  case round =>
    obtain ⟨k, hk, rfl, HK⟩ := hrel
    by_cases hlt : k < n
    · obtain ⟨b, off, rfl, hb, hc⟩ := HR.out.at_ (by omega)
      have hck := hc k hlt
      have hc0 := hc 0 (by omega)
      rw [Nat.add_zero] at hc0
      have hn0 : 0 < n := by omega
      have hrl := HR.out.len
      have hkl : k < (vals rs).length := by have := HL.out; omega
      obtain ⟨hrk, _⟩ := HR.out.row hlt
      obtain ⟨hr0, _⟩ := HR.out.row hn0
      have hsk := HS.out k (by omega)
      have hs0 := HS.out 0 (by omega)
      have HRK := Lib.hid hrk
      have HW := Lib.hid (rw_vals (rs := rs) (i := k) (by omega))
      have HW0 := Lib.hid (rw_vals (rs := rs) (i := 0) (by omega))
      have HNK := Lib.hid hrk.len
      have HN0 := Lib.hid hr0.len
      clear hc hrk hr0 hrl
      rcases Bool.eq_false_or_eq_true (vRow (rv rs k).l) with hv | hv
      · have HV := Lib.hid hv
        by_cases he : (rv rs k).n = (rv rs 0).n
        · have HE := Lib.hid he
          have hne : (((rv rs k).n : Int) != ((rv rs 0).n : Int)) = false := by rw [he]; simp
          clear he hv
          go_wp2_with fail
          refine (c_isRow _ _ _ (rv rs k).l _ hsk HRK.out).mono ?_
          rintro e w' ⟨he, rfl⟩
          rw [HV.out] at he
          subst he
          go_wp2
          go_round
          case rel => exact ⟨k + 1, by omega, by go_num, vStack_step hkl HK.out (by rw [HW.out]; exact HV.out) (by rw [HW.out, HW0.out, HNK.out, HN0.out, HE.out])⟩
          case measure => simp [intOf]; omega
        · have HE := Lib.hid he
          have hne : (((rv rs k).n : Int) != ((rv rs 0).n : Int)) = true := by rw [bne_iff_ne]; omega
          clear he hv
          go_wp2_with fail
          refine (c_isRow _ _ _ (rv rs k).l _ hsk HRK.out).mono ?_
          rintro e w' ⟨he, rfl⟩
          rw [HV.out] at he
          subst he
          go_wp2
          go_ret
          exact ⟨ret_bool (vStack_bad hkl (.inr (by rw [HW.out, HW0.out, HNK.out, HN0.out]; exact HE.out))).symm, rfl⟩
      · have HV := Lib.hid hv
        clear hv
        go_wp2_with fail
        refine (c_isRow _ _ _ (rv rs k).l _ hsk HRK.out).mono ?_
        rintro e w' ⟨he, rfl⟩
        rw [HV.out] at he
        subst he
        go_wp2
        go_ret
        exact ⟨ret_bool (vStack_bad hkl (.inl (by rw [HW.out]; exact HV.out))).symm, rfl⟩
    · obtain rfl : k = n := by omega
      have HE := Lib.hid (vStack_end HL.out HK.out)
      by_cases h0 : k = 0
      · subst h0
        go_wp2
        go_ret
        exact ⟨ret_bool (by rw [HE.out]; rfl), rfl⟩
      · have h0' : 1 ≤ k := by omega
        by_cases h6 : (k : Int) ≤ 6
        · go_wp2
          go_ret
          exact ⟨ret_bool (by rw [HE.out, inB_of (by omega) (by omega)]), rfl⟩
        · have d6 : decide ((k : Int) ≤ 6) = false := by simp; omega
          go_wp2
          go_ret
          exact ⟨ret_bool (by rw [HE.out, inB_not (by omega)]), rfl⟩

set_option maxHeartbeats 1000000 in
theorem c_specStackValid (A : Option Addr) (n c : Nat) (rs : List RV) (w : World) (hn : n ≤ 2000000) (h : RdR w A n rs) (hs : Short rs) :
    Calls Try.prog 12 #[.slice A n c] w fun e w' => e = .returned (.bool (vStack (vals rs))) ∧ Below w.heap.size w w' := by
  have HR := Lib.hid h
  have HL := Lib.hid (show (vals rs).length = n by rw [vals_len]; exact h.len)
  have HS := Lib.hid hs
  clear h hs
  go_enter Try.func12, Try.ntmps12
  go_wp2
  go_loopw [3] (fun i wr => ∃ k : Nat, k ≤ n ∧ i = .int .i64 k ∧ Hid (((vals rs).take k).all (okR (rw_ (vals rs) 0).length) = true) ∧ Below w.heap.size w wr) (fun i _ => n - (intOf i).toNat)
  case atStart => exact ⟨0, Nat.zero_le _, rfl, rfl, Below.refl _ _⟩
  case round =>
    obtain ⟨k, hk, rfl, HK, hB⟩ := hrel
    have HRW := Lib.hid (HR.out.below hB)
    by_cases hlt : k < n
    · obtain ⟨b, off, rfl, hb, hc⟩ := HRW.out.at_ (by omega)
      have hck := hc k hlt
      have hc0 := hc 0 (by omega)
      rw [Nat.add_zero] at hc0
      have hn0 : 0 < n := by omega
      have hk0 : (0 : Int) ≤ (k : Int) := by omega
      have hk1 : (k : Int) < (n : Int) := by omega
      have hz1 : (0 : Int) < (n : Int) := by omega
      have hrl := HRW.out.len
      have hkl : k < (vals rs).length := by have := HL.out; omega
      obtain ⟨hrk, _⟩ := HRW.out.row hlt
      obtain ⟨hr0, _⟩ := HRW.out.row hn0
      have hsk := HS.out k (by omega)
      have hs0 := HS.out 0 (by omega)
      have HRK := Lib.hid hrk
      have HW := Lib.hid (rw_vals (rs := rs) (i := k) (by omega))
      have HW0 := Lib.hid (rw_vals (rs := rs) (i := 0) (by omega))
      have HNK := Lib.hid hrk.len
      have HN0 := Lib.hid hr0.len
      clear hc hrk hr0 hrl
      rcases Bool.eq_false_or_eq_true (vRow (rv rs k).l) with hv | hv
      · by_cases he : (rv rs k).n = (rv rs 0).n
        · have HE := Lib.hid he
          have hne : (((rv rs k).n : Int) != ((rv rs 0).n : Int)) = false := by rw [he]; simp
          have HV := Lib.hid hv
          clear he
          go_wp2_with fail
          go_quiet ((go_at_call 33; exact quiet_of (c_l13Row _ _ _ (rv rs k).l _ hsk (HRK.out.drewN _))))
          go_wp2
          go_roundw
          case rel => exact ⟨k + 1, by omega, by go_num, vStack_step hkl HK.out (by rw [HW.out]; exact HV.out) (by rw [HW.out, HW0.out, HNK.out, HN0.out, HE.out]), below_drewK hB⟩
          case measure => simp [intOf]; omega
        · have HE := Lib.hid he
          have hne : (((rv rs k).n : Int) != ((rv rs 0).n : Int)) = true := by rw [bne_iff_ne]; omega
          clear he
          go_wp2_with fail
          go_quiet ((go_at_call 33; exact quiet_of (c_l13Row _ _ _ (rv rs k).l _ hsk (HRK.out.drewN _))))
          go_wp2
          go_ret
          exact ⟨ret_bool (vStack_bad hkl (.inr (by rw [HW.out, HW0.out, HNK.out, HN0.out]; exact HE.out))).symm, below_drewK hB⟩
      · have HV := Lib.hid hv
        go_wp2_with fail
        go_quiet ((go_at_call 33; exact quiet_of (c_l13Row _ _ _ (rv rs k).l _ hsk (HRK.out.drewN _))))
        go_wp2
        go_ret
        exact ⟨ret_bool (vStack_bad hkl (.inl (by rw [HW.out]; exact HV.out))).symm, below_drewK hB⟩
    · obtain rfl : k = n := by omega
      have HE := Lib.hid (vStack_end HL.out HK.out)
      go_wp2_with (go_at_call 34; refine (c_l6In _ _ _ _).mono ?_; rintro e w' ⟨rfl, rfl⟩)
      go_ret
      exact ⟨ret_bool HE.out.symm, hB⟩

set_option maxHeartbeats 1000000 in
theorem c_l41Sum (A : Option Addr) (n c : Nat) (rs : List RV) (q : Nat) (w : World) (h : RdR w A n rs) (hv : vStack (vals rs) = true) (hq : q < wide (vals rs)) :
    Calls Try.prog 40 #[.slice A n c, .int .i64 q] w fun e w' => e = .returned (.int .i64 (sumAt (vals rs) q)) ∧ w = w' := by
  have HR := Lib.hid h
  have HL := Lib.hid (show (vals rs).length = n by rw [vals_len]; exact h.len)
  have HV := Lib.hid hv
  have h6 : n ≤ 6 := by have h1 := (vStack_yes hv).2.2; have h2 := HL.out; omega
  clear h hv
  go_enter Try.func40, Try.ntmps40
  go_wp2
  go_loop [5, 6] (fun s i => ∃ k : Nat, k ≤ n ∧ i = .int .i64 k ∧ s = .int .i64 (ps (vals rs) q k)) (fun _ i => n - (intOf i).toNat)
  case atStart => exact ⟨0, Nat.zero_le _, rfl, rfl⟩
  case round =>
    obtain ⟨k, hk, rfl, rfl⟩ := hrel
    by_cases hlt : k < n
    · obtain ⟨b, off, rfl, hb, hc⟩ := HR.out.at_ (by omega)
      have hck := hc k hlt
      have hrl := HR.out.len
      have hkl : k < (vals rs).length := by have := HL.out; omega
      obtain ⟨hrk, _⟩ := HR.out.row hlt
      have HW := Lib.hid (rw_vals (rs := rs) (i := k) (by omega))
      obtain ⟨hy1, hy2⟩ := (vStack_yes HV.out).1 k hkl
      have hqn : q < (rv rs k).n := by have h1 := hrk.len; rw [HW.out] at hy2; unfold wide at hq; omega
      obtain ⟨b2, off2, e2, hb2, hc2⟩ := hrk.at_ (by omega)
      have hcq := hc2 q hqn
      have hbx := (vRow_yes hy1).1 q (by rw [HW.out]; have := hrk.len; omega)
      rw [HW.out] at hbx
      obtain ⟨hx0, hx1⟩ := hbx
      obtain ⟨hp0, hp1⟩ := ps_bd HV.out hq (show k ≤ (vals rs).length by omega)
      have HP := Lib.hid (show ps (vals rs) q (k + 1) = ps (vals rs) q k + ix (rv rs k).l q by rw [ps, HW.out])
      rw [e2] at hck
      clear hc hrk hc2 hrl e2 hy1 hy2
      go_wp2
      go_round
      case rel => exact ⟨k + 1, by omega, by go_num, by rw [HP.out]⟩
      case measure => simp [intOf]; omega
    · obtain rfl : k = n := by omega
      have HE := Lib.hid (show sumAt (vals rs) q = ps (vals rs) q k by rw [sumAt, HL.out])
      go_wp2
      go_ret
      exact ⟨ret_int HE.out.symm, rfl⟩
end Go.Proofs.Ytbaplcdedijaeaa
