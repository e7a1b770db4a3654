/-
  Contracts of sameInts and sameRows.
-/
import Derived.Test.YtbaplcdedijaeaaEqWords
namespace Go.Proofs.Ytbaplcdedijaeaa
open Go.RowKit

set_option maxHeartbeats 1000000 in
theorem c_sameInts (A A' : Option Addr) (n n' c c' : Nat) (l l' : List Int) (w : World) (hn : n ≤ 2000000) (hn' : n' ≤ 2000000) (h : RdI w A n l) (h' : RdI w A' n' l') :
    Calls Try.prog 20 #[.slice A n c, .slice A' n' c'] w (QuietB (eqI l l') w) := by
  have HL := Lib.hid h.len
  have HA := Lib.hid h.at_
  have HL' := Lib.hid h'.len
  have HA' := Lib.hid h'.at_
  clear h h'
  by_cases hne : n = n'
  · subst hne
    go_enter Try.func20, Try.ntmps20
    go_wp2
    go_loopw [5] (fun i wr => ∃ k : Nat, k ≤ n ∧ i = .int .i64 k ∧ Hid (∀ i, i < k → ix l i = ix l' i) ∧ ∃ m, wr = w.drewN m) (fun i _ => n - (intOf i).toNat)
    case atStart => exact ⟨0, Nat.zero_le _, rfl, Lib.hid (fun i hi => absurd hi (by omega)), 0, rfl⟩
    case round =>
      obtain ⟨k, hk, rfl, HK, m, rfl⟩ := hrel
      by_cases hlt : k < n
      · obtain ⟨b, off, rfl, hb, hc⟩ := HA.out (by omega)
        have hc0 := hc k hlt
        obtain ⟨b', off', rfl, hb', hc'⟩ := HA'.out (by omega)
        have hd0 := hc' k hlt
        have hk0 : (0 : Int) ≤ (k : Int) := by omega
        have hk1 : (k : Int) < (n : Int) := by omega
        clear hc hc'
        by_cases he : ix l k = ix l' k
        · have hbe : (ix l k != ix l' k) = false := by rw [he]; simp
          have HE := Lib.hid he
          clear he
          go_wp2_with fail
          go_quiet (fail)
          go_wp2
          go_roundw
          case rel => exact ⟨k + 1, by omega, by go_num, eqI_step HK.out HE.out, m + nq, by first | rw [World.drewN_drewN] | rfl⟩
          case measure => simp [intOf]; omega
        · have hbe : (ix l k != ix l' k) = true := by rw [bne_iff_ne]; exact he
          have HE := Lib.hid he
          clear he
          go_wp2_with fail
          go_quiet (fail)
          go_wp2
          go_ret
          exact quietB (eqI_at HE.out).symm (m + nq) (by first | rw [World.drewN_drewN] | rfl)
      · obtain rfl : k = n := by omega
        go_wp2
        go_ret
        exact quietB (eqI_all HL.out HL'.out HK.out).symm m rfl
  · have hbe : ((n : Int) != (n' : Int)) = true := by rw [bne_iff_ne]; omega
    go_enter Try.func20, Try.ntmps20
    go_wp2
    go_ret
    exact quietB (eqI_len (by rw [HL.out, HL'.out]; exact hne)).symm 0 rfl

set_option maxHeartbeats 1000000 in
theorem c_sameRows (A A' : Option Addr) (n n' c c' : Nat) (rs rs' : List RV) (w : World) (hn : n ≤ 2000000) (hn' : n' ≤ 2000000) (h : RdR w A n rs) (h' : RdR w A' n' rs') (hs : Short rs) (hs' : Short rs') :
    Calls Try.prog 31 #[.slice A n c, .slice A' n' c'] w (QuietB (eqR (vals rs) (vals rs')) w) := by
  have HR := Lib.hid h
  have HR' := Lib.hid h'
  have HS := Lib.hid hs
  have HS' := Lib.hid hs'
  have HL := Lib.hid (show (vals rs).length = n by rw [vals_len]; exact h.len)
  have HL' := Lib.hid (show (vals rs').length = n' by rw [vals_len]; exact h'.len)
  clear h h' hs hs'
  by_cases hne : n = n'
  · subst hne
    go_enter Try.func31, Try.ntmps31
    go_wp2
    go_loopw [5] (fun i wr => ∃ k : Nat, k ≤ n ∧ i = .int .i64 k ∧ Hid (∀ i, i < k → rw_ (vals rs) i = rw_ (vals rs') i) ∧ ∃ m, wr = w.drewN m) (fun i _ => n - (intOf i).toNat)
    case atStart => exact ⟨0, Nat.zero_le _, rfl, Lib.hid (fun i hi => absurd hi (by omega)), 0, rfl⟩
    case round =>
      obtain ⟨k, hk, rfl, HK, m, hm⟩ := hrel
      have HM := Lib.hid hm
      have HRW := Lib.hid (show RdR wr A n rs by rw [hm]; exact HR.out.drewN m)
      have HRW' := Lib.hid (show RdR wr A' n rs' by rw [hm]; exact HR'.out.drewN m)
      clear hm
      by_cases hlt : k < n
      · obtain ⟨b, off, rfl, hb, hc⟩ := HRW.out.at_ (by omega)
        have hc0 := hc k hlt
        obtain ⟨b', off', rfl, hb', hc'⟩ := HRW'.out.at_ (by omega)
        have hd0 := hc' k hlt
        have hk0 : (0 : Int) ≤ (k : Int) := by omega
        have hk1 : (k : Int) < (n : Int) := by omega
        have hrl := HR.out.len
        have hrl' := HR'.out.len
        have hsk := HS.out k (by omega)
        have hsk' := HS'.out k (by omega)
        have HRK := Lib.hid (HRW.out.row hlt).1
        have HRK' := Lib.hid (HRW'.out.row hlt).1
        have HW := Lib.hid (rw_vals (rs := rs) (i := k) (by omega))
        have HW' := Lib.hid (rw_vals (rs := rs') (i := k) (by omega))
        clear hc hc' hrl hrl'
        rcases Bool.eq_false_or_eq_true (eqI (rv rs k).l (rv rs' k).l) with he | he
        · have HE := Lib.hid he
          clear he
          go_wp2_with fail
          go_quiet ((go_at_call 20; exact quietB_true HE.out (c_sameInts _ _ _ _ _ _ _ _ _ hsk hsk' (HRK.out.drewN _) (HRK'.out.drewN _))))
          go_wp2
          go_roundw
          case rel => exact ⟨k + 1, by omega, by go_num, eqR_step HK.out (by rw [HW.out, HW'.out]; exact of_decide_eq_true HE.out), m + nq, by rw [HM.out, World.drewN_drewN]⟩
          case measure => simp [intOf]; omega
        · have HE := Lib.hid he
          clear he
          go_wp2_with fail
          go_quiet ((go_at_call 20; exact quietB_false HE.out (c_sameInts _ _ _ _ _ _ _ _ _ hsk hsk' (HRK.out.drewN _) (HRK'.out.drewN _))))
          go_wp2
          go_ret
          exact quietB (eqR_at (k := k) (by rw [HW.out, HW'.out]; exact of_decide_eq_false HE.out)).symm (m + nq) (by rw [HM.out, World.drewN_drewN])
      · obtain rfl : k = n := by omega
        go_wp2
        go_ret
        exact quietB (eqR_all HL.out HL'.out HK.out).symm m HM.out
  · have hbe : ((n : Int) != (n' : Int)) = true := by rw [bne_iff_ne]; omega
    go_enter Try.func31, Try.ntmps31
    go_wp2
    go_ret
    exact quietB (eqR_len (by rw [HL.out, HL'.out]; exact hne)).symm 0 rfl
end Go.Proofs.Ytbaplcdedijaeaa
