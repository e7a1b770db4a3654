/-
  Contracts of the functions that the exact laws on stacks use: they measure, copy and compare lists of rows.
-/
import Derived.Test.YtbaplcdedijaeaaEqWords
namespace Go.Proofs.Ytbaplcdedijaeaa
open Go.RowKit

set_option maxHeartbeats 1000000 in
theorem c_eqIntS (A A' : Option Addr) (n n' c c' : Nat) (l l' : List Int) (w : World) (hn : n ≤ 2000000) (hn' : n' ≤ 2000000) (h : RdI w A n l) (h' : RdI w A' n' l') :
    Calls Try.prog 24 #[.slice A n c, .slice A' n' c'] w (QuietB (eqI l l') w) := by
  have HL := Lib.hid h.len
  have HA := Lib.hid h.at_
  have HL' := Lib.hid h'.len
  have HA' := Lib.hid h'.at_
  clear h h'
  by_cases hne : n = n'
  · subst hne
    go_enter Try.func24, Try.ntmps24
    go_wp2
    go_loopw [5] (fun i wr => ∃ k : Nat, k ≤ n ∧ i = .int .i64 k ∧ Hid (∀ i, i < k → ix l i = ix l' i) ∧ ∃ m, wr = w.drewN m) (fun i _ => n - (intOf i).toNat)
    case atStart => exact ⟨0, Nat.zero_le _, rfl, Lib.hid (fun i hi => absurd hi (by omega)), 0, rfl⟩
    case round =>
      obtain ⟨k, hk, rfl, HK, m, rfl⟩ := hrel
      by_cases hlt : k < n
      · obtain ⟨b, off, rfl, hb, hc⟩ := HA.out (by omega)
        have hc0 := hc k hlt
        obtain ⟨b', off', rfl, hb', hc'⟩ := HA'.out (by omega)
        have hd0 := hc' k hlt
        have hk0 : (0 : Int) ≤ (k : Int) := by omega
        have hk1 : (k : Int) < (n : Int) := by omega
        clear hc hc'
        by_cases he : ix l k = ix l' k
        · have hbe : (ix l k != ix l' k) = false := by rw [he]; simp
          have HE := Lib.hid he
          clear he
          go_wp2_with fail
          go_quiet (fail)
          go_wp2
          go_roundw
          case rel => exact ⟨k + 1, by omega, by go_num, eqI_step HK.out HE.out, m + nq, by first | rw [World.drewN_drewN] | rfl⟩
          case measure => simp [intOf]; omega
        · have hbe : (ix l k != ix l' k) = true := by rw [bne_iff_ne]; exact he
          have HE := Lib.hid he
          clear he
          go_wp2_with fail
          go_quiet (fail)
          go_wp2
          go_ret
          exact quietB (eqI_at HE.out).symm (m + nq) (by first | rw [World.drewN_drewN] | rfl)
      · obtain rfl : k = n := by omega
        go_wp2
        go_ret
        exact quietB (eqI_all HL.out HL'.out HK.out).symm m rfl
  · have hbe : ((n : Int) != (n' : Int)) = true := by rw [bne_iff_ne]; omega
    go_enter Try.func24, Try.ntmps24
    go_wp2
    go_ret
    exact quietB (eqI_len (by rw [HL.out, HL'.out]; exact hne)).symm 0 rfl

set_option maxHeartbeats 1000000 in
theorem c_eqIntSS (A A' : Option Addr) (n n' c c' : Nat) (rs rs' : List RV) (w : World) (hn : n ≤ 2000000) (hn' : n' ≤ 2000000) (h : RdR w A n rs) (h' : RdR w A' n' rs') (hs : Short rs) (hs' : Short rs') :
    Calls Try.prog 15 #[.slice A n c, .slice A' n' c'] w (QuietB (eqR (vals rs) (vals rs')) w) := by
  have HR := Lib.hid h
  have HR' := Lib.hid h'
  have HS := Lib.hid hs
  have HS' := Lib.hid hs'
  have HL := Lib.hid (show (vals rs).length = n by rw [vals_len]; exact h.len)
  have HL' := Lib.hid (show (vals rs').length = n' by rw [vals_len]; exact h'.len)
  clear h h' hs hs'
  by_cases hne : n = n'
  · subst hne
    go_enter Try.func15, Try.ntmps15
    go_wp2
    go_loopw [5] (fun i wr => ∃ k : Nat, k ≤ n ∧ i = .int .i64 k ∧ Hid (∀ i, i < k → rw_ (vals rs) i = rw_ (vals rs') i) ∧ ∃ m, wr = w.drewN m) (fun i _ => n - (intOf i).toNat)
    case atStart => exact ⟨0, Nat.zero_le _, rfl, Lib.hid (fun i hi => absurd hi (by omega)), 0, rfl⟩
    case round =>
      obtain ⟨k, hk, rfl, HK, m, hm⟩ := hrel
      have HM := Lib.hid hm
      have HRW := Lib.hid (show RdR wr A n rs by rw [hm]; exact HR.out.drewN m)
      have HRW' := Lib.hid (show RdR wr A' n rs' by rw [hm]; exact HR'.out.drewN m)
      clear hm
      by_cases hlt : k < n
      · obtain ⟨b, off, rfl, hb, hc⟩ := HRW.out.at_ (by omega)
        have hc0 := hc k hlt
        obtain ⟨b', off', rfl, hb', hc'⟩ := HRW'.out.at_ (by omega)
        have hd0 := hc' k hlt
        have hk0 : (0 : Int) ≤ (k : Int) := by omega
        have hk1 : (k : Int) < (n : Int) := by omega
        have hrl := HR.out.len
        have hrl' := HR'.out.len
        have hsk := HS.out k (by omega)
        have hsk' := HS'.out k (by omega)
        have HRK := Lib.hid (HRW.out.row hlt).1
        have HRK' := Lib.hid (HRW'.out.row hlt).1
        have HW := Lib.hid (rw_vals (rs := rs) (i := k) (by omega))
        have HW' := Lib.hid (rw_vals (rs := rs') (i := k) (by omega))
        clear hc hc' hrl hrl'
        rcases Bool.eq_false_or_eq_true (eqI (rv rs k).l (rv rs' k).l) with he | he
        · have HE := Lib.hid he
          clear he
          go_wp2_with fail
          go_quiet ((go_at_call 24; exact quietB_true HE.out (c_eqIntS _ _ _ _ _ _ _ _ _ hsk hsk' (HRK.out.drewN _) (HRK'.out.drewN _))))
          go_wp2
          go_roundw
          case rel => exact ⟨k + 1, by omega, by go_num, eqR_step HK.out (by rw [HW.out, HW'.out]; exact of_decide_eq_true HE.out), m + nq, by rw [HM.out, World.drewN_drewN]⟩
          case measure => simp [intOf]; omega
        · have HE := Lib.hid he
          clear he
          go_wp2_with fail
          go_quiet ((go_at_call 24; exact quietB_false HE.out (c_eqIntS _ _ _ _ _ _ _ _ _ hsk hsk' (HRK.out.drewN _) (HRK'.out.drewN _))))
          go_wp2
          go_ret
          exact quietB (eqR_at (k := k) (by rw [HW.out, HW'.out]; exact of_decide_eq_false HE.out)).symm (m + nq) (by rw [HM.out, World.drewN_drewN])
      · obtain rfl : k = n := by omega
        go_wp2
        go_ret
        exact quietB (eqR_all HL.out HL'.out HK.out).symm m HM.out
  · have hbe : ((n : Int) != (n' : Int)) = true := by rw [bne_iff_ne]; omega
    go_enter Try.func15, Try.ntmps15
    go_wp2
    go_ret
    exact quietB (eqR_len (by rw [HL.out, HL'.out]; exact hne)).symm 0 rfl

def szV (n : Nat) (left : Int) : Int := if left - n < 0 then -1 else left - n
set_option maxHeartbeats 400000 in
theorem c_szIntS_no (A : Option Addr) (n c : Nat) (left : Int) (w : World) (h0 : 0 ≤ left) (h1 : left ≤ 1048576) (hn : left < n) (hn2 : n ≤ 9223372036854775807) :
    Calls Try.prog 32 #[.slice A n c, .int .i64 left] w fun e w' => e = .returned (.int .i64 (-1)) ∧ w = w' := by
  have hd : decide (left - (n : Int) < 0) = true := by simp; omega
  go_enter Try.func32, Try.ntmps32
  go_wp2
  go_ret
  exact ⟨rfl, rfl⟩
set_option maxHeartbeats 400000 in
theorem c_szIntS_yes (A : Option Addr) (n c : Nat) (left : Int) (w : World) (h1 : left ≤ 1048576) (hn : (n : Int) ≤ left) :
    Calls Try.prog 32 #[.slice A n c, .int .i64 left] w fun e w' => e = .returned (.int .i64 (left - n)) ∧ w = w' := by
  have hd : decide (left - (n : Int) < 0) = false := by simp; omega
  go_enter Try.func32, Try.ntmps32
  go_wp2
  go_ret
  exact ⟨rfl, rfl⟩
/-- szIntSS: a negative number, or all is short -/
def SzPost (n : Nat) (rs : List RV) (w : World) (e : Ending) (w' : World) : Prop :=
  ∃ x : Int, e = .returned (.int .i64 x) ∧ w = w' ∧ (x < 0 ∨ (0 ≤ x ∧ n ≤ 1048576 ∧ ∀ i, i < n → (rv rs i).n ≤ 1048576))
theorem sz_no {n : Nat} {rs : List RV} {w : World} : SzPost n rs w (.returned (.int .i64 (-1))) w := ⟨-1, rfl, rfl, .inl (by omega)⟩
/-- each row's length is a length -/
def Fits (rs : List RV) : Prop := ∀ i, i < rs.length → (rv rs i).n ≤ 9223372036854775807
set_option maxHeartbeats 1000000 in
theorem c_szIntSS (A : Option Addr) (n c : Nat) (rs : List RV) (w : World) (hn2 : n ≤ 9223372036854775807) (h : RdR w A n rs) (hf : Fits rs) :
    Calls Try.prog 11 #[.slice A n c, .int .i64 1048576] w (SzPost n rs w) := by
  have HR := Lib.hid h
  have HF := Lib.hid hf
  clear h hf
  by_cases hbig : 1048576 < n
  · have hd : decide ((1048576 : Int) - (n : Int) < 0) = true := by simp; omega
    go_enter Try.func11, Try.ntmps11
    go_wp2
    go_ret
    exact sz_no
  · have hd : decide ((1048576 : Int) - (n : Int) < 0) = false := by simp; omega
    go_enter Try.func11, Try.ntmps11
    go_wp2
    clear hd
    go_loop [1, 5] (fun s i => ∃ (k : Nat) (x : Int), k ≤ n ∧ i = .int .i64 k ∧ s = .int .i64 x ∧ 0 ≤ x ∧ x ≤ 1048576 ∧ Hid (∀ i, i < k → (rv rs i).n ≤ 1048576)) (fun _ i => n - (intOf i).toNat)
    case atStart => exact ⟨0, 1048576 - n, Nat.zero_le _, rfl, rfl, by omega, by omega, Lib.hid (fun i hi => absurd hi (by omega))⟩
    case round =>
      obtain ⟨k, x, hk, rfl, rfl, x0, x1, HK⟩ := hrel
      by_cases hlt : k < n
      · obtain ⟨b, off, rfl, hb, hc⟩ := HR.out.at_ (by omega)
        have hck := hc k hlt
        have hfk := HF.out k (by have := HR.out.len; omega)
        clear hc
        by_cases hx : x < (rv rs k).n
        · go_wp2_with fail
          refine (c_szIntS_no _ _ _ x _ x0 x1 hx hfk).mono ?_
          rintro e w' ⟨rfl, rfl⟩
          go_wp2
          go_ret
          exact sz_no
        · have hd : decide (x - ((rv rs k).n : Int) < 0) = false := by simp; omega
          go_wp2_with fail
          refine (c_szIntS_yes _ _ _ x _ x1 (by omega)).mono ?_
          rintro e w' ⟨rfl, rfl⟩
          go_wp2
          go_round
          case rel =>
            refine ⟨k + 1, x - (rv rs k).n, by omega, by go_num, rfl, by omega, by omega, Lib.hid (fun i hi => ?_)⟩
            by_cases e : i = k
            · rw [e]; omega
            · exact HK.out i (by omega)
          case measure => simp [intOf]; omega
      · obtain rfl : k = n := by omega
        go_wp2
        go_ret
        exact ⟨x, rfl, rfl, .inr ⟨x0, by omega, HK.out⟩⟩

/-- the first k numbers of l, the others 0 -/
def tL (l : List Int) (k : Nat) : List Int := (List.range l.length).map fun j => if j < k then ix l j else 0
theorem tL_len (l : List Int) (k : Nat) : (tL l k).length = l.length := by simp [tL]
theorem tL_zero (l : List Int) : tL l 0 = List.replicate l.length 0 := List.ext_getElem (by simp [tL]) fun i h1 h2 => by simp [tL]
theorem tL_full (l : List Int) : tL l l.length = l := by
  refine List.ext_getElem (by simp [tL]) fun i h1 h2 => ?_
  simp [tL, h2, ix_eq h2]
theorem tL_set (l : List Int) (k : Nat) : (tL l k).set k (ix l k) = tL l (k + 1) := by
  refine List.ext_getElem (by simp [tL]) fun i h1 h2 => ?_
  rw [List.getElem_set]
  by_cases e : k = i
  · subst e; simp [tL]
  · rw [if_neg e]
    have : (i < k) ↔ (i < k + 1) := by omega
    simp [tL, this]
def ToI (n : Nat) (l : List Int) (w : World) (e : Ending) (w' : World) : Prop :=
  e = .returned (.slice (some ⟨w.heap.size, 0, none⟩) n n) ∧ RowE w' w.heap.size 3 l ∧ Below w.heap.size w w'
set_option maxHeartbeats 1000000 in
theorem c_toIntS (A : Option Addr) (n c : Nat) (l : List Int) (w : World) (hn : n ≤ 2000000) (h : RdI w A n l) :
    Calls Try.prog 35 #[.slice A n c] w (ToI n l w) := by
  have HL := Lib.hid h.len
  have HA := Lib.hid h.at_
  clear h
  obtain ⟨i0, hi, hz0, hz1, hz2⟩ := info_parts info_int
  have HI := Lib.hid hi
  have HZ := Lib.hid hz2
  clear hi hz2
  go_enter Try.func35, Try.ntmps35
  go_wp2_with (at_make; refine wpList_make_full _ rfl _ _ 29 rfl w.heap.size 3 i0 (.int .i64 0) 1 Try.underlying29 HI.out hz0 hz1 _ _ _ _ n rfl rfl rfl rfl ?b1 ?b2 ?b3 ?_)
  case b1 => rw [HZ.out]; omega
  case b2 => unfold maxLen; omega
  case b3 => exact Nat.le_refl _
  intro w1 hown hgrow
  have R1 := Lib.hid (RowE.made hown)
  have hB1 : Below w.heap.size w w1 := (Below.refl _ _).grown hgrow (Nat.le_refl _) (fun k hk => by cases hk)
  clear hown hgrow HI HZ hz0 hz1
  go_wp2
  go_loopw [4] (fun i wr => ∃ k : Nat, k ≤ n ∧ i = .int .i64 k ∧ RowE wr w.heap.size 3 (tL l k) ∧ Below w.heap.size w wr) (fun i _ => n - (intOf i).toNat)
  case atStart => exact ⟨0, Nat.zero_le _, rfl, by rw [tL_zero, HL.out]; exact R1.out, hB1⟩
  case round =>
    obtain ⟨k, hk, rfl, hR, hB⟩ := hrel
    have R2 := Lib.hid hR
    by_cases hlt : k < n
    · obtain ⟨b, off, rfl, hb, hc⟩ := HA.out (by omega)
      have hc0 := hc k hlt
      rw [← hB.cell (p := ⟨b, off + k, none⟩) hb] at hc0
      obtain ⟨hx, hf⟩ := hR.cell (j := k) (by rw [tL_len, HL.out]; exact hlt)
      have HP := Lib.hid (show RowE (wr.setCell ⟨w.heap.size, k, none⟩ (.int .i64 (ix l k))) w.heap.size 3 (tL l (k + 1)) by rw [← tL_set]; exact hR.put _ _)
      clear hc hR
      go_wp2
      go_roundw
      case rel => exact ⟨k + 1, by omega, by go_num, HP.out, hB.setCell (Nat.le_refl _) _⟩
      case measure => simp [intOf]; omega
    · obtain rfl : k = n := by omega
      have HE := Lib.hid (show tL l k = l by rw [← HL.out, tL_full])
      clear hR
      go_wp2
      go_ret
      exact ⟨rfl, by rw [← HE.out]; exact R2.out, hB⟩
end Go.Proofs.Ytbaplcdedijaeaa
