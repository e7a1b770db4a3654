/-
  Contracts of FirnDepth, of the program and of the reference.
-/
import Derived.Test.YtkomonjmbpljhaaFirnAbove
namespace Go.Proofs.Ytkomonjmbpljhaa
open Go.RowKit

theorem alloc2 {w w2 : World} {a b : Value} {t : TypeId} (hb : Below (w.alloc (.cells #[a, b] t)).heap.size (w.alloc (.cells #[a, b] t)) w2) :
    w2.cell? ⟨w.heap.size, 0, none⟩ = some a ∧ w2.cell? ⟨w.heap.size, 1, none⟩ = some b := by
  have hB : Blk (w.alloc (.cells #[a, b] t)) w.heap.size t #[a, b] := by
    show (w.alloc (.cells #[a, b] t)).heap[w.heap.size]? = _
    show (w.heap.push _)[w.heap.size]? = _
    simp
  have := hB.below hb hB.lt
  rw [this.cell, this.cell]
  exact ⟨rfl, rfl⟩

set_option maxHeartbeats 400000 in
theorem c_specFirnDepth (A : Option Addr) (n c : Nat) (l : List (Int × Int)) (m : Int) (w : World) (hn : n ≤ 2000000) (h : RdP w A n l) :
    Calls Try.prog 33 #[.slice A n c, .int .i64 m] w fun e w' => e = .returned (.tuple #[.int .i64 (depthV l m), .bool (okD l m)]) ∧ Below w.heap.size w w' := by
  have HR := Lib.hid h
  clear h
  rcases Bool.eq_false_or_eq_true (inB m 0 (massR l)) with hq | hq
  · have HV := Lib.hid (okD_yes hq)
    obtain ⟨t0, t1, _, _⟩ := all_bd HV.out.1
    go_enter Try.func33, Try.ntmps33
    go_wp2_with fail
    refine (c_specFirnMass _ _ _ l _ hn HR.out).mono ?_
    rintro e w1 ⟨rfl, hB1⟩
    go_wp2_with fail
    refine (c_l6In _ _ _ _).mono ?_
    rintro e w' ⟨rfl, rfl⟩
    go_wp2_with fail
    go_loopw [6] (fun i wr => ∃ j : Int, i = .int .i64 j ∧ 0 ≤ j ∧ j ≤ thickOf l ∧ Hid (∀ i : Int, 0 ≤ i → i < j → above l i < m) ∧ Below w.heap.size w wr) (fun i _ => (thickOf l - intOf i).toNat)
    case atStart => exact ⟨0, rfl, Int.le_refl _, t0, Lib.hid fun i h0 h1 => absurd h1 (by omega), hB1⟩
    case round =>
      obtain ⟨j, rfl, hj0, hj1, HK, hBk⟩ := hrel
      go_wp2_with fail
      refine (c_l32Above _ _ _ l _ _ HV.out.1 hj0 (by omega) (HR.out.below hBk)).mono ?_
      rintro e w2 ⟨rfl, hB2⟩
      have hB : Below w.heap.size w w2 := hBk.trans (hB2.mono hBk.size)
      by_cases hlt : above l j < m
      · have hjlt : j < thickOf l := by
          rcases Int.lt_or_le j (thickOf l) with hh | hh
          · exact hh
          · have := above_full l (vFirn_ok HV.out.1).1 j hh
            have := HV.out.2.2
            omega
        have HN := Lib.hid (show ∀ i : Int, 0 ≤ i → i < j + 1 → above l i < m from fun i h0 h1 => by
          rcases Int.lt_or_eq_of_le (show i ≤ j by omega) with hh | hh
          · exact HK.out i h0 hh
          · rw [hh]; exact hlt)
        go_wp2_with fail
        go_roundw
        case rel => exact ⟨j + 1, by go_num, by omega, by omega, HN, hB⟩
        case measure => simp [intOf]; omega
      · have HE := Lib.hid (depth_found HV.out.1 HV.out.2.1 HV.out.2.2 hj0 hj1 (by omega) HK.out)
        have hlt' : decide (above l j < m) = false := by simp; omega
        go_wp2_with fail
        go_ret2
        exact ⟨by simp [depthV, okD, hq, ← HE.out], hB⟩
  · go_enter Try.func33, Try.ntmps33
    go_wp2_with fail
    refine (c_specFirnMass _ _ _ l _ hn HR.out).mono ?_
    rintro e w1 ⟨rfl, hB1⟩
    go_wp2_with fail
    refine (c_l6In _ _ _ _).mono ?_
    rintro e w' ⟨rfl, rfl⟩
    go_wp2_with fail
    go_ret2
    exact ⟨by simp [depthV, okD, hq], hB1⟩

set_option maxHeartbeats 400000 in
theorem c_implFirnDepth (A : Option Addr) (n c : Nat) (l : List (Int × Int)) (m : Int) (w : World) (hn : n ≤ 2000000) (h : RdP w A n l) :
    Calls Try.prog 32 #[.slice A n c, .int .i64 m] w fun e w' => e = .returned (.tuple #[.int .i64 (depthV l m), .bool (okD l m)]) ∧ Below w.heap.size w w' := by
  have HR := Lib.hid h
  have HL := Lib.hid h.len
  have HA := Lib.hid h.at_
  clear h
  by_cases hneg : m < 0
  · have HQ := Lib.hid (show inB m 0 (massR l) = false from inB_not (by omega))
    go_enter Try.func32, Try.ntmps32
    go_wp2
    go_ret2
    exact ⟨by simp [depthV, okD, HQ.out], Below.refl _ _⟩
  · have hneg' : decide (m < 0) = false := by simp; omega
    by_cases hbig : massR l < m
    · have HQ := Lib.hid (show inB m 0 (massR l) = false from inB_not (by omega))
      go_enter Try.func32, Try.ntmps32
      go_wp2_with fail
      refine (c_implFirnMass _ _ _ l _ hn HR.out).mono ?_
      rintro e w1 ⟨rfl, hB1⟩
      go_wp2_with fail
      go_ret2
      exact ⟨by simp [depthV, okD, HQ.out], hB1⟩
    · have HQ := Lib.hid (show inB m 0 (massR l) = true from inB_of (by omega) (by omega))
      have HV := Lib.hid (okD_yes HQ.out)
      have HW := Lib.hid (vFirn_ok HV.out.1)
      have hm0 := HV.out.2.1
      have hm1 : m ≤ 18340000 := by have := all_bd HV.out.1; have := HV.out.2.2; omega
      have hbig' : decide (massR l < m) = false := by simp; omega
      have hn20 : n ≤ 20 := by have := HL.out; have := HW.out.2; omega
      go_enter Try.func32, Try.ntmps32
      go_wp2_with fail
      refine (c_implFirnMass _ _ _ l _ hn HR.out).mono ?_
      rintro e w1 ⟨rfl, hB1⟩
      go_wp2_with fail
      go_loopw [1, 6, 8, 19] (fun mv s _ i wr => ∃ (k : Nat) (mr dp : Int), k ≤ n ∧ i = .int .i64 k ∧ mv = .int .i64 mr ∧ s = .int .i64 dp ∧ 0 ≤ mr ∧ mr ≤ m ∧ 0 ≤ dp ∧ dp ≤ 1000 * k ∧ Hid (depthI l m = dp + depthI (l.drop k) mr) ∧ Below w.heap.size w wr) (fun _ _ _ i _ => n - (intOf i).toNat)
      case atStart => exact ⟨0, m, 0, Nat.zero_le _, rfl, rfl, rfl, hm0, Int.le_refl _, Int.le_refl _, by omega, Lib.hid (by simp), hB1⟩
      case round =>
        obtain ⟨k, mr, dp, hk, rfl, rfl, rfl, hr0, hr1, hs0, hs1, HK, hBk⟩ := hrel
        by_cases hlt : k < n
        · obtain ⟨b, off, rfl, hb, hc⟩ := HA.out (by omega)
          obtain ⟨hc0, hc1⟩ := hc k hlt
          rw [← hBk.cell (p := ⟨b, off + k * 2, none⟩) hb] at hc0
          rw [← hBk.cell (p := ⟨b, off + k * 2 + 1, none⟩) hb] at hc1
          clear hc
          have hlk : k < l.length := by have := HL.out; omega
          have hok := vOk_at HW.out.1 hlk
          have hpr := prod_at HW.out.1 hlk
          have HT := Lib.hid (depthI_drop hlk mr)
          have hsz := hBk.size
          have hBa : Below w.heap.size w (wr.alloc (.cells #[.int .i64 (px l k), .int .i64 (py l k)] 30 (0, 0))) := hBk.alloc hsz _
          by_cases hle : mr ≤ px l k * py l k
          · have hdz : py l k ≠ 0 := by omega
            rw [if_pos hle] at HT
            go_wp2_with fail
            refine (c_mass _ _ _ (by omega) (by omega)).mono ?_
            rintro e w2 ⟨rfl, hb2⟩
            obtain ⟨hx0, hx1⟩ := alloc2 hb2
            have hB2 : Below w.heap.size w w2 := hBa.trans (hb2.mono hBa.size)
            clear hb2 hc0 hc1
            have hge : decide (mr ≤ px l k * py l k) = true := by simp; omega
            have q0 : 0 ≤ (mr + py l k - 1) / py l k := Int.ediv_nonneg (by omega) (by omega)
            have q1 : (mr + py l k - 1) / py l k ≤ mr + py l k - 1 := Int.ediv_le_self _ (by omega)
            go_wp2_with fail
            go_ret2
            have := HK.out
            rw [HT.out] at this
            exact ⟨by simp [depthV, okD, HQ.out, this], hB2⟩
          · rw [if_neg hle] at HT
            go_wp2_with fail
            refine (c_mass _ _ _ (by omega) (by omega)).mono ?_
            rintro e w2 ⟨rfl, hb2⟩
            obtain ⟨hx0, hx1⟩ := alloc2 hb2
            have hB2 : Below w.heap.size w w2 := hBa.trans (hb2.mono hBa.size)
            have hlt2 : wr.heap.size < w2.heap.size := Nat.lt_of_lt_of_le (by simp) hb2.size
            clear hb2 hc0 hc1
            have hge : decide (mr ≤ px l k * py l k) = false := by simp; omega
            go_wp2_with fail
            refine (c_mass _ _ _ (by omega) (by omega)).mono ?_
            rintro e w3 ⟨rfl, hb3⟩
            rw [← hb3.cell (p := ⟨wr.heap.size, 0, none⟩) hlt2] at hx0
            rw [← hb3.cell (p := ⟨wr.heap.size, 1, none⟩) hlt2] at hx1
            have hB3 : Below w.heap.size w w3 := hB2.trans (hb3.mono hB2.size)
            clear hb3
            go_wp2_with fail
            go_roundw
            case rel => exact ⟨k + 1, mr - px l k * py l k, dp + px l k, by omega, by go_num, by go_num, by go_num, by omega, by omega, by omega, by omega, Lib.hid (by rw [HK.out, HT.out]; omega), hB3⟩
            case measure => simp [intOf]; omega
        · obtain rfl : k = n := by omega
          go_wp2
          go_ret2
          have := HK.out
          rw [depthI_end HL.out] at this
          exact ⟨by simp [depthV, okD, HQ.out, this], hBk⟩
end Go.Proofs.Ytkomonjmbpljhaa
