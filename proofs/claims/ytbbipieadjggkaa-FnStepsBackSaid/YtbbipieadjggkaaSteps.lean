/-
  Contracts of WaterSteps, of the program and of the reference.
-/
import Derived.Test.YtbbipieadjggkaaLawWords
import Derived.Test.YtbbipieadjggkaaFracMulImpl
import Derived.Test.YtbbipieadjggkaaFracMulSpec
import Derived.Test.YtbbipieadjggkaaFracTwo
namespace Go.Proofs.Ytbbipieadjggkaa
open Go.RowKit

theorem blk_new2 (w : World) (o1 o2 : Obj) (t : TypeId) (cs : Array Value) : Blk (((w.alloc o1).alloc o2).alloc (.cells cs t)) (w.heap.size + 1 + 1) t cs := by
  have h := blk_new ((w.alloc o1).alloc o2) t cs
  have e : ((w.alloc o1).alloc o2).heap.size = w.heap.size + 1 + 1 := by simp
  rwa [e] at h
def stV (rn rd fn fd n : Int) : Bool := two rn rd fn fd && inB n 0 10 && stO rn rd fn fd n.toNat
def stPN (rn rd fn fd n : Int) : Int := if stV rn rd fn fd n then stN rn rd fn fd n.toNat else 0
def stPD (rn rd fn fd n : Int) : Int := if stV rn rd fn fd n then stD rn rd fn fd n.toNat else 0
def StPost (rn rd fn fd n : Int) (w : World) (e : Ending) (w' : World) : Prop :=
  e = .returned (.tuple #[.agg #[.int .i64 (stPN rn rd fn fd n), .int .i64 (stPD rn rd fn fd n)], .bool (stV rn rd fn fd n)]) ∧ Below w.heap.size w w'
theorem st_no {rn rd fn fd n : Int} {w W : World} (h : stV rn rd fn fd n = false) (hB : Below w.heap.size w W) : StPost rn rd fn fd n w (.returned (.tuple #[.agg #[.int .i64 0, .int .i64 0], .bool false])) W :=
  ⟨by simp [stPN, stPD, h], hB⟩
theorem st_yes {rn rd fn fd : Int} {n : Nat} {w W : World} (h2 : two rn rd fn fd = true) (hn : n ≤ 10) (ho : stO rn rd fn fd n = true) (hB : Below w.heap.size w W) : StPost rn rd fn fd (n : Int) w (.returned (.tuple #[.agg #[.int .i64 (stN rn rd fn fd n), .int .i64 (stD rn rd fn fd n)], .bool true])) W := by
  have hv : stV rn rd fn fd (n : Int) = true := by simp [stV, h2, ho, inB_of (show (0 : Int) ≤ (n : Int) by omega) (show (n : Int) ≤ 10 by omega)]
  exact ⟨by simp [stPN, stPD, hv], hB⟩
/-- what the loop keeps: the ratio so far in block g0, the factor, the result's box -/
def StRel (rn rd fn fd : Int) (n g0 : Nat) (w : World) (i : Value) (wr : World) : Prop :=
  ∃ k : Nat, k ≤ n ∧ i = .int .i64 k ∧ stO rn rd fn fd k = true ∧ Blk wr g0 26 #[.int .i64 (stN rn rd fn fd k), .int .i64 (stD rn rd fn fd k)] ∧ Blk wr (w.heap.size + 1) 26 #[.int .i64 fn, .int .i64 fd] ∧ Blk wr (w.heap.size + 1 + 1) 26 #[.int .i64 0, .int .i64 0] ∧ Below w.heap.size w wr
theorem blk_turn {W : World} {g : Nat} {t : TypeId} {a b : Value} (h : Blk W g t #[a, b]) (u v : Value) : Blk ((W.setCell ⟨g, 0, none⟩ u).setCell ⟨g, 1, none⟩ v) g t #[u, v] := by
  have := (h.put 0 u).put 1 v
  simpa using this
theorem blk_far {W : World} {g g' : Nat} {t : TypeId} {cs : Array Value} (h : Blk W g t cs) (hne : g ≠ g') (u v : Value) : Blk ((W.setCell ⟨g', 0, none⟩ u).setCell ⟨g', 1, none⟩ v) g t cs :=
  (h.away (p := ⟨g', 0, none⟩) hne u).away (p := ⟨g', 1, none⟩) hne v
/-- a round: over the world behind FracMul the next box is made and its value is laid into block g0 -/
theorem st_round {rn rd fn fd : Int} {n g0 k : Nat} {w w2 : World} (hk : k < n) (ho : stO rn rd fn fd k = true) (hok : okF (stN rn rd fn fd k * fn) (stD rn rd fn fd k * fd) = true)
    (hg : w.heap.size ≤ g0) (hg1 : g0 ≠ w.heap.size + 1) (hg2 : g0 ≠ w.heap.size + 1 + 1)
    (hJ : Blk w2 g0 26 #[.int .i64 (stN rn rd fn fd k), .int .i64 (stD rn rd fn fd k)]) (hK : Blk w2 (w.heap.size + 1) 26 #[.int .i64 fn, .int .i64 fd]) (hR : Blk w2 (w.heap.size + 1 + 1) 26 #[.int .i64 0, .int .i64 0]) (hB : Below w.heap.size w w2) (o : Obj) {N D : Int} (hN : nF (stN rn rd fn fd k * fn) (stD rn rd fn fd k * fd) = N) (hD : dF (stN rn rd fn fd k * fn) (stD rn rd fn fd k * fd) = D) {i : Value} (hi : i = .int .i64 ((k + 1 : Nat) : Int)) :
    StRel rn rd fn fd n g0 w i (((w2.setCell ⟨g0, 0, none⟩ (.int .i64 N)).setCell ⟨g0, 1, none⟩ (.int .i64 D)).alloc o) := by
  subst hN hD
  refine ⟨k + 1, by omega, hi, by rw [stO_succ, ho, hok]; rfl, ?_, (blk_far hK (Ne.symm hg1) _ _).alloc _, (blk_far hR (Ne.symm hg2) _ _).alloc _, ((hB.setCell hg _).setCell hg _).alloc (by simpa using hB.size) _⟩
  rw [stN_succ, stD_succ]
  exact (blk_turn hJ _ _).alloc _

set_option maxHeartbeats 4000000 in
theorem c_implWaterSteps (rn rd fn fd n : Int) (w : World) :
    Calls Try.prog 20 #[.agg #[.int .i64 rn, .int .i64 rd], .agg #[.int .i64 fn, .int .i64 fd], .int .i64 n] w (StPost rn rd fn fd n w) := by
  rcases Bool.eq_false_or_eq_true (vF rn rd) with ha | ha
  · rcases Bool.eq_false_or_eq_true (vF fn fd) with hb0 | hb0
    · have HTW := Lib.hid (show two rn rd fn fd = true by simp [two, ha, hb0])
      have HRV := Lib.hid ha
      have HFV := Lib.hid hb0
      by_cases hn0 : n < 0
      · have HK := Lib.hid (show stV rn rd fn fd n = false by simp [stV, inB_not (show n < 0 ∨ 10 < n by omega)])
        go_enter Try.func20, Try.ntmps20
        go_wp2_with fail
        refine (c_implFracValid _ _ _).mono ?_
        rintro e w1 ⟨rfl, hb⟩
        have J1 := Lib.hid ((((blk_new w _ _).alloc _).alloc _).below hb (by simp <;> omega))
        have K1 := Lib.hid (((blk_new1 w _ _ _).alloc _).below hb (by simp <;> omega))
        have R1 := Lib.hid ((blk_new2 w _ _ _ _).below hb (by simp))
        have hB1 : Below w.heap.size w w1 := (show Below w.heap.size w _ from by go_grown).trans (hb.mono (by simp <;> omega))
        obtain ⟨cJ1, dJ1, fJ1, hJ1⟩ := J1.out.two
        obtain ⟨cK1, dK1, fK1, hK1⟩ := K1.out.two
        obtain ⟨cR1, dR1, fR1, hR1⟩ := R1.out.two
        have yJ1 := J1.out.lt
        have yK1 := K1.out.lt
        have yR1 := R1.out.lt
        clear hb
        go_wp2_with fail
        refine (c_implFracValid _ _ _).mono ?_
        rintro e w2 ⟨rfl, hb⟩
        have J2 := Lib.hid (blk_b0 J1.out hb)
        have K2 := Lib.hid (blk_b0 K1.out hb)
        have R2 := Lib.hid (blk_b0 R1.out hb)
        have hB2 := bel0 hB1 hb
        obtain ⟨cJ2, dJ2, fJ2, hJ2⟩ := J2.out.two
        obtain ⟨cK2, dK2, fK2, hK2⟩ := K2.out.two
        obtain ⟨cR2, dR2, fR2, hR2⟩ := R2.out.two
        have yJ2 := J2.out.lt
        have yK2 := K2.out.lt
        have yR2 := R2.out.lt
        clear hb
        clear cJ1 dJ1 fJ1 hJ1 cK1 dK1 fK1 hK1 cR1 dR1 fR1 hR1
        go_wp2
        refine bodyPost_ret (v := .tuple #[.agg #[.int .i64 0, .int .i64 0], .bool false]) (by simp [results, Try.results20, go_sem, *]) rfl (st_no HK.out ?_)
        go_grown
      · have hd0 : decide (n < 0) = false := by simp; omega
        by_cases hn1 : 10 < n
        · have HK := Lib.hid (show stV rn rd fn fd n = false by simp [stV, inB_not (show n < 0 ∨ 10 < n by omega)])
          go_enter Try.func20, Try.ntmps20
          go_wp2_with fail
          refine (c_implFracValid _ _ _).mono ?_
          rintro e w1 ⟨rfl, hb⟩
          have J1 := Lib.hid ((((blk_new w _ _).alloc _).alloc _).below hb (by simp <;> omega))
          have K1 := Lib.hid (((blk_new1 w _ _ _).alloc _).below hb (by simp <;> omega))
          have R1 := Lib.hid ((blk_new2 w _ _ _ _).below hb (by simp))
          have hB1 : Below w.heap.size w w1 := (show Below w.heap.size w _ from by go_grown).trans (hb.mono (by simp <;> omega))
          obtain ⟨cJ1, dJ1, fJ1, hJ1⟩ := J1.out.two
          obtain ⟨cK1, dK1, fK1, hK1⟩ := K1.out.two
          obtain ⟨cR1, dR1, fR1, hR1⟩ := R1.out.two
          have yJ1 := J1.out.lt
          have yK1 := K1.out.lt
          have yR1 := R1.out.lt
          clear hb
          go_wp2_with fail
          refine (c_implFracValid _ _ _).mono ?_
          rintro e w2 ⟨rfl, hb⟩
          have J2 := Lib.hid (blk_b0 J1.out hb)
          have K2 := Lib.hid (blk_b0 K1.out hb)
          have R2 := Lib.hid (blk_b0 R1.out hb)
          have hB2 := bel0 hB1 hb
          obtain ⟨cJ2, dJ2, fJ2, hJ2⟩ := J2.out.two
          obtain ⟨cK2, dK2, fK2, hK2⟩ := K2.out.two
          obtain ⟨cR2, dR2, fR2, hR2⟩ := R2.out.two
          have yJ2 := J2.out.lt
          have yK2 := K2.out.lt
          have yR2 := R2.out.lt
          clear hb
          clear cJ1 dJ1 fJ1 hJ1 cK1 dK1 fK1 hK1 cR1 dR1 fR1 hR1
          go_wp2
          refine bodyPost_ret (v := .tuple #[.agg #[.int .i64 0, .int .i64 0], .bool false]) (by simp [results, Try.results20, go_sem, *]) rfl (st_no HK.out ?_)
          go_grown
        · have hd1 : decide (10 < n) = false := by simp; omega
          obtain ⟨n, rfl⟩ : ∃ m : Nat, n = (m : Int) := ⟨n.toNat, by omega⟩
          have HN10 : n ≤ 10 := by omega
          have HG0 : w.heap.size ≤ w.heap.size := Nat.le_refl _
          have HG1 : w.heap.size ≠ w.heap.size + 1 := by omega
          have HG2 : w.heap.size ≠ w.heap.size + 1 + 1 := by omega
          go_enter Try.func20, Try.ntmps20
          go_wp2_with fail
          refine (c_implFracValid _ _ _).mono ?_
          rintro e w1 ⟨rfl, hb⟩
          have J1 := Lib.hid ((((blk_new w _ _).alloc _).alloc _).below hb (by simp <;> omega))
          have K1 := Lib.hid (((blk_new1 w _ _ _).alloc _).below hb (by simp <;> omega))
          have R1 := Lib.hid ((blk_new2 w _ _ _ _).below hb (by simp))
          have hB1 : Below w.heap.size w w1 := (show Below w.heap.size w _ from by go_grown).trans (hb.mono (by simp <;> omega))
          obtain ⟨cJ1, dJ1, fJ1, hJ1⟩ := J1.out.two
          obtain ⟨cK1, dK1, fK1, hK1⟩ := K1.out.two
          obtain ⟨cR1, dR1, fR1, hR1⟩ := R1.out.two
          have yJ1 := J1.out.lt
          have yK1 := K1.out.lt
          have yR1 := R1.out.lt
          clear hb
          go_wp2_with fail
          refine (c_implFracValid _ _ _).mono ?_
          rintro e w2 ⟨rfl, hb⟩
          have J2 := Lib.hid (blk_b0 J1.out hb)
          have K2 := Lib.hid (blk_b0 K1.out hb)
          have R2 := Lib.hid (blk_b0 R1.out hb)
          have hB2 := bel0 hB1 hb
          obtain ⟨cJ2, dJ2, fJ2, hJ2⟩ := J2.out.two
          obtain ⟨cK2, dK2, fK2, hK2⟩ := K2.out.two
          obtain ⟨cR2, dR2, fR2, hR2⟩ := R2.out.two
          have yJ2 := J2.out.lt
          have yK2 := K2.out.lt
          have yR2 := R2.out.lt
          clear hb
          clear cJ1 dJ1 fJ1 hJ1 cK1 dK1 fK1 hK1 cR1 dR1 fR1 hR1
          go_wp2_with fail
          go_loopw [28] (fun i wr => StRel rn rd fn fd n w.heap.size w i wr) (fun i _ => n - (intOf i).toNat)
          case atStart => exact ⟨0, Nat.zero_le _, rfl, rfl, J2.out, K2.out, R2.out, hB2⟩
          case round =>
            obtain ⟨k, hk, rfl, ho, hJ, hK, hR, hB⟩ := hrel
            have HO := Lib.hid ho
            have J3 := Lib.hid hJ
            have K3 := Lib.hid hK
            have R3 := Lib.hid hR
            obtain ⟨cJ3, dJ3, fJ3, hJ3⟩ := J3.out.two
            obtain ⟨cK3, dK3, fK3, hK3⟩ := K3.out.two
            obtain ⟨cR3, dR3, fR3, hR3⟩ := R3.out.two
            have yJ3 := J3.out.lt
            have yK3 := K3.out.lt
            have yR3 := R3.out.lt
            clear ho hJ hK hR
            by_cases hlt : k < n
            · obtain ⟨N0, hN0⟩ : ∃ x, x = stN rn rd fn fd k := ⟨_, rfl⟩
              obtain ⟨D0, hD0⟩ : ∃ x, x = stD rn rd fn fd k := ⟨_, rfl⟩
              have HV0 := Lib.hid (st_vF HRV.out HO.out)
              have HN0 := Lib.hid hN0
              have HD0 := Lib.hid hD0
              rw [← hN0] at cJ3
              rw [← hD0] at dJ3
              rw [← hN0, ← hD0] at HV0
              have HT := Lib.hid (show two N0 D0 fn fd = true by simp [two, HV0.out, HFV.out])
              clear hN0 hD0
              rcases Bool.eq_false_or_eq_true (okF (N0 * fn) (D0 * fd)) with hok | hok
              · obtain ⟨N1, hN1⟩ : ∃ x, nF (N0 * fn) (D0 * fd) = x := ⟨_, rfl⟩
                obtain ⟨D1, hD1⟩ : ∃ x, dF (N0 * fn) (D0 * fd) = x := ⟨_, rfl⟩
                have HN1 := Lib.hid hN1
                have HD1 := Lib.hid hD1
                have HOK := Lib.hid hok
                clear hN1 hD1 hok
                go_wp2_with fail
                refine (c_implFracMul _ _ _ _ _).mono ?_
                intro e w4 hp
                obtain ⟨rfl, hb⟩ := op_at HT.out HN1.out HD1.out HOK.out hp
                clear hp
                have J4 := Lib.hid (blk_b0 J3.out hb)
                have K4 := Lib.hid (blk_b0 K3.out hb)
                have R4 := Lib.hid (blk_b0 R3.out hb)
                have hB4 := bel0 hB hb
                obtain ⟨cJ4, dJ4, fJ4, hJ4⟩ := J4.out.two
                obtain ⟨cK4, dK4, fK4, hK4⟩ := K4.out.two
                obtain ⟨cR4, dR4, fR4, hR4⟩ := R4.out.two
                rw [← HN0.out] at cJ4
                rw [← HD0.out] at dJ4
                have yJ4 := J4.out.lt
                have yK4 := K4.out.lt
                have yR4 := R4.out.lt
                have nJ : w4.heap.size ≠ w.heap.size := by omega
                clear hb
                go_wp2
                go_roundw
                case rel => exact st_round (N := N1) (D := D1) hlt HO.out (by rw [← HN0.out, ← HD0.out]; exact HOK.out) HG0 HG1 HG2 J4.out K4.out R4.out hB4 _ (by rw [← HN0.out, ← HD0.out]; exact HN1.out) (by rw [← HN0.out, ← HD0.out]; exact HD1.out) (by go_num)
                case measure => simp [intOf]; omega
              · have HOK := Lib.hid (show okO (two N0 D0 fn fd) (N0 * fn) (D0 * fd) = false by simp [okO, hok])
                have HK := Lib.hid (show stV rn rd fn fd (n : Int) = false by
                  have h1 : stO rn rd fn fd (k + 1) = false := by rw [stO_succ, ← HN0.out, ← HD0.out, hok, Bool.and_false]
                  simp [stV, stO_not h1 (show k + 1 ≤ n by omega)])
                clear hok
                go_wp2_with fail
                refine (c_implFracMul _ _ _ _ _).mono ?_
                intro e w4 hp
                obtain ⟨rfl, hb⟩ := op_bad HOK.out hp
                clear hp
                have J4 := Lib.hid (blk_b0 J3.out hb)
                have K4 := Lib.hid (blk_b0 K3.out hb)
                have R4 := Lib.hid (blk_b0 R3.out hb)
                have hB4 := bel0 hB hb
                obtain ⟨cJ4, dJ4, fJ4, hJ4⟩ := J4.out.two
                obtain ⟨cK4, dK4, fK4, hK4⟩ := K4.out.two
                obtain ⟨cR4, dR4, fR4, hR4⟩ := R4.out.two
                rw [← HN0.out] at cJ4
                rw [← HD0.out] at dJ4
                have yJ4 := J4.out.lt
                have yK4 := K4.out.lt
                have yR4 := R4.out.lt
                have nJ : w4.heap.size ≠ w.heap.size := by omega
                clear hb
                go_wp2
                refine bodyPost_ret (v := .tuple #[.agg #[.int .i64 0, .int .i64 0], .bool false]) (by simp [results, Try.results20, go_sem, *]) rfl (st_no HK.out ?_)
                go_grown
            · obtain rfl : k = n := by omega
              go_wp2
              refine bodyPost_ret (v := .tuple #[.agg #[.int .i64 (stN rn rd fn fd k), .int .i64 (stD rn rd fn fd k)], .bool true]) (by simp [results, Try.results20, go_sem, *]) rfl (st_yes HTW.out HN10 HO.out ?_)
              go_grown
    · have HK := Lib.hid (show stV rn rd fn fd n = false by simp [stV, two, hb0])
      go_enter Try.func20, Try.ntmps20
      go_wp2_with fail
      refine (c_implFracValid _ _ _).mono ?_
      rintro e w1 ⟨rfl, hb⟩
      have J1 := Lib.hid ((((blk_new w _ _).alloc _).alloc _).below hb (by simp <;> omega))
      have K1 := Lib.hid (((blk_new1 w _ _ _).alloc _).below hb (by simp <;> omega))
      have R1 := Lib.hid ((blk_new2 w _ _ _ _).below hb (by simp))
      have hB1 : Below w.heap.size w w1 := (show Below w.heap.size w _ from by go_grown).trans (hb.mono (by simp <;> omega))
      obtain ⟨cJ1, dJ1, fJ1, hJ1⟩ := J1.out.two
      obtain ⟨cK1, dK1, fK1, hK1⟩ := K1.out.two
      obtain ⟨cR1, dR1, fR1, hR1⟩ := R1.out.two
      have yJ1 := J1.out.lt
      have yK1 := K1.out.lt
      have yR1 := R1.out.lt
      clear hb
      go_wp2_with fail
      refine (c_implFracValid _ _ _).mono ?_
      rintro e w2 ⟨rfl, hb⟩
      have J2 := Lib.hid (blk_b0 J1.out hb)
      have K2 := Lib.hid (blk_b0 K1.out hb)
      have R2 := Lib.hid (blk_b0 R1.out hb)
      have hB2 := bel0 hB1 hb
      obtain ⟨cJ2, dJ2, fJ2, hJ2⟩ := J2.out.two
      obtain ⟨cK2, dK2, fK2, hK2⟩ := K2.out.two
      obtain ⟨cR2, dR2, fR2, hR2⟩ := R2.out.two
      have yJ2 := J2.out.lt
      have yK2 := K2.out.lt
      have yR2 := R2.out.lt
      clear hb
      clear cJ1 dJ1 fJ1 hJ1 cK1 dK1 fK1 hK1 cR1 dR1 fR1 hR1
      go_wp2
      refine bodyPost_ret (v := .tuple #[.agg #[.int .i64 0, .int .i64 0], .bool false]) (by simp [results, Try.results20, go_sem, *]) rfl (st_no HK.out ?_)
      go_grown
  · have HK := Lib.hid (show stV rn rd fn fd n = false by simp [stV, two, ha])
    go_enter Try.func20, Try.ntmps20
    go_wp2_with fail
    refine (c_implFracValid _ _ _).mono ?_
    rintro e w1 ⟨rfl, hb⟩
    have J1 := Lib.hid ((((blk_new w _ _).alloc _).alloc _).below hb (by simp <;> omega))
    have K1 := Lib.hid (((blk_new1 w _ _ _).alloc _).below hb (by simp <;> omega))
    have R1 := Lib.hid ((blk_new2 w _ _ _ _).below hb (by simp))
    have hB1 : Below w.heap.size w w1 := (show Below w.heap.size w _ from by go_grown).trans (hb.mono (by simp <;> omega))
    obtain ⟨cJ1, dJ1, fJ1, hJ1⟩ := J1.out.two
    obtain ⟨cK1, dK1, fK1, hK1⟩ := K1.out.two
    obtain ⟨cR1, dR1, fR1, hR1⟩ := R1.out.two
    have yJ1 := J1.out.lt
    have yK1 := K1.out.lt
    have yR1 := R1.out.lt
    clear hb
    go_wp2
    refine bodyPost_ret (v := .tuple #[.agg #[.int .i64 0, .int .i64 0], .bool false]) (by simp [results, Try.results20, go_sem, *]) rfl (st_no HK.out ?_)
    go_grown

set_option maxHeartbeats 4000000 in
theorem c_specWaterSteps (rn rd fn fd n : Int) (w : World) :
    Calls Try.prog 21 #[.agg #[.int .i64 rn, .int .i64 rd], .agg #[.int .i64 fn, .int .i64 fd], .int .i64 n] w (StPost rn rd fn fd n w) := by
  rcases Bool.eq_false_or_eq_true (two rn rd fn fd) with h2 | h2
  · rcases Bool.eq_false_or_eq_true (inB n 0 10) with hn | hn
    · have HTW := Lib.hid h2
      have HRV := Lib.hid (two_yes h2).1
      have HFV := Lib.hid (two_yes h2).2
      obtain ⟨hn0, hn1⟩ := inB_true hn
      obtain ⟨n, rfl⟩ : ∃ m : Nat, n = (m : Int) := ⟨n.toNat, by omega⟩
      have HN10 : n ≤ 10 := by omega
      go_enter Try.func21, Try.ntmps21
      go_wp2_with fail
      refine (c_l2Two _ _ _ _ _).mono ?_
      rintro e w1 ⟨rfl, hb⟩
      have J1 := Lib.hid ((((blk_new w _ _).alloc _).alloc _).below hb (by simp <;> omega))
      have K1 := Lib.hid (((blk_new1 w _ _ _).alloc _).below hb (by simp <;> omega))
      have R1 := Lib.hid ((blk_new2 w _ _ _ _).below hb (by simp))
      have hB1 : Below w.heap.size w w1 := (show Below w.heap.size w _ from by go_grown).trans (hb.mono (by simp <;> omega))
      obtain ⟨cJ1, dJ1, fJ1, hJ1⟩ := J1.out.two
      obtain ⟨cK1, dK1, fK1, hK1⟩ := K1.out.two
      obtain ⟨cR1, dR1, fR1, hR1⟩ := R1.out.two
      have yJ1 := J1.out.lt
      have yK1 := K1.out.lt
      have yR1 := R1.out.lt
      clear hb
      go_wp2_with fail
      refine (c_l6In _ _ _ _).mono ?_
      rintro e w' ⟨rfl, rfl⟩
      go_wp2_with fail
      have HG0 : w.heap.size ≤ w1.heap.size := by omega
      have HG1 : w1.heap.size ≠ w.heap.size + 1 := by omega
      have HG2 : w1.heap.size ≠ w.heap.size + 1 + 1 := by omega
      go_loopw [9] (fun i wr => StRel rn rd fn fd n w1.heap.size w i wr) (fun i _ => n - (intOf i).toNat)
      case atStart => exact ⟨0, Nat.zero_le _, rfl, rfl, blk_new _ _ _, K1.out.alloc _, R1.out.alloc _, hB1.alloc hB1.size _⟩
      case round =>
        obtain ⟨k, hk, rfl, ho, hJ, hK, hR, hB⟩ := hrel
        have HO := Lib.hid ho
        have J3 := Lib.hid hJ
        have K3 := Lib.hid hK
        have R3 := Lib.hid hR
        obtain ⟨cJ3, dJ3, fJ3, hJ3⟩ := J3.out.two
        obtain ⟨cK3, dK3, fK3, hK3⟩ := K3.out.two
        obtain ⟨cR3, dR3, fR3, hR3⟩ := R3.out.two
        have yJ3 := J3.out.lt
        have yK3 := K3.out.lt
        have yR3 := R3.out.lt
        clear ho hJ hK hR
        by_cases hlt : k < n
        · obtain ⟨N0, hN0⟩ : ∃ x, x = stN rn rd fn fd k := ⟨_, rfl⟩
          obtain ⟨D0, hD0⟩ : ∃ x, x = stD rn rd fn fd k := ⟨_, rfl⟩
          have HV0 := Lib.hid (st_vF HRV.out HO.out)
          have HN0 := Lib.hid hN0
          have HD0 := Lib.hid hD0
          rw [← hN0] at cJ3
          rw [← hD0] at dJ3
          rw [← hN0, ← hD0] at HV0
          have HT := Lib.hid (show two N0 D0 fn fd = true by simp [two, HV0.out, HFV.out])
          clear hN0 hD0
          rcases Bool.eq_false_or_eq_true (okF (N0 * fn) (D0 * fd)) with hok | hok
          · obtain ⟨N1, hN1⟩ : ∃ x, nF (N0 * fn) (D0 * fd) = x := ⟨_, rfl⟩
            obtain ⟨D1, hD1⟩ : ∃ x, dF (N0 * fn) (D0 * fd) = x := ⟨_, rfl⟩
            have HN1 := Lib.hid hN1
            have HD1 := Lib.hid hD1
            have HOK := Lib.hid hok
            clear hN1 hD1 hok
            go_wp2_with fail
            refine (c_specFracMul _ _ _ _ _).mono ?_
            intro e w4 hp
            obtain ⟨rfl, hb⟩ := op_at HT.out HN1.out HD1.out HOK.out hp
            clear hp
            have J4 := Lib.hid (blk_b0 J3.out hb)
            have K4 := Lib.hid (blk_b0 K3.out hb)
            have R4 := Lib.hid (blk_b0 R3.out hb)
            have hB4 := bel0 hB hb
            obtain ⟨cJ4, dJ4, fJ4, hJ4⟩ := J4.out.two
            obtain ⟨cK4, dK4, fK4, hK4⟩ := K4.out.two
            obtain ⟨cR4, dR4, fR4, hR4⟩ := R4.out.two
            rw [← HN0.out] at cJ4
            rw [← HD0.out] at dJ4
            have yJ4 := J4.out.lt
            have yK4 := K4.out.lt
            have yR4 := R4.out.lt
            have nJ : w4.heap.size ≠ w1.heap.size := by omega
            clear hb
            go_wp2
            go_roundw
            case rel => exact st_round (N := N1) (D := D1) hlt HO.out (by rw [← HN0.out, ← HD0.out]; exact HOK.out) HG0 HG1 HG2 J4.out K4.out R4.out hB4 _ (by rw [← HN0.out, ← HD0.out]; exact HN1.out) (by rw [← HN0.out, ← HD0.out]; exact HD1.out) (by go_num)
            case measure => simp [intOf]; omega
          · have HOK := Lib.hid (show okO (two N0 D0 fn fd) (N0 * fn) (D0 * fd) = false by simp [okO, hok])
            have HK := Lib.hid (show stV rn rd fn fd (n : Int) = false by
              have h1 : stO rn rd fn fd (k + 1) = false := by rw [stO_succ, ← HN0.out, ← HD0.out, hok, Bool.and_false]
              simp [stV, stO_not h1 (show k + 1 ≤ n by omega)])
            clear hok
            go_wp2_with fail
            refine (c_specFracMul _ _ _ _ _).mono ?_
            intro e w4 hp
            obtain ⟨rfl, hb⟩ := op_bad HOK.out hp
            clear hp
            have J4 := Lib.hid (blk_b0 J3.out hb)
            have K4 := Lib.hid (blk_b0 K3.out hb)
            have R4 := Lib.hid (blk_b0 R3.out hb)
            have hB4 := bel0 hB hb
            obtain ⟨cJ4, dJ4, fJ4, hJ4⟩ := J4.out.two
            obtain ⟨cK4, dK4, fK4, hK4⟩ := K4.out.two
            obtain ⟨cR4, dR4, fR4, hR4⟩ := R4.out.two
            rw [← HN0.out] at cJ4
            rw [← HD0.out] at dJ4
            have yJ4 := J4.out.lt
            have yK4 := K4.out.lt
            have yR4 := R4.out.lt
            have nJ : w4.heap.size ≠ w1.heap.size := by omega
            clear hb
            go_wp2
            refine bodyPost_ret (v := .tuple #[.agg #[.int .i64 0, .int .i64 0], .bool false]) (by simp [results, Try.results21, go_sem, *]) rfl (st_no HK.out ?_)
            go_grown
        · obtain rfl : k = n := by omega
          go_wp2
          refine bodyPost_ret (v := .tuple #[.agg #[.int .i64 (stN rn rd fn fd k), .int .i64 (stD rn rd fn fd k)], .bool true]) (by simp [results, Try.results21, go_sem, *]) rfl (st_yes HTW.out HN10 HO.out ?_)
          go_grown
    · have HK := Lib.hid (show stV rn rd fn fd n = false by simp [stV, hn])
      go_enter Try.func21, Try.ntmps21
      go_wp2_with fail
      refine (c_l2Two _ _ _ _ _).mono ?_
      rintro e w1 ⟨rfl, hb⟩
      have J1 := Lib.hid ((((blk_new w _ _).alloc _).alloc _).below hb (by simp <;> omega))
      have K1 := Lib.hid (((blk_new1 w _ _ _).alloc _).below hb (by simp <;> omega))
      have R1 := Lib.hid ((blk_new2 w _ _ _ _).below hb (by simp))
      have hB1 : Below w.heap.size w w1 := (show Below w.heap.size w _ from by go_grown).trans (hb.mono (by simp <;> omega))
      obtain ⟨cJ1, dJ1, fJ1, hJ1⟩ := J1.out.two
      obtain ⟨cK1, dK1, fK1, hK1⟩ := K1.out.two
      obtain ⟨cR1, dR1, fR1, hR1⟩ := R1.out.two
      have yJ1 := J1.out.lt
      have yK1 := K1.out.lt
      have yR1 := R1.out.lt
      clear hb
      go_wp2_with fail
      refine (c_l6In _ _ _ _).mono ?_
      rintro e w' ⟨rfl, rfl⟩
      go_wp2
      refine bodyPost_ret (v := .tuple #[.agg #[.int .i64 0, .int .i64 0], .bool false]) (by simp [results, Try.results21, go_sem, *]) rfl (st_no HK.out ?_)
      go_grown
  · have HK := Lib.hid (show stV rn rd fn fd n = false by simp [stV, h2])
    go_enter Try.func21, Try.ntmps21
    go_wp2_with fail
    refine (c_l2Two _ _ _ _ _).mono ?_
    rintro e w1 ⟨rfl, hb⟩
    have J1 := Lib.hid ((((blk_new w _ _).alloc _).alloc _).below hb (by simp <;> omega))
    have K1 := Lib.hid (((blk_new1 w _ _ _).alloc _).below hb (by simp <;> omega))
    have R1 := Lib.hid ((blk_new2 w _ _ _ _).below hb (by simp))
    have hB1 : Below w.heap.size w w1 := (show Below w.heap.size w _ from by go_grown).trans (hb.mono (by simp <;> omega))
    obtain ⟨cJ1, dJ1, fJ1, hJ1⟩ := J1.out.two
    obtain ⟨cK1, dK1, fK1, hK1⟩ := K1.out.two
    obtain ⟨cR1, dR1, fR1, hR1⟩ := R1.out.two
    have yJ1 := J1.out.lt
    have yK1 := K1.out.lt
    have yR1 := R1.out.lt
    clear hb
    go_wp2
    refine bodyPost_ret (v := .tuple #[.agg #[.int .i64 0, .int .i64 0], .bool false]) (by simp [results, Try.results21, go_sem, *]) rfl (st_no HK.out ?_)
    go_grown

end Go.Proofs.Ytbbipieadjggkaa
