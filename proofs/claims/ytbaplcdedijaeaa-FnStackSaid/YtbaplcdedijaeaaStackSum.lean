/-
  Contracts of StackSum, of the program and of the reference.
-/
import Derived.Test.YtbaplcdedijaeaaStackRows
import Derived.Test.YtbaplcdedijaeaaIntsOwn
namespace Go.Proofs.Ytbaplcdedijaeaa
open Go.RowKit

/-- block g is just the numbers of l -/
def RowE (w : World) (g : Nat) (t : TypeId) (l : List Int) : Prop := Blk w g t (ints l).toArray
section
variable {w w' : World} {g : Nat} {t : TypeId} {l : List Int}
theorem RowE.cell (h : RowE w g t l) {j : Nat} (hj : j < l.length) : w.cell? ⟨g, j, none⟩ = some (.int .i64 (ix l j)) ∧ w.frozen? ⟨g, j, none⟩ = false := by
  refine ⟨?_, Blk.frozen h _⟩
  rw [Blk.cell h]
  simpa using ints_at l j hj
theorem RowE.put (h : RowE w g t l) (j : Nat) (x : Int) : RowE (w.setCell ⟨g, j, none⟩ (.int .i64 x)) g t (l.set j x) := by
  have := Blk.put h j (.int .i64 x)
  have e : (ints l).toArray.setIfInBounds j (.int .i64 x) = (ints (l.set j x)).toArray := by simp [ints, List.map_set]
  rwa [e] at this
theorem RowE.below (h : RowE w g t l) (hb : Below w.heap.size w w') : RowE w' g t l := Blk.below h hb (Blk.lt h)
theorem RowE.made {base n : Nat} (h : w.ownsRow base t 1 (.slice (some ⟨g, 0, none⟩) n n) n (madeCells #[Value.int .i64 0] n).toList) : RowE w g t (List.replicate n 0) := by
  obtain ⟨cs, hb, hs, _, ht⟩ := Blk.of_own h
  have e : (madeCells #[Value.int .i64 0] n).toList = List.replicate n (.int .i64 0) := toList_madeCells_one _ _
  rw [e, Nat.mul_one, List.take_of_length_le (by simp; omega)] at ht
  have e2 : cs = (ints (List.replicate n 0)).toArray := by
    apply Array.ext'
    rw [ht]
    simp [ints]
  rw [e2] at hb
  exact hb
theorem RowE.own {base : Nat} (h : RowE w g t l) (hb : base ≤ g) (hn : l.length ≤ maxLen) : OwnI w base t (.slice (some ⟨g, 0, none⟩) l.length l.length) l.length l :=
  ⟨⟨by rw [ints_len, Nat.mul_one], .inr ⟨g, l.length, _, rfl, hb, h, Nat.le_refl _, hn, by simp [ints_len], by rw [Nat.mul_one]; exact List.take_of_length_le (by simp [ints])⟩⟩, rfl⟩
end
theorem cell_1 (W : World) (t : TypeId) (u : Value) : ∀ j x, [u][j]? = some x → (W.alloc (.cells #[u] t)).cell? ((⟨W.heap.size, 0, none⟩ : Addr).add j) = some x := by
  intro j x hx
  match j with
  | 0 =>
    have hb : Blk (W.alloc (.cells #[u] t)) W.heap.size t #[u] := heap_alloc_new W _
    rw [add_none, hb.cell]
    simpa using hx
  | j + 1 => simp at hx

/-- the sums of the first k rows, the first q places of one row more added -/
def pL (L : List (List Int)) (m k q : Nat) : List Int := (List.range m).map fun j => if j < q then ps L j (k + 1) else ps L j k
theorem pL_len (L : List (List Int)) (m k q : Nat) : (pL L m k q).length = m := by simp [pL]
theorem pL_zero (L : List (List Int)) (m : Nat) : pL L m 0 0 = List.replicate m 0 := by
  refine List.ext_getElem (by simp [pL]) fun i h1 h2 => ?_
  simp [pL, ps]
theorem pL_next (L : List (List Int)) (m k : Nat) : pL L m k m = pL L m (k + 1) 0 := by
  refine List.ext_getElem (by simp [pL]) fun i h1 h2 => ?_
  simp only [pL, List.length_map, List.length_range] at h1
  simp [pL, h1]
theorem pL_ix {L : List (List Int)} {m k q : Nat} (hq : q < m) : ix (pL L m k q) q = ps L q k := by
  rw [ix_eq (by rw [pL_len]; exact hq)]
  simp [pL]
theorem pL_set {L : List (List Int)} {m k q : Nat} : (pL L m k q).set q (ps L q (k + 1)) = pL L m k (q + 1) := by
  refine List.ext_getElem (by simp [pL]) fun i h1 h2 => ?_
  rw [List.getElem_set]
  by_cases e : q = i
  · subst e; simp [pL]
  · rw [if_neg e]
    have : (i < q) ↔ (i < q + 1) := by omega
    simp [pL, this]
theorem pL_end (L : List (List Int)) : pL L (wide L) L.length 0 = sums L := by
  refine List.ext_getElem (by simp [pL, sums]) fun i h1 h2 => ?_
  simp [pL, sums, sumAt]

theorem info_int : (Try.prog.info? 3).map (fun i => (i.zero, i.size, i.bytes)) = some (some (.int .i64 0), 1, 8) := by kernel_rfl

def SumPost (L : List (List Int)) (w : World) (e : Ending) (w' : World) : Prop :=
  ∃ A n c, e = .returned (.tuple #[.slice A n c, .bool (vStack L)]) ∧ n ≤ 20 ∧ OwnI w' w.heap.size 3 (.slice A n c) n (sumV L) ∧ Below w.heap.size w w'
theorem sum_no {L : List (List Int)} {w W : World} {A : Option Addr} {c : Nat} (h : vStack L = false) (hO : OwnI W w.heap.size 3 (.slice A 0 c) 0 []) (hB : Below w.heap.size w W) : SumPost L w (.returned (.tuple #[.slice A 0 c, .bool false])) W :=
  ⟨A, 0, c, by rw [h], by omega, by rw [sumV, h]; exact hO, hB⟩
theorem sum_yes {L : List (List Int)} {w W : World} {A : Option Addr} {n c : Nat} {l : List Int} (h : vStack L = true) (hn : n ≤ 20) (hl : l = sums L) (hO : OwnI W w.heap.size 3 (.slice A n c) n l) (hB : Below w.heap.size w W) : SumPost L w (.returned (.tuple #[.slice A n c, .bool true])) W :=
  ⟨A, n, c, by rw [h], hn, by rw [sumV, if_pos h, ← hl]; exact hO, hB⟩
def InRel (L : List (List Int)) (m k g : Nat) (w : World) (i : Value) (wr : World) : Prop :=
  ∃ q : Nat, q ≤ m ∧ i = .int .i64 q ∧ RowE wr g 3 (pL L m k q) ∧ Below w.heap.size w wr
theorem in_step {L : List (List Int)} {m k q g : Nat} {w W : World} {x : Int} {i : Value} (hq : q < m) (hi : i = .int .i64 ((q + 1 : Nat) : Int)) (hR : RowE W g 3 (pL L m k q)) (hB : Below w.heap.size w W) (hg : w.heap.size ≤ g) (hx : x = ps L q (k + 1)) : InRel L m k g w i (W.setCell ⟨g, q, none⟩ (.int .i64 x)) := by
  subst hx
  refine ⟨q + 1, by omega, hi, ?_, hB.setCell hg _⟩
  rw [← pL_set]
  exact hR.put _ _

set_option maxHeartbeats 2000000 in
theorem c_implStackSum (A : Option Addr) (n c : Nat) (rs : List RV) (w : World) (hn : n ≤ 2000000) (h : RdR w A n rs) (hs : Short rs) :
    Calls Try.prog 18 #[.slice A n c] w (SumPost (vals rs) w) := by
  have HR := Lib.hid h
  have HL := Lib.hid (show (vals rs).length = n by rw [vals_len]; exact h.len)
  have HS := Lib.hid hs
  clear h hs
  obtain ⟨i0, hi, hz0, hz1, hz2⟩ := info_parts info_int
  have HI := Lib.hid hi
  have HZ0 := Lib.hid hz0
  have HZ1 := Lib.hid hz1
  have HZ2 := Lib.hid hz2
  clear hi hz0 hz1 hz2
  rcases Bool.eq_false_or_eq_true (vStack (vals rs)) with hv | hv
  · have HV := Lib.hid hv
    obtain ⟨hy, hn1, hn6⟩ := vStack_yes hv
    have HY := Lib.hid hy
    have HW := Lib.hid (wide_bd hv)
    have h6 : n ≤ 6 := by have := HL.out; omega
    have h1 : 1 ≤ n := by have := HL.out; omega
    clear hv hy hn1 hn6
    obtain ⟨b, off, rfl, hb, hc⟩ := HR.out.at_ (by omega)
    have HC := Lib.hid hc
    have hc0 := hc 0 (by omega)
    rw [Nat.add_zero] at hc0
    clear hc
    obtain ⟨m, hm⟩ : ∃ m, (rv rs 0).n = m := ⟨_, rfl⟩
    have HMW := Lib.hid (show wide (vals rs) = m by
      have e := (HR.out.row (show 0 < n by omega)).1.len
      rw [wide, rw_vals (by have := HR.out.len; omega), e, hm])
    rw [hm] at hc0
    have hm1 : 1 ≤ m := by have := HW.out; have := HMW.out; omega
    have hm20 : m ≤ 20 := by have := HW.out; have := HMW.out; omega
    clear hm
    have hz1 : (0 : Int) < (n : Int) := by omega
    go_enter Try.func18, Try.ntmps18
    go_wp2_with fail
    refine (c_implStackValid _ _ _ rs _ hn HR.out HS.out).mono ?_
    rintro e w' ⟨he, rfl⟩
    rw [HV.out] at he
    subst he
    go_wp2_with (at_make; refine wpList_make_full _ rfl _ _ 29 rfl w.heap.size 3 i0 (.int .i64 0) 1 Try.underlying29 HI.out HZ0.out HZ1.out _ _ _ _ m rfl rfl rfl rfl ?b1 ?b2 ?b3 ?_)
    case b1 => rw [HZ2.out]; omega
    case b2 => unfold maxLen; omega
    case b3 => exact Nat.le_refl _
    intro w1 hown hgrow
    have R1 := Lib.hid (RowE.made hown)
    have hB1 : Below w.heap.size w w1 := (Below.refl _ _).grown hgrow (Nat.le_refl _) (fun k hk => by cases hk)
    clear hown hgrow HI HZ0 HZ1 HZ2
    go_wp2_with fail
    go_loopw [19] (fun i wr => ∃ k : Nat, k ≤ n ∧ i = .int .i64 k ∧ RowE wr w.heap.size 3 (pL (vals rs) m k 0) ∧ Below w.heap.size w wr) (fun i _ => n - (intOf i).toNat)
    case atStart => exact ⟨0, Nat.zero_le _, rfl, by rw [pL_zero]; exact R1.out, hB1⟩
    case round =>
      obtain ⟨k, hk, rfl, hR, hB⟩ := hrel
      have R2 := Lib.hid hR
      have hB2 := hB
      clear hR hB
      by_cases hlt : k < n
      · have hck := HC.out k hlt
        rw [← hB2.cell (p := ⟨b, off + k, none⟩) hb] at hck
        have hkl : k < (vals rs).length := by have := HL.out; omega
        have hkr : k < rs.length := by have := HR.out.len; omega
        have hrk := (HR.out.row hlt).1
        have HWK := Lib.hid (rw_vals hkr)
        have hnk : (rv rs k).n = m := by
          have h1 := (HY.out k hkl).2
          have h2 := HMW.out
          rw [HWK.out, hrk.len] at h1
          unfold wide at h2
          omega
        rw [hnk] at hck
        obtain ⟨b2, off2, e2, hb2, hc2⟩ := hrk.at_ (by omega)
        rw [e2] at hck
        rw [hnk] at hc2
        have HC2 := Lib.hid hc2
        have HVR := Lib.hid (vRow_yes (HY.out k hkl).1).1
        have HLK := Lib.hid (hrk.len.trans hnk)
        clear hc2 e2 hnk hrk
        go_wp2_with fail
        go_loopw [25] (fun i wr => InRel (vals rs) m k w.heap.size w i wr) (fun i _ => m - (intOf i).toNat)
        case atStart => exact ⟨0, Nat.zero_le _, rfl, R2.out, hB2⟩
        case round =>
          obtain ⟨q, hq, rfl, hR3, hB3⟩ := hrel
          have R3 := Lib.hid hR3
          by_cases hlt2 : q < m
          · have hcq := HC2.out q hlt2
            rw [← hB3.cell (p := ⟨b2, off2 + q, none⟩) hb2] at hcq
            obtain ⟨hx, hf⟩ := hR3.cell (j := q) (by rw [pL_len]; exact hlt2)
            rw [pL_ix hlt2] at hx
            have hbx := HVR.out q (by rw [HWK.out, HLK.out]; exact hlt2)
            rw [HWK.out] at hbx
            obtain ⟨x0, x1⟩ := hbx
            obtain ⟨p0, p1⟩ := ps_bd HV.out (show q < wide (vals rs) by rw [HMW.out]; exact hlt2) (show k ≤ (vals rs).length by omega)
            have HP := Lib.hid (show ps (vals rs) q k + ix (rv rs k).l q = ps (vals rs) q (k + 1) by rw [ps, HWK.out])
            clear hR3
            go_wp2
            go_roundw
            case rel => exact in_step hlt2 (by go_num) R3.out hB3 (Nat.le_refl _) HP.out
            case measure => simp [intOf]; omega
          · obtain rfl : q = m := by omega
            have R4 := Lib.hid (show RowE _ w.heap.size 3 (pL (vals rs) q (k + 1) 0) by rw [← pL_next]; exact R3.out)
            clear hR3
            go_wp2
            go_roundw
            case rel => exact ⟨k + 1, by omega, by go_num, R4.out, hB3⟩
            case measure => simp [intOf]; omega
      · obtain rfl : k = n := by omega
        have HE := Lib.hid (show pL (vals rs) m k 0 = sums (vals rs) by rw [← pL_end, HMW.out, HL.out])
        have HOW := Lib.hid (RowE.own (base := w.heap.size) R2.out (Nat.le_refl _) (by rw [pL_len]; unfold maxLen; omega))
        rw [pL_len] at HOW
        go_wp2
        go_ret2
        exact sum_yes HV.out hm20 HE.out HOW.out hB2
  · have HV := Lib.hid hv
    clear hv
    go_enter Try.func18, Try.ntmps18
    go_wp2_with fail
    refine (c_implStackValid _ _ _ rs _ hn HR.out HS.out).mono ?_
    rintro e w' ⟨he, rfl⟩
    rw [HV.out] at he
    subst he
    go_wp2
    go_ret2
    exact sum_no HV.out (OwnI.nil _ _ _) (Below.refl _ _)

def SRel (L : List (List Int)) (w : World) (o i : Value) (wr : World) : Prop :=
  ∃ k : Nat, k ≤ wide L ∧ i = .int .i64 k ∧ OwnI wr w.heap.size 3 o k ((sums L).take k) ∧ Below w.heap.size w wr
theorem sums_take {L : List (List Int)} {k : Nat} (hk : k < wide L) : (sums L).take (k + 1) = (sums L).take k ++ [sumAt L k] := by
  rw [List.take_succ_eq_append_getElem (by rw [sums_len]; exact hk)]
  simp [sums]

set_option maxHeartbeats 2000000 in
theorem c_specStackSum (A : Option Addr) (n c : Nat) (rs : List RV) (w : World) (hn : n ≤ 2000000) (h : RdR w A n rs) (hs : Short rs) :
    Calls Try.prog 19 #[.slice A n c] w (SumPost (vals rs) w) := by
  have HR := Lib.hid h
  have HL := Lib.hid (show (vals rs).length = n by rw [vals_len]; exact h.len)
  have HS := Lib.hid hs
  clear h hs
  obtain ⟨i0, hi, hz0, hz1, hz2⟩ := info_parts info_int
  have HI := Lib.hid hi
  have HZ0 := Lib.hid hz0
  have HZ1 := Lib.hid hz1
  have HZ2 := Lib.hid hz2
  clear hi hz0 hz1 hz2
  rcases Bool.eq_false_or_eq_true (vStack (vals rs)) with hv | hv
  · have HV := Lib.hid hv
    obtain ⟨hy, hn1, hn6⟩ := vStack_yes hv
    have HW := Lib.hid (wide_bd hv)
    have h6 : n ≤ 6 := by have := HL.out; omega
    have h1 : 1 ≤ n := by have := HL.out; omega
    clear hv hy hn1 hn6
    obtain ⟨m, hm⟩ : ∃ m, (rv rs 0).n = m := ⟨_, rfl⟩
    have HMW := Lib.hid (show wide (vals rs) = m by
      have e := (HR.out.row (show 0 < n by omega)).1.len
      rw [wide, rw_vals (by have := HR.out.len; omega), e, hm])
    have HM := Lib.hid hm
    have hm1 : 1 ≤ m := by have := HW.out; have := HMW.out; omega
    have hm20 : m ≤ 20 := by have := HW.out; have := HMW.out; omega
    clear hm
    have hz1 : (0 : Int) < (n : Int) := by omega
    go_enter Try.func19, Try.ntmps19
    go_wp2_with fail
    refine (c_specStackValid _ _ _ rs _ hn (HR.out.below ((Below.refl _ _).alloc (Nat.le_refl _) _)) HS.out).mono ?_
    rintro e w1 ⟨he, hb⟩
    rw [HV.out] at he
    subst he
    have HO1 := Lib.hid ((OwnI.empty w 3 (Nat.le_refl _)).below hb)
    have hB1 : Below w.heap.size w w1 := ((Below.refl _ _).alloc (Nat.le_refl _) _).trans (hb.mono (by simp))
    clear hb
    go_wp2_with fail
    go_loopw [4, 5] (fun o i wr => SRel (vals rs) w o i wr) (fun _ i _ => m - (intOf i).toNat)
    case atStart => exact ⟨0, Nat.zero_le _, rfl, HO1.out, hB1⟩
    case round =>
      obtain ⟨k, hk, rfl, hO, hB⟩ := hrel
      have HO := Lib.hid hO
      have HRW := Lib.hid (HR.out.below hB)
      have hsz := hB.size
      obtain ⟨b, off, rfl, hb, hc⟩ := HRW.out.at_ (by omega)
      have hc0 := hc 0 (by omega)
      rw [Nat.add_zero, HM.out] at hc0
      have hkm : k ≤ m := by have := HMW.out; omega
      clear hc hO
      by_cases hlt : k < m
      · have hkw : k < wide (vals rs) := by have := HMW.out; omega
        have HT := Lib.hid (sums_take hkw)
        go_wp2_with fail
        refine (c_l41Sum _ _ _ rs k _ HRW.out HV.out hkw).mono ?_
        rintro e w' ⟨rfl, rfl⟩
        go_wp2_with (at_builtin; refine wpList_appendI (by rfl) _ _ 29 rfl w.heap.size 3 i0 (.int .i64 0) Try.underlying29 HI.out HZ0.out HZ1.out HZ2.out rfl _ _ _ rfl (HO.out.alloc _) ⟨wr.heap.size, 0, none⟩ (sumAt (vals rs) k) rfl (cell_1 _ _ _) (by omega) (by simp; omega) ?_; intro v' w5 hO5 hB5)
        go_roundw
        case rel => exact ⟨k + 1, by omega, by go_num, by rw [HT.out]; exact hO5, (hB.alloc hsz _).trans hB5⟩
        case measure => simp [intOf]; omega
      · obtain rfl : k = m := by omega
        have HE := Lib.hid (show (sums (vals rs)).take k = sums (vals rs) by rw [List.take_of_length_le (by rw [sums_len, HMW.out]; exact Nat.le_refl _)])
        obtain ⟨A4, c4, rfl, _⟩ := HO.out.form
        go_wp2
        go_ret2
        exact sum_yes HV.out hm20 HE.out HO.out hB
  · have HV := Lib.hid hv
    clear hv
    go_enter Try.func19, Try.ntmps19
    go_wp2_with fail
    refine (c_specStackValid _ _ _ rs _ hn (HR.out.below ((Below.refl _ _).alloc (Nat.le_refl _) _)) HS.out).mono ?_
    rintro e w1 ⟨he, hb⟩
    rw [HV.out] at he
    subst he
    have HO1 := Lib.hid ((OwnI.empty w 3 (Nat.le_refl _)).below hb)
    have hB1 : Below w.heap.size w w1 := ((Below.refl _ _).alloc (Nat.le_refl _) _).trans (hb.mono (by simp))
    clear hb
    go_wp2
    go_ret2
    exact sum_no HV.out HO1.out hB1
end Go.Proofs.Ytbaplcdedijaeaa
