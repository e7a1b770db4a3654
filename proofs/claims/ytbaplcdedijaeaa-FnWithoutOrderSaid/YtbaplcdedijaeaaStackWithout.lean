/-
  Contracts of slices.Clone at []int and of StackWithout, of the program and of the reference.
-/
import Derived.Test.YtbaplcdedijaeaaRowsOwn
import Derived.Test.YtbaplcdedijaeaaStackLaws
import Derived.Test.YtbaplcdedijaeaaStackSum
namespace Go.Proofs.Ytbaplcdedijaeaa
open Go.RowKit

def CloneP (n : Nat) (l : List Int) (w : World) (e : Ending) (w' : World) : Prop :=
  ∃ A c, e = .returned (.slice A n c) ∧ OwnI w' w.heap.size 3 (.slice A n c) n l ∧ Below w.heap.size w w'
set_option maxHeartbeats 1000000 in
theorem c_Clone (A : Option Addr) (n c : Nat) (l : List Int) (w : World) (hn : n ≤ 2000000) (h : RdI w A n l) :
    Calls Try.prog 42 #[.slice A n c] w (CloneP n l w) := by
  have HR := Lib.hid h
  clear h
  obtain ⟨i0, hi, hz0, hz1, hz2⟩ := info_parts info_int
  have HI := Lib.hid hi
  have HZ0 := Lib.hid hz0
  have HZ1 := Lib.hid hz1
  have HZ2 := Lib.hid hz2
  clear hi hz0 hz1 hz2
  have hq : ∀ (w : World) (a : Option Addr) (n c n' c' : Nat), (binOp .eql 29 (.slice a n c) (.slice none n' c')).run Try.prog w = .ok (.bool a.isNone) w := fun w a n c n' c' => Lib.run_eql_slice_nil w _ _ a n c n' c' Try.underlying29
  rcases A with _ | ad
  · have h0 : n = 0 := by
      rcases Nat.eq_zero_or_pos n with h0 | h0
      · exact h0
      · obtain ⟨b, off, he, _⟩ := HR.out.at_ h0
        cases he
    subst h0
    have HE := Lib.hid (List.eq_nil_of_length_eq_zero HR.out.len)
    go_enter Try.func42, Try.ntmps42
    go_wp2
    go_ret
    exact ⟨_, _, rfl, by rw [HE.out]; exact OwnI.nil _ _ _, Below.refl _ _⟩
  · go_enter Try.func42, Try.ntmps42
    go_wp2_with (at_builtin; refine wpList_appendJ (by rfl) _ _ 29 rfl w.heap.size 3 i0 (.int .i64 0) Try.underlying29 HI.out HZ0.out HZ1.out HZ2.out rfl _ 0 [] rfl (OwnI.empty w 3 (Nat.le_refl _)) (some ad) n c l rfl (HR.out.below ((Below.refl _ _).alloc (Nat.le_refl _) _)) (by omega) (by simp) ?_; intro v' w5 hO5 hB5)
    rw [Nat.zero_add, List.nil_append] at hO5
    have HO5 := Lib.hid hO5
    have HB5 := Lib.hid (((Below.refl w.heap.size w).alloc (Nat.le_refl _) _).trans hB5)
    obtain ⟨A5, c5, rfl, _⟩ := hO5.form
    clear hO5 hB5
    go_wp2
    go_ret
    exact ⟨_, _, rfl, HO5.out, HB5.out⟩

theorem cell_new1 (w : World) (t : TypeId) (u : Value) : (w.alloc (.cells #[u] t)).cell? ⟨w.heap.size, 0, none⟩ = some u := by
  have hb : Blk (w.alloc (.cells #[u] t)) w.heap.size t #[u] := heap_alloc_new w _
  rw [hb.cell]
  rfl
theorem info_rowS : (Try.prog.info? 29).map (fun i => (i.zero, i.size, i.bytes)) = some (some (.slice none 0 0), 1, 24) := by kernel_rfl
def WoPost (L : List (List Int)) (i : Int) (w : World) (e : Ending) (w' : World) : Prop :=
  ∃ A n c rs, e = .returned (.tuple #[.slice A n c, .bool (okW L i)]) ∧ n ≤ 6 ∧ OwnR w' w.heap.size 29 (.slice A n c) n rs ∧ Heads rs ∧ vals rs = woV L i ∧ Short rs ∧ Below w.heap.size w w'
theorem wo_no {L : List (List Int)} {i : Int} {w W : World} {A : Option Addr} {c : Nat} (h : okW L i = false) (hO : OwnR W w.heap.size 29 (.slice A 0 c) 0 []) (hB : Below w.heap.size w W) : WoPost L i w (.returned (.tuple #[.slice A 0 c, .bool false])) W :=
  ⟨A, 0, c, [], by rw [h], by omega, hO, Heads.nil, by rw [woV, h]; rfl, fun i hi => absurd hi (by simp), hB⟩
/-- what the loops keep: k rows have been looked at -/
def WoRel (L : List (List Int)) (j : Nat) (w : World) (o i : Value) (wr : World) : Prop :=
  ∃ (k : Nat) (rs : List RV), k ≤ L.length ∧ i = .int .i64 k ∧ OwnR wr w.heap.size 29 o rs.length rs ∧ Heads rs ∧ Short rs ∧ vals rs = (L.take k).eraseIdx j ∧ Below w.heap.size w wr
theorem wo_yes {L : List (List Int)} {i k : Nat} {w W : World} {A : Option Addr} {n c : Nat} {rs : List RV} (h : okW L (i : Int) = true) (hk : L.length = k) (hv : vals rs = (L.take k).eraseIdx i) (hn : rs.length = n) (hO : OwnR W w.heap.size 29 (.slice A n c) n rs) (hH : Heads rs) (hS : Short rs) (hB : Below w.heap.size w W) : WoPost L (i : Int) w (.returned (.tuple #[.slice A n c, .bool true])) W := by
  have hw := woV_stack h
  have hy := okW_yes h
  have e : vals rs = woV L (i : Int) := by rw [hv, ← hk, List.take_length, woV_yes h]; simp
  have hl : rs.length = L.length - 1 := by rw [← vals_len, e]; exact hw.2
  exact ⟨A, n, c, rs, by rw [h], by omega, hO, hH, e, hS, hB⟩
theorem wo_len {L : List (List Int)} {j k : Nat} {rs : List RV} (h : vals rs = (L.take k).eraseIdx j) (hk : k ≤ 6) : rs.length ≤ 6 := by
  have h1 : (vals rs).length ≤ (L.take k).length := by rw [h, List.length_eraseIdx]; split <;> omega
  rw [vals_len] at h1
  have : (L.take k).length ≤ k := by simp; omega
  omega
theorem wo_vals {L : List (List Int)} {i k : Nat} {rs : List RV} {r : RV} (hk : k < L.length) (hne : k ≠ i) (h : vals rs = (L.take k).eraseIdx i) (hr : rw_ L k = r.l) : vals (rs ++ [r]) = (L.take (k + 1)).eraseIdx i := by
  rw [erase_step hk hne, ← h, hr]
  simp [vals]
theorem Short.snoc {rs : List RV} {r : RV} (h : Short rs) (hr : r.n ≤ 2000000) : Short (rs ++ [r]) := fun i hi => by
  rw [rv_eq hi]
  by_cases e : i < rs.length
  · rw [List.getElem_append_left e]
    have := h i e
    rwa [rv_eq e] at this
  · rw [List.getElem_append_right (by omega)]
    simpa using hr

set_option maxHeartbeats 2000000 in
theorem c_implStackWithout (A : Option Addr) (n c : Nat) (rs : List RV) (i : Int) (w : World) (hn : n ≤ 2000000) (h : RdR w A n rs) (hs : Short rs) :
    Calls Try.prog 29 #[.slice A n c, .int .i64 i] w (WoPost (vals rs) i w) := by
  have HR := Lib.hid h
  have HL := Lib.hid (show (vals rs).length = n by rw [vals_len]; exact h.len)
  have HS := Lib.hid hs
  clear h hs
  obtain ⟨i0, hi, hz0, hz1, hz2⟩ := info_parts info_rowS
  have HI := Lib.hid hi
  have HZ0 := Lib.hid hz0
  have HZ1 := Lib.hid hz1
  have HZ2 := Lib.hid hz2
  clear hi hz0 hz1 hz2
  rcases Bool.eq_false_or_eq_true (vStack (vals rs)) with hv | hv
  · have HV := Lib.hid hv
    by_cases hi0 : i < 0
    · have HK := Lib.hid (show okW (vals rs) i = false by simp [okW, okI, inB_not (show i < 0 ∨ (((vals rs).length : Int) - 1) < i from .inl hi0)])
      clear hv
      go_enter Try.func29, Try.ntmps29
      go_wp2_with fail
      refine (c_implStackValid _ _ _ rs _ hn HR.out HS.out).mono ?_
      rintro e w' ⟨he, rfl⟩
      rw [HV.out] at he
      subst he
      go_wp2
      go_ret2
      exact wo_no HK.out (OwnR.nil _ _ _) (Below.refl _ _)
    · have hd0 : decide (i < 0) = false := by simp; omega
      obtain ⟨i, rfl⟩ : ∃ m : Nat, i = (m : Int) := ⟨i.toNat, by omega⟩
      by_cases hin : n ≤ i
      · have HK := Lib.hid (show okW (vals rs) i = false by have := HL.out; simp [okW, okI, inB_not (show (i : Int) < 0 ∨ (((vals rs).length : Int) - 1) < i from .inr (by omega))])
        clear hv
        go_enter Try.func29, Try.ntmps29
        go_wp2_with fail
        refine (c_implStackValid _ _ _ rs _ hn HR.out HS.out).mono ?_
        rintro e w' ⟨he, rfl⟩
        rw [HV.out] at he
        subst he
        go_wp2
        go_ret2
        exact wo_no HK.out (OwnR.nil _ _ _) (Below.refl _ _)
      · have hdn : decide ((n : Int) ≤ (i : Int)) = false := by simp; omega
        by_cases h1 : n = 1
        · subst h1
          have HK := Lib.hid (show okW (vals rs) i = false by simp [okW, HL.out])
          clear hv
          go_enter Try.func29, Try.ntmps29
          go_wp2_with fail
          refine (c_implStackValid _ _ _ rs _ hn HR.out HS.out).mono ?_
          rintro e w' ⟨he, rfl⟩
          rw [HV.out] at he
          subst he
          go_wp2
          go_ret2
          exact wo_no HK.out (OwnR.nil _ _ _) (Below.refl _ _)
        · have hd1 : ((n : Int) == 1) = false := by simp; omega
          have HK := Lib.hid (okW_mk hv (show i < (vals rs).length by have := HL.out; omega) (by have := HL.out; omega))
          have h6 : n ≤ 6 := by have := (vStack_yes hv).2.2; have := HL.out; omega
          clear hv
          go_enter Try.func29, Try.ntmps29
          go_wp2_with fail
          refine (c_implStackValid _ _ _ rs _ hn HR.out HS.out).mono ?_
          rintro e w' ⟨he, rfl⟩
          rw [HV.out] at he
          subst he
          go_wp2_with fail
          go_loopw [6, 29] (fun o q wr => WoRel (vals rs) i w o q wr) (fun _ q _ => n - (intOf q).toNat)
          case atStart => exact ⟨0, [], Nat.zero_le _, rfl, OwnR.nil _ _ _, Heads.nil, fun i hi => absurd hi (by simp), rfl, Below.refl _ _⟩
          case round =>
            obtain ⟨k, ks, hk, rfl, hO, hH, hSh, hvk, hB⟩ := hrel
            rw [HL.out] at hk
            have HO := Lib.hid hO
            have HH := Lib.hid hH
            have HSH := Lib.hid hSh
            have HVK := Lib.hid hvk
            have hk6 := wo_len hvk (by omega)
            have HRW := Lib.hid (HR.out.below hB)
            have hsz := hB.size
            obtain ⟨A4, c4, rfl, _⟩ := hO.form
            clear hO hH hSh hvk
            by_cases hlt : k < n
            · obtain ⟨b, off, rfl, hb, hc⟩ := HRW.out.at_ (by omega)
              have hck := hc k hlt
              have hkl : k < (vals rs).length := by have := HL.out; omega
              have hkr : k < rs.length := by have := HR.out.len; omega
              clear hc
              by_cases hki : k = i
              · subst hki
                have HE := Lib.hid (HVK.out.trans (erase_skip hkl).symm)
                go_wp2
                go_roundw
                case rel => exact ⟨k + 1, ks, by omega, by go_num, HO.out, HH.out, HSH.out, HE.out, hB⟩
                case measure => simp [intOf]; omega
              · have hne : ((k : Int) != (i : Int)) = true := by rw [bne_iff_ne]; omega
                have hsk := HS.out k hkr
                have HRK := Lib.hid (HRW.out.row hlt).1
                have HWK := Lib.hid (rw_vals hkr)
                go_wp2_with fail
                refine (c_Clone _ _ _ (rv rs k).l _ hsk HRK.out).mono ?_
                rintro e w2 ⟨A2, c2, rfl, hO2, hb2⟩
                have HO3 := Lib.hid (HO.out.below hb2)
                obtain ⟨_, _, hv2, hnc2, _, hrd2, hhd2⟩ := hO2.form
                injection hv2 with hv3 hv4 hv5
                subst hv3 hv5
                have HRD := Lib.hid hrd2
                have HHD := Lib.hid (show 0 < (rv rs k).n → ∃ g, A2 = some ⟨g, 0, none⟩ ∧ (ks.length = 0 → (Value.slice A4 ks.length c4).ownBlock ≠ some g) from fun h0 => by
                  obtain ⟨g, e, hg, _⟩ := hhd2 h0
                  refine ⟨g, e, fun _ hv => ?_⟩
                  have := HO.out.lt hv
                  omega)
                have hB2 := hB.trans (hb2.mono hsz)
                have hsz2 := hB2.size
                clear hO2 hrd2 hhd2 hb2 HO HRK
                go_wp2_with (at_builtin; refine wpList_appendR1 (by rfl) _ _ 22 rfl w.heap.size 29 i0 (.slice none 0 0) Try.underlying22 HI.out HZ0.out HZ1.out HZ2.out rfl _ ks.length ks rfl (HO3.out.below ((Below.refl _ _).alloc (Nat.le_refl _) _)) HH.out w2.heap.size ⟨A2, (rv rs k).n, c2, (rv rs k).l⟩ rfl (cell_new1 w2 _ _) (HRD.out.below ((Below.refl _ _).alloc (Nat.le_refl _) _)) hnc2 HHD.out (by omega) (by simp; omega) ?_; intro v' w5 hO5 hH5 hB5 _)
                have HO5 := Lib.hid (show OwnR w5 w.heap.size 29 v' (ks ++ [RV.mk A2 (rv rs k).n c2 (rv rs k).l]).length (ks ++ [RV.mk A2 (rv rs k).n c2 (rv rs k).l]) by simpa using hO5)
                clear hO5
                go_roundw
                case rel => exact ⟨k + 1, ks ++ [RV.mk A2 (rv rs k).n c2 (rv rs k).l], by omega, by go_num, HO5.out, hH5, HSH.out.snoc hsk, wo_vals hkl hki HVK.out HWK.out, (hB2.alloc hsz2 _).trans hB5⟩
                case measure => simp [intOf]; omega
            · obtain rfl : k = n := by omega
              go_wp2
              go_ret2
              exact wo_yes HK.out HL.out HVK.out rfl HO.out HH.out HSH.out hB
  · have HV := Lib.hid hv
    have HK := Lib.hid (show okW (vals rs) i = false by simp [okW, okI, hv])
    clear hv
    go_enter Try.func29, Try.ntmps29
    go_wp2_with fail
    refine (c_implStackValid _ _ _ rs _ hn HR.out HS.out).mono ?_
    rintro e w' ⟨he, rfl⟩
    rw [HV.out] at he
    subst he
    go_wp2
    go_ret2
    exact wo_no HK.out (OwnR.nil _ _ _) (Below.refl _ _)

theorem below_copy {wr w2 : World} {o : Obj} (h : Below wr.heap.size (wr.alloc o) w2) : Below wr.heap.size wr w2 := ((Below.refl _ _).alloc (Nat.le_refl _) _).trans h
theorem own_copy {w2 : World} {base : Nat} {t : TypeId} {v : Value} {n : Nat} {l : List Int} (h : OwnI w2 base t v (0 + n) ([] ++ l)) : OwnI w2 base t v n l := by simpa using h
theorem after_copy {w2 : World} {base : Nat} {t : TypeId} {A : Option Addr} {n c m : Nat} {l : List Int} {v : Value} (h : OwnI w2 base t (.slice A n c) n l) (hv : ∀ g, v.ownBlock = some g → g < base) : 0 < n → ∃ g, A = some ⟨g, 0, none⟩ ∧ (m = 0 → v.ownBlock ≠ some g) := fun h0 => by
  obtain ⟨A', c', e, _, _, _, hh⟩ := h.form
  injection e with e1 e2 e3
  subst e1
  obtain ⟨g, e, hg, _⟩ := hh h0
  refine ⟨g, e, fun _ h2 => ?_⟩
  have := hv g h2
  omega
set_option maxHeartbeats 2000000 in
theorem c_specStackWithout (A : Option Addr) (n c : Nat) (rs : List RV) (i : Int) (w : World) (hn : n ≤ 2000000) (h : RdR w A n rs) (hs : Short rs) :
    Calls Try.prog 30 #[.slice A n c, .int .i64 i] w (WoPost (vals rs) i w) := by
  have HR := Lib.hid h
  have HL := Lib.hid (show (vals rs).length = n by rw [vals_len]; exact h.len)
  have HS := Lib.hid hs
  clear h hs
  obtain ⟨i0, hi, hz0, hz1, hz2⟩ := info_parts info_rowS
  have HI := Lib.hid hi
  have HZ0 := Lib.hid hz0
  have HZ1 := Lib.hid hz1
  have HZ2 := Lib.hid hz2
  obtain ⟨j0, hj, hy0, hy1, hy2⟩ := info_parts info_int
  have HJ := Lib.hid hj
  have HY0 := Lib.hid hy0
  have HY1 := Lib.hid hy1
  have HY2 := Lib.hid hy2
  clear hi hz0 hz1 hz2 hj hy0 hy1 hy2
  have HE0 := Lib.hid (OwnR.empty w 29 (Nat.le_refl _))
  have HR1 := Lib.hid (HR.out.below ((Below.refl _ _).alloc (Nat.le_refl _) (.cells #[] 29)))
  rcases Bool.eq_false_or_eq_true (vStack (vals rs)) with hv | hv
  · have HV := Lib.hid hv
    rcases Bool.eq_false_or_eq_true (inB i 0 ((n : Int) - 1)) with hin | hin
    · have HIN := Lib.hid hin
      obtain ⟨hi0, hi1⟩ := inB_true hin
      obtain ⟨i, rfl⟩ : ∃ m : Nat, i = (m : Int) := ⟨i.toNat, by omega⟩
      by_cases h1 : n = 1
      · have HK := Lib.hid (show okW (vals rs) i = false by simp [okW, HL.out, h1])
        have hd1 : ((n : Int) == 1) = true := by simp; omega
        clear hv hin h1 hi1
        go_enter Try.func30, Try.ntmps30
        go_wp2_with fail
        refine (c_specStackValid _ _ _ rs _ hn HR1.out HS.out).mono ?_
        rintro e w1 ⟨he, hb⟩
        rw [HV.out] at he
        subst he
        have HO1 := Lib.hid (HE0.out.below hb)
        have hB1 : Below w.heap.size w w1 := ((Below.refl _ _).alloc (Nat.le_refl _) _).trans (hb.mono (by simp))
        clear hb
        go_wp2_with fail
        refine (c_l6In _ _ _ _).mono ?_
        rintro e w' ⟨he, rfl⟩
        rw [HIN.out] at he
        subst he
        go_wp2
        go_ret2
        exact wo_no HK.out HO1.out hB1
      · have hd1 : ((n : Int) == 1) = false := by simp; omega
        have HK := Lib.hid (okW_mk hv (show i < (vals rs).length by have := HL.out; omega) (by have := HL.out; omega))
        have h6 : n ≤ 6 := by have := (vStack_yes hv).2.2; have := HL.out; omega
        clear hv hin
        go_enter Try.func30, Try.ntmps30
        go_wp2_with fail
        refine (c_specStackValid _ _ _ rs _ hn HR1.out HS.out).mono ?_
        rintro e w1 ⟨he, hb⟩
        rw [HV.out] at he
        subst he
        have HO1 := Lib.hid (HE0.out.below hb)
        have hB1 : Below w.heap.size w w1 := ((Below.refl _ _).alloc (Nat.le_refl _) _).trans (hb.mono (by simp))
        clear hb
        go_wp2_with fail
        refine (c_l6In _ _ _ _).mono ?_
        rintro e w' ⟨he, rfl⟩
        rw [HIN.out] at he
        subst he
        go_wp2_with fail
        go_loopw [6, 7] (fun o q wr => WoRel (vals rs) i w o q wr) (fun _ q _ => n - (intOf q).toNat)
        case atStart => exact ⟨0, [], Nat.zero_le _, rfl, HO1.out, Heads.nil, fun i hi => absurd hi (by simp), rfl, hB1⟩
        case round =>
          obtain ⟨k, ks, hk, rfl, hO, hH, hSh, hvk, hB⟩ := hrel
          rw [HL.out] at hk
          have HO := Lib.hid hO
          have HH := Lib.hid hH
          have HSH := Lib.hid hSh
          have HVK := Lib.hid hvk
          have hk6 := wo_len hvk (by omega)
          have HRW := Lib.hid (HR.out.below hB)
          have hsz := hB.size
          obtain ⟨A4, c4, rfl, _⟩ := hO.form
          clear hO hH hSh hvk
          by_cases hlt : k < n
          · obtain ⟨b, off, rfl, hb, hc⟩ := HRW.out.at_ (by omega)
            have hck := hc k hlt
            have hkl : k < (vals rs).length := by have := HL.out; omega
            have hkr : k < rs.length := by have := HR.out.len; omega
            clear hc
            by_cases hki : k = i
            · subst hki
              have HE := Lib.hid (HVK.out.trans (erase_skip hkl).symm)
              go_wp2
              go_roundw
              case rel => exact ⟨k + 1, ks, by omega, by go_num, HO.out, HH.out, HSH.out, HE.out, hB⟩
              case measure => simp [intOf]; omega
            · have hne : ((k : Int) != (i : Int)) = true := by rw [bne_iff_ne]; omega
              have hsk := HS.out k hkr
              have HRK := Lib.hid (HRW.out.row hlt).1
              have HWK := Lib.hid (rw_vals hkr)
              go_wp2_with (first | (at_builtin; (refine wpList_appendJ (by rfl) _ _ 29 rfl wr.heap.size 3 j0 (.int .i64 0) Try.underlying29 HJ.out HY0.out HY1.out HY2.out rfl _ 0 [] rfl (OwnI.empty wr 3 (Nat.le_refl _)) _ _ _ (rv rs k).l rfl (HRK.out.below ((Below.refl _ _).alloc (Nat.le_refl _) _)) (by omega) (by simp) ?_); intro v2 w2 hO2 hb2'; have hb2 := below_copy hb2'; clear hb2'; have HO2 := Lib.hid (own_copy hO2); obtain ⟨A2, c2, rfl, hnc2, _⟩ := HO2.out.form; have HHD := Lib.hid (after_copy (m := ks.length) (v := .slice A4 ks.length c4) HO2.out fun g hv => HO.out.lt hv); have HO3 := Lib.hid (HO.out.below hb2); have HB2 := Lib.hid hb2; have hB2 := hB.trans (hb2.mono hsz); have hsz2 := hB2.size; clear hO2 hb2) | (at_builtin; (refine wpList_appendR1 (by rfl) _ _ 22 rfl w.heap.size 29 i0 (.slice none 0 0) Try.underlying22 HI.out HZ0.out HZ1.out HZ2.out rfl _ ks.length ks rfl (HO3.out.below ((Below.refl _ _).alloc (Nat.le_refl _) _)) HH.out w2.heap.size (RV.mk A2 (rv rs k).n c2 (rv rs k).l) rfl (cell_new1 w2 _ _) (HO2.out.rd.below ((Below.refl _ _).alloc (Nat.le_refl _) _)) hnc2 HHD.out (by omega) (by simp; omega) ?_); intro v' w5 hO5 hH5 hB5 _))
              have HO5 := Lib.hid (show OwnR w5 w.heap.size 29 v' (ks ++ [RV.mk A2 (rv rs k).n c2 (rv rs k).l]).length (ks ++ [RV.mk A2 (rv rs k).n c2 (rv rs k).l]) by simpa using hO5)
              clear hO5
              go_roundw
              case rel => exact ⟨k + 1, ks ++ [RV.mk A2 (rv rs k).n c2 (rv rs k).l], by omega, by go_num, HO5.out, hH5, HSH.out.snoc hsk, wo_vals hkl hki HVK.out HWK.out, (hB2.alloc hsz2 _).trans hB5⟩
              case measure => simp [intOf]; omega
          · obtain rfl : k = n := by omega
            go_wp2
            go_ret2
            exact wo_yes HK.out HL.out HVK.out rfl HO.out HH.out HSH.out hB
    · have HIN := Lib.hid hin
      have HK := Lib.hid (show okW (vals rs) i = false by simp [okW, okI, HL.out, hin])
      clear hv hin
      go_enter Try.func30, Try.ntmps30
      go_wp2_with fail
      refine (c_specStackValid _ _ _ rs _ hn HR1.out HS.out).mono ?_
      rintro e w1 ⟨he, hb⟩
      rw [HV.out] at he
      subst he
      have HO1 := Lib.hid (HE0.out.below hb)
      have hB1 : Below w.heap.size w w1 := ((Below.refl _ _).alloc (Nat.le_refl _) _).trans (hb.mono (by simp))
      clear hb
      go_wp2_with fail
      refine (c_l6In _ _ _ _).mono ?_
      rintro e w' ⟨he, rfl⟩
      rw [HIN.out] at he
      subst he
      go_wp2
      go_ret2
      exact wo_no HK.out HO1.out hB1
  · have HV := Lib.hid hv
    have HK := Lib.hid (show okW (vals rs) i = false by simp [okW, okI, hv])
    clear hv
    go_enter Try.func30, Try.ntmps30
    go_wp2_with fail
    refine (c_specStackValid _ _ _ rs _ hn HR1.out HS.out).mono ?_
    rintro e w1 ⟨he, hb⟩
    rw [HV.out] at he
    subst he
    have HO1 := Lib.hid (HE0.out.below hb)
    have hB1 : Below w.heap.size w w1 := ((Below.refl _ _).alloc (Nat.le_refl _) _).trans (hb.mono (by simp))
    clear hb
    go_wp2
    go_ret2
    exact wo_no HK.out HO1.out hB1
end Go.Proofs.Ytbaplcdedijaeaa
