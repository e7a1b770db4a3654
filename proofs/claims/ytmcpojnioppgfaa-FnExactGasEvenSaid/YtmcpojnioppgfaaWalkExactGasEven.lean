/-
  The walk of the law FnExactGasEven: it returns true and writes nothing that was there.
-/
import Derived.Test.YtmcpojnioppgfaaExactKnot
import Derived.Test.YtmcpojnioppgfaaGasEven
import Derived.Test.YtmcpojnioppgfaaMarkKnot
namespace Go.Proofs.Ytmcpojnioppgfaa
open Go.RowKit

theorem RowP.lt {w : World} {g : Nat} {t : TypeId} {n : Nat} {l : List (Int × Int)} (h : RowP w g t n l) : g < w.heap.size := by
  obtain ⟨_, cs, hb, _⟩ := h
  exact hb.lt
theorem OwnP.home {w : World} {base : Nat} {t : TypeId} {A : Option Addr} {n c : Nat} {l : List (Int × Int)} (h : OwnP w base t (.slice A n c) n l) : ∃ g, base ≤ g ∧ (0 < n → A = some ⟨g, 0, none⟩ ∧ RowP w g t n l) := by
  obtain ⟨A', c', hv, _, _, _, hr⟩ := h.form
  injection hv with hv1 hv2
  subst hv1
  rcases Nat.eq_zero_or_pos n with h0 | h0
  · exact ⟨base, Nat.le_refl _, fun h => absurd h (by omega)⟩
  · obtain ⟨g, e, hb, hrow⟩ := hr h0
    exact ⟨g, hb, fun _ => ⟨e, hrow⟩⟩
theorem mark_rd {w w' : World} {g n : Nat} {t : TypeId} {A : Option Addr} {l0 : List (Int × Int)} (h : 0 < n → A = some ⟨g, 0, none⟩ ∧ RowP w g t n l0) (h' : 0 < n → RowP w' g t n (mkL 1 n)) : RdP w' A n (mkL 1 n) := by
  rcases Nat.eq_zero_or_pos n with h0 | h0
  · subst h0
    exact RdP.nil _ _
  · obtain ⟨rfl, _⟩ := h h0
    exact (h' h0).rd

set_option maxHeartbeats 2000000 in
theorem walk_FnExactGasEven (A : Option Addr) (n c : Nat) (l : List (Int × Int)) (d : Int) (w : World) (h : RdP w A n l) (hn : n ≤ maxLen) (_hx0 : -9223372036854775808 ≤ d) (_hx1 : d ≤ 9223372036854775807) :
    Calls Try.prog 8 #[.slice A n c, .int .i64 d] w fun e w' => e = .returned (.bool true) ∧ Below w.heap.size w w' := by
  unfold maxLen at hn
  have HR := Lib.hid h
  clear h
  by_cases hbig : 1048576 < n
  · go_enter Try.func8, Try.ntmps8
    go_wp2_with fail
    refine (c_szKnotS_no _ _ _ _ hbig (by omega)).mono ?_
    rintro e w' ⟨rfl, rfl⟩
    go_wp2_with fail
    go_ret
    exact ⟨rfl, Below.refl _ _⟩
  · go_enter Try.func8, Try.ntmps8
    go_wp2_with fail
    refine (c_szKnotS_yes _ _ _ _ (by omega)).mono ?_
    rintro e w' ⟨rfl, rfl⟩
    have hd : decide ((1048576 : Int) - ↑n < 0) = false := by simp; omega
    go_wp2_with fail
    refine (c_toKnotS _ _ _ l _ (by omega) HR.out).mono ?_
    rintro e w1 ⟨g1, rfl, hg1, hr1, hBw1⟩
    have R1 := Lib.hid hr1
    clear hr1
    go_wp2_with fail
    refine (c_specGasEven _ _ _ l d _ (by omega) R1.out.rd).mono ?_
    rintro e w2 ⟨A2, n2, c2, rfl, hn2, hO2, hb⟩
    have hBw2 := hBw1.trans (hb.mono hBw1.size)
    have HS := Lib.hid hO2.rd
    have hB22 : Below w2.heap.size w2 w2 := Below.refl _ _
    clear hb hO2 R1 hg1
    go_wp2_with fail
    refine (c_toKnotS _ _ _ l _ (by omega) (HR.out.below hBw2)).mono ?_
    rintro e w3 ⟨g3, rfl, hg3, hr3, hb⟩
    have hBw3 := hBw2.trans (hb.mono hBw2.size)
    have hB23 := hB22.trans (hb.mono hB22.size)
    have R3 := Lib.hid hr3
    have hg3' : g3 < w3.heap.size := hr3.lt
    clear hb hr3
    go_wp2_with fail
    refine (c_implGasEven _ _ _ l d _ (by omega) R3.out.rd).mono ?_
    rintro e w4 ⟨A4, n4, c4, rfl, hn4, hO4, hb⟩
    have hBw4 := hBw3.trans (hb.mono hBw3.size)
    have hB24 := hB23.trans (hb.mono hB23.size)
    have R4 := Lib.hid (R3.out.below hb)
    have HO4 := Lib.hid hO4
    clear hb hO4 R3
    have hee : eqL (gV l n (evG n d)) (gV l n (evG n d)) = true := by simp [eqL]
    have hel : eqL l l = true := by simp [eqL]
    have hne : (okG l n (evG n d) != okG l n (evG n d)) = false := by simp
    go_wp2_with fail
    refine (c_eqKnotS _ _ _ _ _ _ (gV l n (evG n d)) (gV l n (evG n d)) _ (by omega) (by omega) HO4.out.rd (HS.out.below hB24)).mono ?_
    rintro e w5 ⟨rfl, hb⟩
    have hBw5 := hBw4.trans (hb.mono hBw4.size)
    have hB25 := hB24.trans (hb.mono hB24.size)
    have R5 := Lib.hid (R4.out.below hb)
    have HO5 := Lib.hid (HO4.out.below hb)
    clear hb R4 HO4
    go_wp2_with fail
    refine (c_toKnotS _ _ _ l _ (by omega) (HR.out.below hBw5)).mono ?_
    rintro e w6 ⟨g6, rfl, hg6, hr6, hb⟩
    have hBw6 := hBw5.trans (hb.mono hBw5.size)
    have hB26 := hB25.trans (hb.mono hB25.size)
    have R6 := Lib.hid (R5.out.below hb)
    have HO6 := Lib.hid (HO5.out.below hb)
    have RX := Lib.hid hr6
    clear hb R5 HO5 hr6
    go_wp2_with fail
    refine (c_eqKnotS _ _ _ _ _ _ l l _ (by omega) (by omega) R6.out.rd RX.out.rd).mono ?_
    rintro e w7 ⟨rfl, hb⟩
    have hBw7 := hBw6.trans (hb.mono hBw6.size)
    have hB27 := hB26.trans (hb.mono hB26.size)
    have R7 := Lib.hid (R6.out.below hb)
    have HO7 := Lib.hid (HO6.out.below hb)
    clear hb R6 HO6 RX
    go_wp2_with fail
    refine (c_markKnotS _ g3 n _ l 1 _ (by omega) (by omega) (by omega) (fun _ => ⟨rfl, R7.out⟩)).mono ?_
    rintro e w8 ⟨rfl, _, hg8, hs8⟩
    have hBw8 := hBw7.trans ((Below.refl _ _).grown hg8 hBw7.size (fun k hk => by injection hk with hk; have := hBw2.size; omega))
    have hB28 := hB27.trans ((Below.refl _ _).grown hg8 hB27.size (fun k hk => by injection hk with hk; omega))
    have HO8 := Lib.hid (HO7.out.grown hg8 hg3')
    clear hg8 hs8 R7 HO7
    have hk8 : decide ((1 : Int) + 2 * (n : Int) < 0) = false := by simp; omega
    go_wp2_with fail
    refine (c_eqKnotS _ _ _ _ _ _ (gV l n (evG n d)) (gV l n (evG n d)) _ (by omega) (by omega) HO8.out.rd (HS.out.below hB28)).mono ?_
    rintro e w9 ⟨rfl, hb⟩
    have hBw9 := hBw8.trans (hb.mono hBw8.size)
    have hB29 := hB28.trans (hb.mono hB28.size)
    have HO9 := Lib.hid (HO8.out.below hb)
    clear hb HO8
    obtain ⟨g4, hg4, hrow4⟩ := HO9.out.home
    have HR4 := Lib.hid hrow4
    clear hrow4
    go_wp2_with fail
    refine (c_markKnotS _ g4 n4 _ (gV l n (evG n d)) 1 _ (by omega) (by omega) (by omega) HR4.out).mono ?_
    rintro e w10 ⟨rfl, hm10, hg10, hs10⟩
    have hz3 := hB23.size
    have hBw10 := hBw9.trans ((Below.refl _ _).grown hg10 hBw9.size (fun k hk => by injection hk with hk; have := hBw3.size; omega))
    have hB210 := hB29.trans ((Below.refl _ _).grown hg10 hB29.size (fun k hk => by injection hk with hk; omega))
    have HM := Lib.hid (mark_rd HR4.out hm10)
    clear hg10 hs10 hm10 HO9
    have hk10 : decide ((1 : Int) + 2 * (n4 : Int) < 0) = false := by simp; omega
    have hne10 : ((1 : Int) + 2 * (n4 : Int) != 1 + 2 * (n4 : Int)) = false := by simp
    go_wp2_with fail
    refine (c_heldKnotS _ n4 _ 1 _ (by omega) (by omega) (by omega) HM.out).mono ?_
    rintro e w' ⟨rfl, rfl⟩
    go_wp2_with fail
    refine (c_toKnotS _ _ _ l _ (by omega) (HR.out.below hBw10)).mono ?_
    rintro e w11 ⟨g11, rfl, hg11, hr11, hb⟩
    have hBw11 := hBw10.trans (hb.mono hBw10.size)
    have hB211 := hB210.trans (hb.mono hB210.size)
    have R11 := Lib.hid hr11
    have HM11 := Lib.hid (HM.out.below hb)
    clear hb hr11 HM
    go_wp2_with fail
    refine (c_implGasEven _ _ _ l d _ (by omega) R11.out.rd).mono ?_
    rintro e w12 ⟨A12, n12, c12, rfl, hn12, hO12, hb⟩
    have hBw12 := hBw11.trans (hb.mono hBw11.size)
    have hB212 := hB211.trans (hb.mono hB211.size)
    have HM12 := Lib.hid (HM11.out.below hb)
    have HO12 := Lib.hid hO12
    clear hb hO12 HM11
    go_wp2_with fail
    refine (c_eqKnotS _ _ _ _ _ _ (gV l n (evG n d)) (gV l n (evG n d)) _ (by omega) (by omega) HO12.out.rd (HS.out.below hB212)).mono ?_
    rintro e w13 ⟨rfl, hb⟩
    have hBw13 := hBw12.trans (hb.mono hBw12.size)
    have hB213 := hB212.trans (hb.mono hB212.size)
    have HM13 := Lib.hid (HM12.out.below hb)
    clear hb HM12
    go_wp2_with fail
    refine (c_heldKnotS _ n4 _ 1 _ (by omega) (by omega) (by omega) HM13.out).mono ?_
    rintro e w' ⟨rfl, rfl⟩
    go_wp2
    go_ret
    exact ⟨rfl, hBw13⟩
end Go.Proofs.Ytmcpojnioppgfaa
