/-
  The walk of the law FnExactGasCurve: it returns true and writes nothing that was there.
-/
import Derived.Test.YtmcpojnioppgfaaGasImpl
import Derived.Test.YtmcpojnioppgfaaGasSpec
import Derived.Test.YtmcpojnioppgfaaExactKnot
import Derived.Test.YtmcpojnioppgfaaMarkKnot
import Derived.Test.YtmcpojnioppgfaaGasInts
namespace Go.Proofs.Ytmcpojnioppgfaa
open Go.RowKit

theorem RowP.lt {w : World} {g : Nat} {t : TypeId} {n : Nat} {l : List (Int × Int)} (h : RowP w g t n l) : g < w.heap.size := by
  obtain ⟨_, cs, hb, _⟩ := h
  exact hb.lt
theorem OwnP.home {w : World} {base : Nat} {t : TypeId} {A : Option Addr} {n c : Nat} {l : List (Int × Int)} (h : OwnP w base t (.slice A n c) n l) : ∃ g, base ≤ g ∧ (0 < n → A = some ⟨g, 0, none⟩ ∧ RowP w g t n l) := by
  obtain ⟨A', c', hv, _, _, _, hr⟩ := h.form
  injection hv with hv1 hv2
  subst hv1
  rcases Nat.eq_zero_or_pos n with h0 | h0
  · exact ⟨base, Nat.le_refl _, fun h => absurd h (by omega)⟩
  · obtain ⟨g, e, hb, hrow⟩ := hr h0
    exact ⟨g, hb, fun _ => ⟨e, hrow⟩⟩
theorem mark_rd {w w' : World} {g n : Nat} {t : TypeId} {A : Option Addr} {l0 : List (Int × Int)} (h : 0 < n → A = some ⟨g, 0, none⟩ ∧ RowP w g t n l0) (h' : 0 < n → RowP w' g t n (mkL 1 n)) : RdP w' A n (mkL 1 n) := by
  rcases Nat.eq_zero_or_pos n with h0 | h0
  · subst h0
    exact RdP.nil _ _
  · obtain ⟨rfl, _⟩ := h h0
    exact (h' h0).rd
theorem RowE.rd {w : World} {g n : Nat} {l : List Int} (h : RowE w g 3 l) (hn : l.length = n) : RdI w (some ⟨g, 0, none⟩) n l := ⟨hn, fun _ => ⟨g, 0, rfl, Blk.lt h, fun i hi => by rw [Nat.zero_add]; exact (h.cell (by omega)).1⟩⟩
theorem RowE.lt {w : World} {g : Nat} {t : TypeId} {l : List Int} (h : RowE w g t l) : g < w.heap.size := Blk.lt h
theorem blk_grown {w w' : World} {g g' : Nat} {t : TypeId} {l : List Int} (h : RowE w g t l) (hg : w.grownBy w' (some g')) (hne : g ≠ g') : RowE w' g t l := (hg.block g (Blk.lt h) (by simpa using hne)).trans h

set_option maxHeartbeats 4000000 in
theorem walk_FnExactGasCurve (A : Option Addr) (n c : Nat) (l : List (Int × Int)) (B : Option Addr) (m cm : Nat) (ml : List Int) (w : World) (h : RdP w A n l) (hn : n ≤ maxLen) (h' : RdI w B m ml) (hm : m ≤ maxLen) :
    Calls Try.prog 7 #[.slice A n c, .slice B m cm] w fun e w' => e = .returned (.bool true) ∧ Below w.heap.size w w' := by
  unfold maxLen at hn hm
  have HR := Lib.hid h
  have HM := Lib.hid h'
  have HML := Lib.hid h'.len
  clear h h'
  by_cases hbm : 1048576 < m
  · go_enter Try.func7, Try.ntmps7
    go_wp2
    go_ret
    exact ⟨rfl, Below.refl _ _⟩
  · have hdm : decide ((1048576 : Int) < (m : Int)) = false := by simp; omega
    by_cases hbig : 1048576 < n
    · go_enter Try.func7, Try.ntmps7
      go_wp2_with fail
      refine (c_szKnotS_no _ _ _ _ hbig (by omega)).mono ?_
      rintro e w' ⟨rfl, rfl⟩
      go_wp2_with fail
      go_ret
      exact ⟨rfl, Below.refl _ _⟩
    · go_enter Try.func7, Try.ntmps7
      go_wp2_with fail
      refine (c_szKnotS_yes _ _ _ _ (by omega)).mono ?_
      rintro e w' ⟨rfl, rfl⟩
      have hd : decide ((1048576 : Int) - ↑n < 0) = false := by simp; omega
      go_wp2_with fail
      refine (c_toKnotS _ _ _ l _ (by omega) HR.out).mono ?_
      rintro e w1 ⟨g1, rfl, hg1, hr1, hBw1⟩
      have R1 := Lib.hid hr1
      clear hr1
      go_wp2_with fail
      refine (c_toIntS _ _ _ ml _ (by omega) (HM.out.below hBw1)).mono ?_
      rintro e w2 ⟨rfl, hi2, hb⟩
      have I2 := Lib.hid (hi2.rd HML.out)
      have R2 := Lib.hid (R1.out.below hb)
      have hBw2 := hBw1.trans (hb.mono hBw1.size)
      clear hb hi2 R1
      go_wp2_with fail
      refine (c_specGasCurve _ _ _ l _ _ _ ml _ (by omega) (by omega) R2.out.rd I2.out).mono ?_
      rintro e w3 ⟨A3, n3, c3, rfl, hn3, hO3, hb⟩
      have hBw3 := hBw2.trans (hb.mono hBw2.size)
      have HS := Lib.hid hO3.rd
      have hB33 : Below w3.heap.size w3 w3 := Below.refl _ _
      clear hb hO3 R2 I2 hg1
      go_wp2_with fail
      refine (c_toKnotS _ _ _ l _ (by omega) (HR.out.below hBw3)).mono ?_
      rintro e w4 ⟨g4, rfl, hg4, hr4, hb⟩
      have hBw4 := hBw3.trans (hb.mono hBw3.size)
      have hB34 := hB33.trans (hb.mono hB33.size)
      have R4 := Lib.hid hr4
      have hg4' : g4 < w4.heap.size := hr4.lt
      clear hb hr4
      go_wp2_with fail
      refine (c_toIntS _ _ _ ml _ (by omega) (HM.out.below hBw4)).mono ?_
      rintro e w5 ⟨rfl, hi5, hb⟩
      have I5 := Lib.hid hi5
      have hi5' := hi5.lt
      have R5 := Lib.hid (R4.out.below hb)
      have hBw5 := hBw4.trans (hb.mono hBw4.size)
      have hB35 := hB34.trans (hb.mono hB34.size)
      clear hb hi5 R4
      go_wp2_with fail
      refine (c_implGasCurve _ _ _ l _ _ _ ml _ (by omega) (by omega) R5.out.rd (I5.out.rd HML.out)).mono ?_
      rintro e w6 ⟨A6, n6, c6, rfl, hn6, hO6, hb⟩
      have hBw6 := hBw5.trans (hb.mono hBw5.size)
      have hB36 := hB35.trans (hb.mono hB35.size)
      have R6 := Lib.hid (R5.out.below hb)
      have I6 := Lib.hid (I5.out.below hb)
      have HO6 := Lib.hid hO6
      clear hb hO6 R5 I5
      have hee : eqL (gV l m (ix ml)) (gV l m (ix ml)) = true := by simp [eqL]
      have hel : eqL l l = true := by simp [eqL]
      have hei : eqI ml ml = true := by simp [eqI]
      have hne : (okG l m (ix ml) != okG l m (ix ml)) = false := by simp
      go_wp2_with fail
      refine (c_eqKnotS _ _ _ _ _ _ (gV l m (ix ml)) (gV l m (ix ml)) _ (by omega) (by omega) HO6.out.rd (HS.out.below hB36)).mono ?_
      rintro e w7 ⟨rfl, hb⟩
      have hBw7 := hBw6.trans (hb.mono hBw6.size)
      have hB37 := hB36.trans (hb.mono hB36.size)
      have R7 := Lib.hid (R6.out.below hb)
      have I7 := Lib.hid (I6.out.below hb)
      have HO7 := Lib.hid (HO6.out.below hb)
      clear hb R6 I6 HO6
      go_wp2_with fail
      refine (c_toKnotS _ _ _ l _ (by omega) (HR.out.below hBw7)).mono ?_
      rintro e w8 ⟨g8, rfl, hg8, hr8, hb⟩
      have hBw8 := hBw7.trans (hb.mono hBw7.size)
      have hB38 := hB37.trans (hb.mono hB37.size)
      have R8 := Lib.hid (R7.out.below hb)
      have I8 := Lib.hid (I7.out.below hb)
      have HO8 := Lib.hid (HO7.out.below hb)
      have RX := Lib.hid hr8
      clear hb R7 I7 HO7 hr8
      go_wp2_with fail
      refine (c_eqKnotS _ _ _ _ _ _ l l _ (by omega) (by omega) R8.out.rd RX.out.rd).mono ?_
      rintro e w9 ⟨rfl, hb⟩
      have hBw9 := hBw8.trans (hb.mono hBw8.size)
      have hB39 := hB38.trans (hb.mono hB38.size)
      have R9 := Lib.hid (R8.out.below hb)
      have I9 := Lib.hid (I8.out.below hb)
      have HO9 := Lib.hid (HO8.out.below hb)
      clear hb R8 I8 HO8 RX
      go_wp2_with fail
      refine (c_toIntS _ _ _ ml _ (by omega) (HM.out.below hBw9)).mono ?_
      rintro e w10 ⟨rfl, hi10, hb⟩
      have hBw10 := hBw9.trans (hb.mono hBw9.size)
      have hB310 := hB39.trans (hb.mono hB39.size)
      have R10 := Lib.hid (R9.out.below hb)
      have I10 := Lib.hid (I9.out.below hb)
      have HO10 := Lib.hid (HO9.out.below hb)
      have IX := Lib.hid hi10
      clear hb R9 I9 HO9 hi10
      go_wp2_with fail
      refine (c_eqIntS _ _ _ _ _ _ ml ml _ (by omega) (by omega) (I10.out.rd HML.out) (IX.out.rd HML.out)).mono ?_
      intro e w11 hq
      obtain ⟨rfl, hb⟩ := hq.below
      have hBw11 := hBw10.trans (hb.mono hBw10.size)
      have hB311 := hB310.trans (hb.mono hB310.size)
      have R11 := Lib.hid (R10.out.below hb)
      have I11 := Lib.hid (I10.out.below hb)
      have HO11 := Lib.hid (HO10.out.below hb)
      have hz4 := hB34.size
      have hz3 := hBw3.size
      clear hb hq R10 I10 HO10 IX
      go_wp2_with fail
      refine (c_markKnotS _ g4 n _ l 1 _ (by omega) (by omega) (by omega) (fun _ => ⟨rfl, R11.out⟩)).mono ?_
      rintro e w12 ⟨rfl, _, hg12, hs12⟩
      have hBw12 := hBw11.trans ((Below.refl _ _).grown hg12 hBw11.size (fun k hk => by injection hk with hk; omega))
      have hB312 := hB311.trans ((Below.refl _ _).grown hg12 hB311.size (fun k hk => by injection hk with hk; omega))
      have HO12 := Lib.hid (HO11.out.grown hg12 (by have := hB35.size; omega))
      have I12 := Lib.hid (blk_grown I11.out hg12 (by omega))
      clear hg12 hs12 R11 HO11 I11
      go_wp2_with fail
      refine (c_markIntS _ w4.heap.size m _ (1 + 2 * (n : Int)) _ (by omega) (by omega) (by omega) (fun _ => ⟨rfl, by have := I12.out.has; rwa [HML.out] at this⟩)).mono ?_
      rintro e w13 ⟨rfl, _, hg13, hs13, _⟩
      have hBw13 := hBw12.trans ((Below.refl _ _).grown hg13 hBw12.size (fun k hk => by injection hk with hk; omega))
      have hB313 := hB312.trans ((Below.refl _ _).grown hg13 hB312.size (fun k hk => by injection hk with hk; omega))
      have HO13 := Lib.hid (HO12.out.grown hg13 (by omega))
      clear hg13 hs13 I12 HO12
      have hk13 : decide ((1 : Int) + 2 * (n : Int) + (m : Int) < 0) = false := by simp; omega
      go_wp2_with fail
      refine (c_eqKnotS _ _ _ _ _ _ (gV l m (ix ml)) (gV l m (ix ml)) _ (by omega) (by omega) HO13.out.rd (HS.out.below hB313)).mono ?_
      rintro e w14 ⟨rfl, hb⟩
      have hBw14 := hBw13.trans (hb.mono hBw13.size)
      have hB314 := hB313.trans (hb.mono hB313.size)
      have HO14 := Lib.hid (HO13.out.below hb)
      clear hb HO13
      obtain ⟨g6, hg6, hrow6⟩ := HO14.out.home
      have HR6 := Lib.hid hrow6
      clear hrow6
      go_wp2_with fail
      refine (c_markKnotS _ g6 n6 _ (gV l m (ix ml)) 1 _ (by omega) (by omega) (by omega) HR6.out).mono ?_
      rintro e w15 ⟨rfl, hm15, hg15, hs15⟩
      have hz5 := hB35.size
      have hBw15 := hBw14.trans ((Below.refl _ _).grown hg15 hBw14.size (fun k hk => by injection hk with hk; omega))
      have hB315 := hB314.trans ((Below.refl _ _).grown hg15 hB314.size (fun k hk => by injection hk with hk; omega))
      have HMK := Lib.hid (mark_rd HR6.out hm15)
      clear hg15 hs15 hm15 HO14
      have hk15 : decide ((1 : Int) + 2 * (n6 : Int) < 0) = false := by simp; omega
      have hne15 : ((1 : Int) + 2 * (n6 : Int) != 1 + 2 * (n6 : Int)) = false := by simp
      go_wp2_with fail
      refine (c_heldKnotS _ n6 _ 1 _ (by omega) (by omega) (by omega) HMK.out).mono ?_
      rintro e w' ⟨rfl, rfl⟩
      go_wp2_with fail
      refine (c_toKnotS _ _ _ l _ (by omega) (HR.out.below hBw15)).mono ?_
      rintro e w16 ⟨g16, rfl, hg16, hr16, hb⟩
      have hBw16 := hBw15.trans (hb.mono hBw15.size)
      have hB316 := hB315.trans (hb.mono hB315.size)
      have R16 := Lib.hid hr16
      have HM16 := Lib.hid (HMK.out.below hb)
      clear hb hr16 HMK
      go_wp2_with fail
      refine (c_toIntS _ _ _ ml _ (by omega) (HM.out.below hBw16)).mono ?_
      rintro e w17 ⟨rfl, hi17, hb⟩
      have I17 := Lib.hid (hi17.rd HML.out)
      have R17 := Lib.hid (R16.out.below hb)
      have hBw17 := hBw16.trans (hb.mono hBw16.size)
      have hB317 := hB316.trans (hb.mono hB316.size)
      have HM17 := Lib.hid (HM16.out.below hb)
      clear hb hi17 R16 HM16
      go_wp2_with fail
      refine (c_implGasCurve _ _ _ l _ _ _ ml _ (by omega) (by omega) R17.out.rd I17.out).mono ?_
      rintro e w18 ⟨A18, n18, c18, rfl, hn18, hO18, hb⟩
      have hBw18 := hBw17.trans (hb.mono hBw17.size)
      have hB318 := hB317.trans (hb.mono hB317.size)
      have HM18 := Lib.hid (HM17.out.below hb)
      have HO18 := Lib.hid hO18
      clear hb hO18 HM17
      go_wp2_with fail
      refine (c_eqKnotS _ _ _ _ _ _ (gV l m (ix ml)) (gV l m (ix ml)) _ (by omega) (by omega) HO18.out.rd (HS.out.below hB318)).mono ?_
      rintro e w19 ⟨rfl, hb⟩
      have hBw19 := hBw18.trans (hb.mono hBw18.size)
      have HM19 := Lib.hid (HM18.out.below hb)
      clear hb HM18
      go_wp2_with fail
      refine (c_heldKnotS _ n6 _ 1 _ (by omega) (by omega) (by omega) HM19.out).mono ?_
      rintro e w' ⟨rfl, rfl⟩
      go_wp2
      go_ret
      exact ⟨rfl, hBw19⟩
end Go.Proofs.Ytmcpojnioppgfaa
