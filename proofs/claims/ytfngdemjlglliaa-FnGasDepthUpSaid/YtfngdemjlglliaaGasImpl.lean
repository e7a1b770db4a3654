/-
  Contract of GasCurve of the program.
-/
import Derived.Test.YtfngdemjlglliaaGasWords
import Derived.Test.YtfngdemjlglliaaCurveImpl
namespace Go.Proofs.Ytfngdemjlglliaa
open Go.RowKit

set_option maxHeartbeats 4000000 in
set_option maxRecDepth 4000 in
theorem c_implGasCurve (A : Option Addr) (n c : Nat) (l : List (Int × Int)) (B : Option Addr) (m cm : Nat) (ml : List Int) (w : World) (hn : n ≤ 2000000) (hm : m ≤ 2000000) (h : RdP w A n l) (h' : RdI w B m ml) :
    Calls Try.prog 27 #[.slice A n c, .slice B m cm] w (GasPost l m (ix ml) w) := by
  have HR := Lib.hid h
  have HM := Lib.hid h'
  have HL := Lib.hid h.len
  clear h h'
  obtain ⟨i0, hi, hz0, hz1, hz2⟩ := info_parts info_knot
  have HI := Lib.hid hi
  have HZ0 := Lib.hid hz0
  have HZ1 := Lib.hid hz1
  have HZ2 := Lib.hid hz2
  clear hi hz0 hz1 hz2
  rcases Bool.eq_false_or_eq_true (vC l) with hv | hv
  · have HV := Lib.hid hv
    by_cases hmn : m = n
    · subst hmn
      have hnn : ((m : Int) != (m : Int)) = false := by simp
      have hl12 := (vC_yes hv).2.2.2
      have HB := Lib.hid (vC_yes hv).1
      clear hv
      go_enter Try.func27, Try.ntmps27
      go_wp2_with fail
      refine (c_implCurveValid _ _ _ l _ hn HR.out).mono ?_
      rintro e w1 ⟨he, hb⟩
      rw [HV.out] at he
      subst he
      have hB1 := hb
      clear hb
      go_wp2_with fail
      go_loopw [6, 22] (fun o i wr => GasRel l (ix ml) w o i wr) (fun _ i _ => m - (intOf i).toNat)
      case atStart => exact ⟨0, Nat.zero_le _, rfl, OwnP.nil _ _ _, rfl, hB1⟩
      case round =>
        obtain ⟨k, hk, rfl, hO, hlg, hB⟩ := hrel
        rw [HL.out] at hk
        obtain ⟨G, hG⟩ : ∃ G, gasP l (ix ml) k = G := ⟨_, rfl⟩
        have hGl := gasP_len l (ix ml) k
        rw [hG] at hO hGl
        have HG := Lib.hid hG
        obtain ⟨q, hq⟩ : ∃ q, G.length = q := ⟨_, rfl⟩
        rw [hq] at hO hGl
        have HQ := Lib.hid hq
        obtain ⟨A4, c4, rfl, _, _, hrdG, _⟩ := hO.form
        have HO := Lib.hid hO
        have HLG := Lib.hid hlg
        have HRG := Lib.hid hrdG
        have hsz := hB.size
        have hm12 : m ≤ 12 := by have := HL.out; omega
        clear hO hlg hrdG hG hq
        by_cases hlt : k < m
        · have hkl : k < l.length := by have := HL.out; omega
          obtain ⟨b1, b2, b3, b4⟩ := HB.out k hkl
          obtain ⟨b, off, rfl, hb, hc⟩ := HR.out.at_ (by omega)
          obtain ⟨hc0, hc1⟩ := hc k hlt
          obtain ⟨b', off', rfl, hb', hc'⟩ := HM.out.at_ (by omega)
          have hcl := hc' k hlt
          rw [← hB.cell (p := ⟨b, off + k * 2, none⟩) hb] at hc0
          rw [← hB.cell (p := ⟨b, off + k * 2 + 1, none⟩) hb] at hc1
          rw [← hB.cell (p := ⟨b', off' + k, none⟩) hb'] at hcl
          clear hc hc'
          have hk0 : (0 : Int) ≤ (k : Int) := by omega
          have hk1 : (k : Int) < (m : Int) := by omega
          obtain ⟨x, hx⟩ : ∃ x, px l k = x := ⟨_, rfl⟩
          obtain ⟨y, hy⟩ : ∃ y, py l k = y := ⟨_, rfl⟩
          obtain ⟨z, hz⟩ : ∃ z, ix ml k = z := ⟨_, rfl⟩
          have HX := Lib.hid hx
          have HY := Lib.hid hy
          have HZ := Lib.hid hz
          rw [hx] at hc0
          rw [hy] at hc1 b3 b4
          rw [hz] at hcl
          clear hx hy hz
          by_cases hz0 : z < 0
          · have HK := Lib.hid (okG_lag (m := m) (lag_bad hkl (show lagB (ix ml k) = false by rw [HZ.out]; exact inB_not (.inl hz0))))
            go_wp2
            go_ret2
            exact gas_no HK.out (OwnP.nil _ _ _) hB
          · have hd0 : decide (z < 0) = false := by simp; omega
            by_cases hz1 : 10000 < z
            · have HK := Lib.hid (okG_lag (m := m) (lag_bad hkl (show lagB (ix ml k) = false by rw [HZ.out]; exact inB_not (.inr hz1))))
              go_wp2
              go_ret2
              exact gas_no HK.out (OwnP.nil _ _ _) hB
            · have hd1 : decide (10000 < z) = false := by simp; omega
              have HLN := Lib.hid (lag_step HLG.out (show lagB (ix ml k) = true by rw [HZ.out]; exact inB_of (by omega) (by omega)))
              by_cases hage : y - z < 0
              · have hd : decide ((0 : Int) ≤ y - z) = false := by simp; omega
                have HN := Lib.hid ((gasP_no (l := l) (g := ix ml) (k := k) (.inl (by rw [HY.out, HZ.out]; omega))).trans HG.out)
                go_wp2
                go_roundw
                case rel => exact gas_rel (by rw [HL.out]; omega) (by go_num) HN.out HQ.out HO.out HLN.out hB
                case measure => simp [intOf]; omega
              · have hd : decide ((0 : Int) ≤ y - z) = true := by simp; omega
                by_cases hq0 : q = 0
                · subst hq0
                  have HN := Lib.hid (show gasP l (ix ml) (k + 1) = G ++ [(x, y - z)] by
                    rw [gasP_yes (by rw [HY.out, HZ.out]; omega) (.inl (by rw [HG.out]; exact List.eq_nil_of_length_eq_zero HQ.out)), HG.out, HX.out, HY.out, HZ.out])
                  go_wp2_with (at_builtin; refine wpList_appendP (by rfl) _ _ 23 rfl w.heap.size 31 i0 (.agg #[.int .i64 0, .int .i64 0]) Try.underlying23 HI.out HZ0.out HZ1.out HZ2.out rfl _ 0 G rfl (HO.out.alloc _) ⟨wr.heap.size, 0, none⟩ x (y - z) rfl (cell_knot _ _ _ _) (by omega) (by simp; omega) ?_; intro v' w5 hO5 hB5)
                  go_roundw
                  case rel => exact gas_rel (by rw [HL.out]; omega) (by go_num) HN.out (by rw [List.length_append, HQ.out]; rfl) hO5 HLN.out ((hB.alloc hsz _).trans hB5)
                  case measure => simp [intOf]; omega
                · obtain ⟨j, rfl⟩ : ∃ j, q = j + 1 := ⟨q - 1, by omega⟩
                  have hj : ((j + 1 : Nat) : Int) - 1 = (j : Int) := by omega
                  have hj0 : (0 : Int) ≤ (j : Int) := by omega
                  have hj1 : (j : Int) < ((j + 1 : Nat) : Int) := by omega
                  have hj2 : (((j + 1 : Nat) : Int) == 0) = false := by simp; omega
                  obtain ⟨bg, og, rfl, hbg, hcg⟩ := HRG.out.at_ (by omega)
                  have hcj := (hcg j (by omega)).2
                  have HLY := Lib.hid (show lastY (gasP l (ix ml) k) = py G j by rw [HG.out, lastY, HQ.out]; rfl)
                  have HNE := Lib.hid (show gasP l (ix ml) k ≠ [] from fun e => by have := HQ.out; rw [← HG.out, e] at this; simp at this)
                  obtain ⟨u, hu⟩ : ∃ u, py G j = u := ⟨_, rfl⟩
                  rw [hu] at hcj
                  have HU := Lib.hid hu
                  clear hcg hbg hu hq0
                  by_cases hlast : u < y - z
                  · have HN := Lib.hid (show gasP l (ix ml) (k + 1) = G ++ [(x, y - z)] by
                      rw [gasP_yes (by rw [HY.out, HZ.out]; omega) (.inr (by rw [HLY.out, HU.out, HY.out, HZ.out]; exact hlast)), HG.out, HX.out, HY.out, HZ.out])
                    go_wp2_with (at_builtin; refine wpList_appendP (by rfl) _ _ 23 rfl w.heap.size 31 i0 (.agg #[.int .i64 0, .int .i64 0]) Try.underlying23 HI.out HZ0.out HZ1.out HZ2.out rfl _ (j + 1) G rfl (HO.out.alloc _) ⟨wr.heap.size, 0, none⟩ x (y - z) rfl (cell_knot _ _ _ _) (by omega) (by simp; omega) ?_; intro v' w5 hO5 hB5)
                    go_roundw
                    case rel => exact gas_rel (by rw [HL.out]; omega) (by go_num) HN.out (by rw [List.length_append, HQ.out]; rfl) hO5 HLN.out ((hB.alloc hsz _).trans hB5)
                    case measure => simp [intOf]; omega
                  · have hdl : decide (u < y - z) = false := by simp; omega
                    have HN := Lib.hid ((gasP_no (l := l) (g := ix ml) (k := k) (.inr ⟨HNE.out, by rw [HLY.out, HU.out, HY.out, HZ.out]; exact hlast⟩)).trans HG.out)
                    go_wp2
                    go_roundw
                    case rel => exact gas_rel (by rw [HL.out]; omega) (by go_num) HN.out HQ.out HO.out HLN.out hB
                    case measure => simp [intOf]; omega
        · obtain rfl : k = m := by omega
          have HLL := Lib.hid (show lagAll (ix ml) l.length = true by rw [HL.out]; exact HLG.out)
          have HGG := Lib.hid (show gasP l (ix ml) l.length = G by rw [HL.out]; exact HG.out)
          rcases Bool.eq_false_or_eq_true (vC G) with hvg | hvg
          · have HVG := Lib.hid hvg
            have HK := Lib.hid (okG_mk (m := k) HV.out HL.out.symm HLL.out (by rw [HGG.out]; exact hvg))
            clear hvg
            go_wp2_with fail
            refine (c_implCurveValid _ _ _ G _ (by omega) HRG.out).mono ?_
            rintro e w6 ⟨he, hb⟩
            rw [HVG.out] at he
            subst he
            have HO6 := Lib.hid (HO.out.below hb)
            have hB6 := hB.trans (hb.mono hsz)
            clear hb
            go_wp2
            go_ret2
            exact gas_yes HK.out HL.out HG.out HQ.out HO6.out hB6
          · have HVG := Lib.hid hvg
            have HK := Lib.hid (okG_out (m := k) (show vC (gasP l (ix ml) l.length) = false by rw [HGG.out]; exact hvg))
            clear hvg
            go_wp2_with fail
            refine (c_implCurveValid _ _ _ G _ (by omega) HRG.out).mono ?_
            rintro e w6 ⟨he, hb⟩
            rw [HVG.out] at he
            subst he
            have hB6 := hB.trans (hb.mono hsz)
            have hsz6 := hB6.size
            clear hb
            go_wp2
            go_ret2
            exact gas_no HK.out (OwnP.nil _ _ _) hB6
    · have hnn : ((m : Int) != (n : Int)) = true := by rw [bne_iff_ne]; omega
      have HK := Lib.hid (okG_len (m := m) (l := l) (g := ix ml) (by rw [HL.out]; exact hmn))
      clear hv hmn
      go_enter Try.func27, Try.ntmps27
      go_wp2_with fail
      refine (c_implCurveValid _ _ _ l _ hn HR.out).mono ?_
      rintro e w1 ⟨he, hb⟩
      rw [HV.out] at he
      subst he
      have hB1 := hb
      clear hb
      go_wp2
      go_ret2
      exact gas_no HK.out (OwnP.nil _ _ _) hB1
  · have HV := Lib.hid hv
    have HK := Lib.hid (okG_curve (m := m) (g := ix ml) hv)
    clear hv
    go_enter Try.func27, Try.ntmps27
    go_wp2_with fail
    refine (c_implCurveValid _ _ _ l _ hn HR.out).mono ?_
    rintro e w1 ⟨he, hb⟩
    rw [HV.out] at he
    subst he
    have hB1 := hb
    clear hb
    go_wp2
    go_ret2
    exact gas_no HK.out (OwnP.nil _ _ _) hB1
end Go.Proofs.Ytfngdemjlglliaa
