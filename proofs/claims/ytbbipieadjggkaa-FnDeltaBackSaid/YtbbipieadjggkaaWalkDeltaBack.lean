/-
  The walk of the law FnDeltaBack: it returns true and writes nothing that was there.
-/
import Derived.Test.YtbbipieadjggkaaWaterA
import Derived.Test.YtbbipieadjggkaaIsoDrawD
import Derived.Test.YtbbipieadjggkaaBoxes
import Derived.Test.YtbbipieadjggkaaFracAddImpl
import Derived.Test.YtbbipieadjggkaaFracMulImpl
import Derived.Test.YtbbipieadjggkaaFracDivImpl
import Derived.Test.YtbbipieadjggkaaFracLessImpl
import Derived.Deep.RegionHeld3
namespace Go.Proofs.Ytbbipieadjggkaa
open Go.RowKit

set_option maxHeartbeats 4000000 in
theorem walk_FnDeltaBack (A : Option Addr) (n c : Nat) (w : World) (h : RdB w A n) (hn : n ≤ maxLen) (hc : n ≤ c) :
    Calls Try.prog 10 #[.slice A n c] w fun e w' => e = .returned (.bool true) ∧ Below w.heap.size w w' := by
  unfold maxLen at hn
  have HB := Lib.hid h
  clear h
  by_cases hbig : 1048576 < n
  · go_enter Try.func10, Try.ntmps10
    go_wp2
    go_ret
    exact ⟨rfl, Below.refl _ _⟩
  · have hd1 : decide ((1048576 : Int) < (n : Int)) = false := by simp; omega
    go_enter Try.func10, Try.ntmps10
    go_wp2_with fail
    refine (c_DrawWaterDelta _ _ _ _ HB.out (by omega) hc).mono ?_
    rintro e w1 ⟨a, h, sn, sd, rfl, a0, a9, h0, h9, s0, s9, d0, d9, hB1⟩
    rcases Bool.eq_false_or_eq_true (okO (vD a h sn sd) (dX a h sn sd) (a * sn)) with hok | hok
    · obtain ⟨N, D, hN, hD, hv, hk, hvf, hf, HO⟩ := op_val hok
      have HN := Lib.hid hN
      have HD := Lib.hid hD
      have HV := Lib.hid hv
      have HF := Lib.hid hk
      have HVF := Lib.hid hvf
      obtain ⟨n1, n2, n3, n4, _⟩ := vF_yes hvf
      clear hok hN hD hk hvf hv
      go_wp2_with fail
      refine (c_implWaterDelta _ _ _ _ _).mono ?_
      intro e w2 hp
      obtain ⟨rfl, hb⟩ := HO _ _ _ hp
      clear hp
      have J2 := Lib.hid (blk_n2 hb)
      have K2 := Lib.hid (blk_n2' hb)
      have hB2 := bel2 hB1 hb
      have zJ2 := J2.out.lt
      have zK2 := K2.out.lt
      obtain ⟨cJ2, dJ2, _, _⟩ := J2.out.two
      obtain ⟨cK2, dK2, _, _⟩ := K2.out.two
      clear hb
      go_wp2_with fail
      refine (c_specWaterDelta _ _ _ _ _).mono ?_
      intro e w3 hp
      obtain ⟨rfl, hb⟩ := HO _ _ _ hp
      clear hp HO
      have J3 := Lib.hid (blk_b1 J2.out hb)
      have K3 := Lib.hid (blk_b1 K2.out hb)
      have O3 := Lib.hid (blk_n1 hb)
      have hB3 := bel1 hB2 hb
      have zJ3 := J3.out.lt
      have zK3 := K3.out.lt
      have zO3 := O3.out.lt
      obtain ⟨cJ3, dJ3, _, _⟩ := J3.out.two
      obtain ⟨cK3, dK3, _, _⟩ := K3.out.two
      obtain ⟨cO3, dO3, _, _⟩ := O3.out.two
      clear hb
      obtain ⟨hv1, hs1, h1s⟩ := vD_yes HV.out
      have HR := Lib.hid (ratio_ok hv1)
      have HVW := Lib.hid hv1
      have HVS := Lib.hid hs1
      have HSN := Lib.hid h1s
      generalize hrn : nF h a = rn at *
      generalize hrd : dF h a = rd at *
      have HRN := Lib.hid hrn
      have HRD := Lib.hid hrd
      clear hv1 hs1 h1s hrn hrd
      go_wp2_with fail
      refine (c_implWaterRatio _ _ _).mono ?_
      intro e w4 hp
      obtain ⟨rfl, hb⟩ := op_at HVW.out HRN.out HRD.out HR.out hp
      clear hp
      have K4 := Lib.hid (blk_b1 K3.out hb)
      have O4 := Lib.hid (blk_b1 O3.out hb)
      have hB4 := bel1 hB3 hb
      have zK4 := K4.out.lt
      have zO4 := O4.out.lt
      clear hb
      have HS0 := Lib.hid (box_new (t := 26) (x := rn) (y := rd) (box_cons (box_cons (box_mk hB4) K4.out) O4.out))
      rcases Bool.eq_false_or_eq_true (okO (divV N D 1000 1) (N * 1) (D * 1000)) with hok | hok
      · obtain ⟨x1, x2, u1, u2, u3, u4, u5, hx, HX'⟩ := op_val hok
        have HX := Lib.hid HX'
        have HXF := Lib.hid hx
        clear hok HX' hx u1 u2 u3 u4 u5
        rcases Bool.eq_false_or_eq_true (okO (two x1 x2 1 1) (x1 * 1 + 1 * x2) (x2 * 1)) with hok | hok
        · obtain ⟨y1, y2, u1, u2, u3, u4, u5, hy, HY'⟩ := op_val hok
          have HY := Lib.hid HY'
          have HYF := Lib.hid hy
          clear hok HY' hy u1 u2 u3 u4 u5
          rcases Bool.eq_false_or_eq_true (okO (two y1 y2 sn sd) (y1 * sn) (y2 * sd)) with hok | hok
          · obtain ⟨z1, z2, u1, u2, u3, u4, u5, hz, HZ'⟩ := op_val hok
            have HZ := Lib.hid HZ'
            have hdb := delta_back HVW.out HVS.out HSN.out HF.out (show IsFrac (nF (1000 * (h * sd - a * sn)) (a * sn) * 1) (dF (1000 * (h * sd - a * sn)) (a * sn) * 1000) x1 x2 from HN.out ▸ HD.out ▸ HXF.out) HYF.out hz
            obtain rfl : z1 = rn := hdb.1.trans HRN.out
            obtain rfl : z2 = rd := hdb.2.trans HRD.out
            clear hok HZ' hz hdb u1 u2 u3 u4 u5
            go_wp2_with fail
            apply way_cut (B := fun g W => Boxes w ((g, x1, x2) :: [(w4.heap.size, z1, z2), (w2.heap.size, N, D), (w1.heap.size + 1, sn, sd)]) W)
            · intro REST
              have HREST := Lib.hid REST
              clear REST
              go_region_held3 (fun W => ((W.cell? ⟨w4.heap.size, 0, none⟩ = some (.int .i64 z1) ∧ W.cell? ⟨w4.heap.size, 1, none⟩ = some (.int .i64 z2)) ∧ (W.cell? ⟨w2.heap.size, 0, none⟩ = some (.int .i64 N) ∧ W.cell? ⟨w2.heap.size, 1, none⟩ = some (.int .i64 D)) ∧ (W.cell? ⟨w1.heap.size + 1, 0, none⟩ = some (.int .i64 sn) ∧ W.cell? ⟨w1.heap.size + 1, 1, none⟩ = some (.int .i64 sd)) ∧ True) ∧ Below w.heap.size w W) (first | exact HS0.out | exact box_drew (HS0.out) | assumption | exact box_alloc (bs := [(w4.heap.size, z1, z2), (w2.heap.size, N, D), (w1.heap.size + 1, sn, sd)]) (by assumption) _ | exact box_set (bs := [(w4.heap.size, z1, z2), (w2.heap.size, N, D), (w1.heap.size + 1, sn, sd)]) (by assumption) hY _ _) (first | (go_at_call 26; (with_reducible refine (c_implFracDiv N D 1000 1 _).mono ?_); intro e w5 hp; obtain ⟨rfl, hb⟩ := HX.out _ _ _ hp; clear hp; (first | (have hX := blk_n1 hb; obtain ⟨q0, q1, q2, q3⟩ := hX.two; have hY := box_lt hS) | (have hX := blk_b0 hX hb; obtain ⟨q0, q1, q2, q3⟩ := hX.two) | skip); have hS := box_below (bs := [(w4.heap.size, z1, z2), (w2.heap.size, N, D), (w1.heap.size + 1, sn, sd)]) (by assumption) hb; clear hb) | (go_at_call 23; (with_reducible refine (c_frac 1000 _).mono ?_); rintro e w5 ⟨rfl, hb⟩; (first | (have hX := blk_n2d hb; obtain ⟨q0, q1, q2, q3⟩ := hX.two; have hY := box_lt_a HS0.out) | skip); have hS := box_below (bs := [(w4.heap.size, z1, z2), (w2.heap.size, N, D), (w1.heap.size + 1, sn, sd)]) (by assumption) hb; clear hb))
              all_goals
                first
                | (obtain ⟨g, hg⟩ : ∃ g, g = w5.heap.size := ⟨_, rfl⟩
                   rw [← hg]
                   refine absW (S := fun W => Boxes w ((g, x1, x2) :: [(w4.heap.size, z1, z2), (w2.heap.size, N, D), (w1.heap.size + 1, sn, sd)]) W) ?_ (by rw [hg]; exact box_new (bs := [(w4.heap.size, z1, z2), (w2.heap.size, N, D), (w1.heap.size + 1, sn, sd)]) hS)
                   intro Wz hz
                   exact HREST.out g Wz hz)
                | (obtain ⟨g, hg⟩ := blk_name hX
                   rw [← hg]
                   refine absW (S := fun W => Boxes w ((g, x1, x2) :: [(w4.heap.size, z1, z2), (w2.heap.size, N, D), (w1.heap.size + 1, sn, sd)]) W) ?_ (by rw [hg]; exact box_upd (bs := [(w4.heap.size, z1, z2), (w2.heap.size, N, D), (w1.heap.size + 1, sn, sd)]) (by assumption) hX)
                   intro Wz hz
                   exact HREST.out g Wz hz)
            intro g5 W5 h5
            have HS5 := Lib.hid h5
            clear h5
            go_wp2_with fail
            apply way_cut (B := fun g W => Boxes w ((g, y1, y2) :: [(g5, x1, x2), (w4.heap.size, z1, z2), (w2.heap.size, N, D), (w1.heap.size + 1, sn, sd)]) W)
            · intro REST
              have HREST := Lib.hid REST
              clear REST
              go_region_held3 (fun W => ((W.cell? ⟨g5, 0, none⟩ = some (.int .i64 x1) ∧ W.cell? ⟨g5, 1, none⟩ = some (.int .i64 x2)) ∧ (W.cell? ⟨w4.heap.size, 0, none⟩ = some (.int .i64 z1) ∧ W.cell? ⟨w4.heap.size, 1, none⟩ = some (.int .i64 z2)) ∧ (W.cell? ⟨w2.heap.size, 0, none⟩ = some (.int .i64 N) ∧ W.cell? ⟨w2.heap.size, 1, none⟩ = some (.int .i64 D)) ∧ (W.cell? ⟨w1.heap.size + 1, 0, none⟩ = some (.int .i64 sn) ∧ W.cell? ⟨w1.heap.size + 1, 1, none⟩ = some (.int .i64 sd)) ∧ True) ∧ Below w.heap.size w W) (first | exact HS5.out | exact box_drew (HS5.out) | assumption | exact box_alloc (bs := [(g5, x1, x2), (w4.heap.size, z1, z2), (w2.heap.size, N, D), (w1.heap.size + 1, sn, sd)]) (by assumption) _ | exact box_set (bs := [(g5, x1, x2), (w4.heap.size, z1, z2), (w2.heap.size, N, D), (w1.heap.size + 1, sn, sd)]) (by assumption) hY _ _) (first | (go_at_call 25; (with_reducible refine (c_implFracAdd x1 x2 1 1 _).mono ?_); intro e w5 hp; obtain ⟨rfl, hb⟩ := HY.out _ _ _ hp; clear hp; (first | (have hX := blk_n1 hb; obtain ⟨q0, q1, q2, q3⟩ := hX.two; have hY := box_lt hS) | (have hX := blk_b0 hX hb; obtain ⟨q0, q1, q2, q3⟩ := hX.two) | skip); have hS := box_below (bs := [(g5, x1, x2), (w4.heap.size, z1, z2), (w2.heap.size, N, D), (w1.heap.size + 1, sn, sd)]) (by assumption) hb; clear hb) | (go_at_call 23; (with_reducible refine (c_frac 1 _).mono ?_); rintro e w5 ⟨rfl, hb⟩; (first | (have hX := blk_n1d hb; obtain ⟨q0, q1, q2, q3⟩ := hX.two; have hY := box_lt HS5.out) | skip); have hS := box_below (bs := [(g5, x1, x2), (w4.heap.size, z1, z2), (w2.heap.size, N, D), (w1.heap.size + 1, sn, sd)]) (by assumption) hb; clear hb))
              all_goals
                first
                | (obtain ⟨g, hg⟩ : ∃ g, g = w5.heap.size := ⟨_, rfl⟩
                   rw [← hg]
                   refine absW (S := fun W => Boxes w ((g, y1, y2) :: [(g5, x1, x2), (w4.heap.size, z1, z2), (w2.heap.size, N, D), (w1.heap.size + 1, sn, sd)]) W) ?_ (by rw [hg]; exact box_new (bs := [(g5, x1, x2), (w4.heap.size, z1, z2), (w2.heap.size, N, D), (w1.heap.size + 1, sn, sd)]) hS)
                   intro Wz hz
                   exact HREST.out g Wz hz)
                | (obtain ⟨g, hg⟩ := blk_name hX
                   rw [← hg]
                   refine absW (S := fun W => Boxes w ((g, y1, y2) :: [(g5, x1, x2), (w4.heap.size, z1, z2), (w2.heap.size, N, D), (w1.heap.size + 1, sn, sd)]) W) ?_ (by rw [hg]; exact box_upd (bs := [(g5, x1, x2), (w4.heap.size, z1, z2), (w2.heap.size, N, D), (w1.heap.size + 1, sn, sd)]) (by assumption) hX)
                   intro Wz hz
                   exact HREST.out g Wz hz)
            intro g6 W6 h6
            have HS6 := Lib.hid h6
            obtain ⟨⟨⟨e0, e1⟩, _, ⟨k0, k1⟩, _, ⟨s0, s1⟩, _⟩, _⟩ := h6
            go_wp2_with fail
            refine (c_implFracMul y1 y2 sn sd _).mono ?_
            intro e w7 hp
            obtain ⟨rfl, hb⟩ := HZ.out _ _ _ hp
            have h7 := box_below (bs := [(g6, y1, y2), (g5, x1, x2), (w4.heap.size, z1, z2), (w2.heap.size, N, D), (w1.heap.size + 1, sn, sd)]) HS6.out hb
            clear hb hp e0 e1 s0 s1 k0 k1
            obtain ⟨⟨_, _, ⟨k0, k1⟩, _, _, _⟩, hB7⟩ := h7
            have l7 := cell_lt k0
            go_wp2
            go_ret
            exact ⟨rfl, hB7.alloc hB7.size _⟩
          · have HZ := Lib.hid hok
            clear hok
            go_wp2_with fail
            apply way_cut (B := fun g W => Boxes w ((g, x1, x2) :: [(w4.heap.size, rn, rd), (w2.heap.size, N, D), (w1.heap.size + 1, sn, sd)]) W)
            · intro REST
              have HREST := Lib.hid REST
              clear REST
              go_region_held3 (fun W => ((W.cell? ⟨w4.heap.size, 0, none⟩ = some (.int .i64 rn) ∧ W.cell? ⟨w4.heap.size, 1, none⟩ = some (.int .i64 rd)) ∧ (W.cell? ⟨w2.heap.size, 0, none⟩ = some (.int .i64 N) ∧ W.cell? ⟨w2.heap.size, 1, none⟩ = some (.int .i64 D)) ∧ (W.cell? ⟨w1.heap.size + 1, 0, none⟩ = some (.int .i64 sn) ∧ W.cell? ⟨w1.heap.size + 1, 1, none⟩ = some (.int .i64 sd)) ∧ True) ∧ Below w.heap.size w W) (first | exact HS0.out | exact box_drew (HS0.out) | assumption | exact box_alloc (bs := [(w4.heap.size, rn, rd), (w2.heap.size, N, D), (w1.heap.size + 1, sn, sd)]) (by assumption) _ | exact box_set (bs := [(w4.heap.size, rn, rd), (w2.heap.size, N, D), (w1.heap.size + 1, sn, sd)]) (by assumption) hY _ _) (first | (go_at_call 26; (with_reducible refine (c_implFracDiv N D 1000 1 _).mono ?_); intro e w5 hp; obtain ⟨rfl, hb⟩ := HX.out _ _ _ hp; clear hp; (first | (have hX := blk_n1 hb; obtain ⟨q0, q1, q2, q3⟩ := hX.two; have hY := box_lt hS) | (have hX := blk_b0 hX hb; obtain ⟨q0, q1, q2, q3⟩ := hX.two) | skip); have hS := box_below (bs := [(w4.heap.size, rn, rd), (w2.heap.size, N, D), (w1.heap.size + 1, sn, sd)]) (by assumption) hb; clear hb) | (go_at_call 23; (with_reducible refine (c_frac 1000 _).mono ?_); rintro e w5 ⟨rfl, hb⟩; (first | (have hX := blk_n2d hb; obtain ⟨q0, q1, q2, q3⟩ := hX.two; have hY := box_lt_a HS0.out) | skip); have hS := box_below (bs := [(w4.heap.size, rn, rd), (w2.heap.size, N, D), (w1.heap.size + 1, sn, sd)]) (by assumption) hb; clear hb))
              all_goals
                first
                | (obtain ⟨g, hg⟩ : ∃ g, g = w5.heap.size := ⟨_, rfl⟩
                   rw [← hg]
                   refine absW (S := fun W => Boxes w ((g, x1, x2) :: [(w4.heap.size, rn, rd), (w2.heap.size, N, D), (w1.heap.size + 1, sn, sd)]) W) ?_ (by rw [hg]; exact box_new (bs := [(w4.heap.size, rn, rd), (w2.heap.size, N, D), (w1.heap.size + 1, sn, sd)]) hS)
                   intro Wz hz
                   exact HREST.out g Wz hz)
                | (obtain ⟨g, hg⟩ := blk_name hX
                   rw [← hg]
                   refine absW (S := fun W => Boxes w ((g, x1, x2) :: [(w4.heap.size, rn, rd), (w2.heap.size, N, D), (w1.heap.size + 1, sn, sd)]) W) ?_ (by rw [hg]; exact box_upd (bs := [(w4.heap.size, rn, rd), (w2.heap.size, N, D), (w1.heap.size + 1, sn, sd)]) (by assumption) hX)
                   intro Wz hz
                   exact HREST.out g Wz hz)
            intro g5 W5 h5
            have HS5 := Lib.hid h5
            clear h5
            go_wp2_with fail
            apply way_cut (B := fun g W => Boxes w ((g, y1, y2) :: [(g5, x1, x2), (w4.heap.size, rn, rd), (w2.heap.size, N, D), (w1.heap.size + 1, sn, sd)]) W)
            · intro REST
              have HREST := Lib.hid REST
              clear REST
              go_region_held3 (fun W => ((W.cell? ⟨g5, 0, none⟩ = some (.int .i64 x1) ∧ W.cell? ⟨g5, 1, none⟩ = some (.int .i64 x2)) ∧ (W.cell? ⟨w4.heap.size, 0, none⟩ = some (.int .i64 rn) ∧ W.cell? ⟨w4.heap.size, 1, none⟩ = some (.int .i64 rd)) ∧ (W.cell? ⟨w2.heap.size, 0, none⟩ = some (.int .i64 N) ∧ W.cell? ⟨w2.heap.size, 1, none⟩ = some (.int .i64 D)) ∧ (W.cell? ⟨w1.heap.size + 1, 0, none⟩ = some (.int .i64 sn) ∧ W.cell? ⟨w1.heap.size + 1, 1, none⟩ = some (.int .i64 sd)) ∧ True) ∧ Below w.heap.size w W) (first | exact HS5.out | exact box_drew (HS5.out) | assumption | exact box_alloc (bs := [(g5, x1, x2), (w4.heap.size, rn, rd), (w2.heap.size, N, D), (w1.heap.size + 1, sn, sd)]) (by assumption) _ | exact box_set (bs := [(g5, x1, x2), (w4.heap.size, rn, rd), (w2.heap.size, N, D), (w1.heap.size + 1, sn, sd)]) (by assumption) hY _ _) (first | (go_at_call 25; (with_reducible refine (c_implFracAdd x1 x2 1 1 _).mono ?_); intro e w5 hp; obtain ⟨rfl, hb⟩ := HY.out _ _ _ hp; clear hp; (first | (have hX := blk_n1 hb; obtain ⟨q0, q1, q2, q3⟩ := hX.two; have hY := box_lt hS) | (have hX := blk_b0 hX hb; obtain ⟨q0, q1, q2, q3⟩ := hX.two) | skip); have hS := box_below (bs := [(g5, x1, x2), (w4.heap.size, rn, rd), (w2.heap.size, N, D), (w1.heap.size + 1, sn, sd)]) (by assumption) hb; clear hb) | (go_at_call 23; (with_reducible refine (c_frac 1 _).mono ?_); rintro e w5 ⟨rfl, hb⟩; (first | (have hX := blk_n1d hb; obtain ⟨q0, q1, q2, q3⟩ := hX.two; have hY := box_lt HS5.out) | skip); have hS := box_below (bs := [(g5, x1, x2), (w4.heap.size, rn, rd), (w2.heap.size, N, D), (w1.heap.size + 1, sn, sd)]) (by assumption) hb; clear hb))
              all_goals
                first
                | (obtain ⟨g, hg⟩ : ∃ g, g = w5.heap.size := ⟨_, rfl⟩
                   rw [← hg]
                   refine absW (S := fun W => Boxes w ((g, y1, y2) :: [(g5, x1, x2), (w4.heap.size, rn, rd), (w2.heap.size, N, D), (w1.heap.size + 1, sn, sd)]) W) ?_ (by rw [hg]; exact box_new (bs := [(g5, x1, x2), (w4.heap.size, rn, rd), (w2.heap.size, N, D), (w1.heap.size + 1, sn, sd)]) hS)
                   intro Wz hz
                   exact HREST.out g Wz hz)
                | (obtain ⟨g, hg⟩ := blk_name hX
                   rw [← hg]
                   refine absW (S := fun W => Boxes w ((g, y1, y2) :: [(g5, x1, x2), (w4.heap.size, rn, rd), (w2.heap.size, N, D), (w1.heap.size + 1, sn, sd)]) W) ?_ (by rw [hg]; exact box_upd (bs := [(g5, x1, x2), (w4.heap.size, rn, rd), (w2.heap.size, N, D), (w1.heap.size + 1, sn, sd)]) (by assumption) hX)
                   intro Wz hz
                   exact HREST.out g Wz hz)
            intro g6 W6 h6
            have HS6 := Lib.hid h6
            obtain ⟨⟨⟨e0, e1⟩, _, ⟨k0, k1⟩, _, ⟨s0, s1⟩, _⟩, _⟩ := h6
            go_wp2_with fail
            refine (c_implFracMul y1 y2 sn sd _).mono ?_
            intro e w7 hp
            obtain ⟨rfl, hb⟩ := op_bad HZ.out hp
            have h7 := box_below (bs := [(g6, y1, y2), (g5, x1, x2), (w4.heap.size, rn, rd), (w2.heap.size, N, D), (w1.heap.size + 1, sn, sd)]) HS6.out hb
            clear hb hp e0 e1 s0 s1 k0 k1
            obtain ⟨⟨_, _, ⟨k0, k1⟩, _, _, _⟩, hB7⟩ := h7
            have l7 := cell_lt k0
            go_wp2
            go_ret
            exact ⟨rfl, hB7.alloc hB7.size _⟩
        · have HY := Lib.hid hok
          have HZ := Lib.hid (show okO (two 0 0 sn sd) (0 * sn) (0 * sd) = false by simp [okO, two, vF])
          clear hok
          go_wp2_with fail
          apply way_cut (B := fun g W => Boxes w ((g, x1, x2) :: [(w4.heap.size, rn, rd), (w2.heap.size, N, D), (w1.heap.size + 1, sn, sd)]) W)
          · intro REST
            have HREST := Lib.hid REST
            clear REST
            go_region_held3 (fun W => ((W.cell? ⟨w4.heap.size, 0, none⟩ = some (.int .i64 rn) ∧ W.cell? ⟨w4.heap.size, 1, none⟩ = some (.int .i64 rd)) ∧ (W.cell? ⟨w2.heap.size, 0, none⟩ = some (.int .i64 N) ∧ W.cell? ⟨w2.heap.size, 1, none⟩ = some (.int .i64 D)) ∧ (W.cell? ⟨w1.heap.size + 1, 0, none⟩ = some (.int .i64 sn) ∧ W.cell? ⟨w1.heap.size + 1, 1, none⟩ = some (.int .i64 sd)) ∧ True) ∧ Below w.heap.size w W) (first | exact HS0.out | exact box_drew (HS0.out) | assumption | exact box_alloc (bs := [(w4.heap.size, rn, rd), (w2.heap.size, N, D), (w1.heap.size + 1, sn, sd)]) (by assumption) _ | exact box_set (bs := [(w4.heap.size, rn, rd), (w2.heap.size, N, D), (w1.heap.size + 1, sn, sd)]) (by assumption) hY _ _) (first | (go_at_call 26; (with_reducible refine (c_implFracDiv N D 1000 1 _).mono ?_); intro e w5 hp; obtain ⟨rfl, hb⟩ := HX.out _ _ _ hp; clear hp; (first | (have hX := blk_n1 hb; obtain ⟨q0, q1, q2, q3⟩ := hX.two; have hY := box_lt hS) | (have hX := blk_b0 hX hb; obtain ⟨q0, q1, q2, q3⟩ := hX.two) | skip); have hS := box_below (bs := [(w4.heap.size, rn, rd), (w2.heap.size, N, D), (w1.heap.size + 1, sn, sd)]) (by assumption) hb; clear hb) | (go_at_call 23; (with_reducible refine (c_frac 1000 _).mono ?_); rintro e w5 ⟨rfl, hb⟩; (first | (have hX := blk_n2d hb; obtain ⟨q0, q1, q2, q3⟩ := hX.two; have hY := box_lt_a HS0.out) | skip); have hS := box_below (bs := [(w4.heap.size, rn, rd), (w2.heap.size, N, D), (w1.heap.size + 1, sn, sd)]) (by assumption) hb; clear hb))
            all_goals
              first
              | (obtain ⟨g, hg⟩ : ∃ g, g = w5.heap.size := ⟨_, rfl⟩
                 rw [← hg]
                 refine absW (S := fun W => Boxes w ((g, x1, x2) :: [(w4.heap.size, rn, rd), (w2.heap.size, N, D), (w1.heap.size + 1, sn, sd)]) W) ?_ (by rw [hg]; exact box_new (bs := [(w4.heap.size, rn, rd), (w2.heap.size, N, D), (w1.heap.size + 1, sn, sd)]) hS)
                 intro Wz hz
                 exact HREST.out g Wz hz)
              | (obtain ⟨g, hg⟩ := blk_name hX
                 rw [← hg]
                 refine absW (S := fun W => Boxes w ((g, x1, x2) :: [(w4.heap.size, rn, rd), (w2.heap.size, N, D), (w1.heap.size + 1, sn, sd)]) W) ?_ (by rw [hg]; exact box_upd (bs := [(w4.heap.size, rn, rd), (w2.heap.size, N, D), (w1.heap.size + 1, sn, sd)]) (by assumption) hX)
                 intro Wz hz
                 exact HREST.out g Wz hz)
          intro g5 W5 h5
          have HS5 := Lib.hid h5
          clear h5
          go_wp2_with fail
          apply way_cut (B := fun g W => Boxes w ((g, 0, 0) :: [(g5, x1, x2), (w4.heap.size, rn, rd), (w2.heap.size, N, D), (w1.heap.size + 1, sn, sd)]) W)
          · intro REST
            have HREST := Lib.hid REST
            clear REST
            go_region_held3 (fun W => ((W.cell? ⟨g5, 0, none⟩ = some (.int .i64 x1) ∧ W.cell? ⟨g5, 1, none⟩ = some (.int .i64 x2)) ∧ (W.cell? ⟨w4.heap.size, 0, none⟩ = some (.int .i64 rn) ∧ W.cell? ⟨w4.heap.size, 1, none⟩ = some (.int .i64 rd)) ∧ (W.cell? ⟨w2.heap.size, 0, none⟩ = some (.int .i64 N) ∧ W.cell? ⟨w2.heap.size, 1, none⟩ = some (.int .i64 D)) ∧ (W.cell? ⟨w1.heap.size + 1, 0, none⟩ = some (.int .i64 sn) ∧ W.cell? ⟨w1.heap.size + 1, 1, none⟩ = some (.int .i64 sd)) ∧ True) ∧ Below w.heap.size w W) (first | exact HS5.out | exact box_drew (HS5.out) | assumption | exact box_alloc (bs := [(g5, x1, x2), (w4.heap.size, rn, rd), (w2.heap.size, N, D), (w1.heap.size + 1, sn, sd)]) (by assumption) _ | exact box_set (bs := [(g5, x1, x2), (w4.heap.size, rn, rd), (w2.heap.size, N, D), (w1.heap.size + 1, sn, sd)]) (by assumption) hY _ _) (first | (go_at_call 25; (with_reducible refine (c_implFracAdd x1 x2 1 1 _).mono ?_); intro e w5 hp; obtain ⟨rfl, hb⟩ := op_bad HY.out hp; clear hp; (first | (have hX := blk_n1 hb; obtain ⟨q0, q1, q2, q3⟩ := hX.two; have hY := box_lt hS) | (have hX := blk_b0 hX hb; obtain ⟨q0, q1, q2, q3⟩ := hX.two) | skip); have hS := box_below (bs := [(g5, x1, x2), (w4.heap.size, rn, rd), (w2.heap.size, N, D), (w1.heap.size + 1, sn, sd)]) (by assumption) hb; clear hb) | (go_at_call 23; (with_reducible refine (c_frac 1 _).mono ?_); rintro e w5 ⟨rfl, hb⟩; (first | (have hX := blk_n1d hb; obtain ⟨q0, q1, q2, q3⟩ := hX.two; have hY := box_lt HS5.out) | skip); have hS := box_below (bs := [(g5, x1, x2), (w4.heap.size, rn, rd), (w2.heap.size, N, D), (w1.heap.size + 1, sn, sd)]) (by assumption) hb; clear hb))
            all_goals
              first
              | (obtain ⟨g, hg⟩ : ∃ g, g = w5.heap.size := ⟨_, rfl⟩
                 rw [← hg]
                 refine absW (S := fun W => Boxes w ((g, 0, 0) :: [(g5, x1, x2), (w4.heap.size, rn, rd), (w2.heap.size, N, D), (w1.heap.size + 1, sn, sd)]) W) ?_ (by rw [hg]; exact box_new (bs := [(g5, x1, x2), (w4.heap.size, rn, rd), (w2.heap.size, N, D), (w1.heap.size + 1, sn, sd)]) hS)
                 intro Wz hz
                 exact HREST.out g Wz hz)
              | (obtain ⟨g, hg⟩ := blk_name hX
                 rw [← hg]
                 refine absW (S := fun W => Boxes w ((g, 0, 0) :: [(g5, x1, x2), (w4.heap.size, rn, rd), (w2.heap.size, N, D), (w1.heap.size + 1, sn, sd)]) W) ?_ (by rw [hg]; exact box_upd (bs := [(g5, x1, x2), (w4.heap.size, rn, rd), (w2.heap.size, N, D), (w1.heap.size + 1, sn, sd)]) (by assumption) hX)
                 intro Wz hz
                 exact HREST.out g Wz hz)
          intro g6 W6 h6
          have HS6 := Lib.hid h6
          obtain ⟨⟨⟨e0, e1⟩, _, ⟨k0, k1⟩, _, ⟨s0, s1⟩, _⟩, _⟩ := h6
          go_wp2_with fail
          refine (c_implFracMul 0 0 sn sd _).mono ?_
          intro e w7 hp
          obtain ⟨rfl, hb⟩ := op_bad HZ.out hp
          have h7 := box_below (bs := [(g6, 0, 0), (g5, x1, x2), (w4.heap.size, rn, rd), (w2.heap.size, N, D), (w1.heap.size + 1, sn, sd)]) HS6.out hb
          clear hb hp e0 e1 s0 s1 k0 k1
          obtain ⟨⟨_, _, ⟨k0, k1⟩, _, _, _⟩, hB7⟩ := h7
          have l7 := cell_lt k0
          go_wp2
          go_ret
          exact ⟨rfl, hB7.alloc hB7.size _⟩
      · have HX := Lib.hid hok
        have HY := Lib.hid (show okO (two 0 0 1 1) (0 * 1 + 1 * 0) (0 * 1) = false by simp [okO, two, vF])
        have HZ := Lib.hid (show okO (two 0 0 sn sd) (0 * sn) (0 * sd) = false by simp [okO, two, vF])
        clear hok
        go_wp2_with fail
        apply way_cut (B := fun g W => Boxes w ((g, 0, 0) :: [(w4.heap.size, rn, rd), (w2.heap.size, N, D), (w1.heap.size + 1, sn, sd)]) W)
        · intro REST
          have HREST := Lib.hid REST
          clear REST
          go_region_held3 (fun W => ((W.cell? ⟨w4.heap.size, 0, none⟩ = some (.int .i64 rn) ∧ W.cell? ⟨w4.heap.size, 1, none⟩ = some (.int .i64 rd)) ∧ (W.cell? ⟨w2.heap.size, 0, none⟩ = some (.int .i64 N) ∧ W.cell? ⟨w2.heap.size, 1, none⟩ = some (.int .i64 D)) ∧ (W.cell? ⟨w1.heap.size + 1, 0, none⟩ = some (.int .i64 sn) ∧ W.cell? ⟨w1.heap.size + 1, 1, none⟩ = some (.int .i64 sd)) ∧ True) ∧ Below w.heap.size w W) (first | exact HS0.out | exact box_drew (HS0.out) | assumption | exact box_alloc (bs := [(w4.heap.size, rn, rd), (w2.heap.size, N, D), (w1.heap.size + 1, sn, sd)]) (by assumption) _ | exact box_set (bs := [(w4.heap.size, rn, rd), (w2.heap.size, N, D), (w1.heap.size + 1, sn, sd)]) (by assumption) hY _ _) (first | (go_at_call 26; (with_reducible refine (c_implFracDiv N D 1000 1 _).mono ?_); intro e w5 hp; obtain ⟨rfl, hb⟩ := op_bad HX.out hp; clear hp; (first | (have hX := blk_n1 hb; obtain ⟨q0, q1, q2, q3⟩ := hX.two; have hY := box_lt hS) | (have hX := blk_b0 hX hb; obtain ⟨q0, q1, q2, q3⟩ := hX.two) | skip); have hS := box_below (bs := [(w4.heap.size, rn, rd), (w2.heap.size, N, D), (w1.heap.size + 1, sn, sd)]) (by assumption) hb; clear hb) | (go_at_call 23; (with_reducible refine (c_frac 1000 _).mono ?_); rintro e w5 ⟨rfl, hb⟩; (first | (have hX := blk_n2d hb; obtain ⟨q0, q1, q2, q3⟩ := hX.two; have hY := box_lt_a HS0.out) | skip); have hS := box_below (bs := [(w4.heap.size, rn, rd), (w2.heap.size, N, D), (w1.heap.size + 1, sn, sd)]) (by assumption) hb; clear hb))
          all_goals
            first
            | (obtain ⟨g, hg⟩ : ∃ g, g = w5.heap.size := ⟨_, rfl⟩
               rw [← hg]
               refine absW (S := fun W => Boxes w ((g, 0, 0) :: [(w4.heap.size, rn, rd), (w2.heap.size, N, D), (w1.heap.size + 1, sn, sd)]) W) ?_ (by rw [hg]; exact box_new (bs := [(w4.heap.size, rn, rd), (w2.heap.size, N, D), (w1.heap.size + 1, sn, sd)]) hS)
               intro Wz hz
               exact HREST.out g Wz hz)
            | (obtain ⟨g, hg⟩ := blk_name hX
               rw [← hg]
               refine absW (S := fun W => Boxes w ((g, 0, 0) :: [(w4.heap.size, rn, rd), (w2.heap.size, N, D), (w1.heap.size + 1, sn, sd)]) W) ?_ (by rw [hg]; exact box_upd (bs := [(w4.heap.size, rn, rd), (w2.heap.size, N, D), (w1.heap.size + 1, sn, sd)]) (by assumption) hX)
               intro Wz hz
               exact HREST.out g Wz hz)
        intro g5 W5 h5
        have HS5 := Lib.hid h5
        clear h5
        go_wp2_with fail
        apply way_cut (B := fun g W => Boxes w ((g, 0, 0) :: [(g5, 0, 0), (w4.heap.size, rn, rd), (w2.heap.size, N, D), (w1.heap.size + 1, sn, sd)]) W)
        · intro REST
          have HREST := Lib.hid REST
          clear REST
          go_region_held3 (fun W => ((W.cell? ⟨g5, 0, none⟩ = some (.int .i64 0) ∧ W.cell? ⟨g5, 1, none⟩ = some (.int .i64 0)) ∧ (W.cell? ⟨w4.heap.size, 0, none⟩ = some (.int .i64 rn) ∧ W.cell? ⟨w4.heap.size, 1, none⟩ = some (.int .i64 rd)) ∧ (W.cell? ⟨w2.heap.size, 0, none⟩ = some (.int .i64 N) ∧ W.cell? ⟨w2.heap.size, 1, none⟩ = some (.int .i64 D)) ∧ (W.cell? ⟨w1.heap.size + 1, 0, none⟩ = some (.int .i64 sn) ∧ W.cell? ⟨w1.heap.size + 1, 1, none⟩ = some (.int .i64 sd)) ∧ True) ∧ Below w.heap.size w W) (first | exact HS5.out | exact box_drew (HS5.out) | assumption | exact box_alloc (bs := [(g5, 0, 0), (w4.heap.size, rn, rd), (w2.heap.size, N, D), (w1.heap.size + 1, sn, sd)]) (by assumption) _ | exact box_set (bs := [(g5, 0, 0), (w4.heap.size, rn, rd), (w2.heap.size, N, D), (w1.heap.size + 1, sn, sd)]) (by assumption) hY _ _) (first | (go_at_call 25; (with_reducible refine (c_implFracAdd 0 0 1 1 _).mono ?_); intro e w5 hp; obtain ⟨rfl, hb⟩ := op_bad HY.out hp; clear hp; (first | (have hX := blk_n1 hb; obtain ⟨q0, q1, q2, q3⟩ := hX.two; have hY := box_lt hS) | (have hX := blk_b0 hX hb; obtain ⟨q0, q1, q2, q3⟩ := hX.two) | skip); have hS := box_below (bs := [(g5, 0, 0), (w4.heap.size, rn, rd), (w2.heap.size, N, D), (w1.heap.size + 1, sn, sd)]) (by assumption) hb; clear hb) | (go_at_call 23; (with_reducible refine (c_frac 1 _).mono ?_); rintro e w5 ⟨rfl, hb⟩; (first | (have hX := blk_n1d hb; obtain ⟨q0, q1, q2, q3⟩ := hX.two; have hY := box_lt HS5.out) | skip); have hS := box_below (bs := [(g5, 0, 0), (w4.heap.size, rn, rd), (w2.heap.size, N, D), (w1.heap.size + 1, sn, sd)]) (by assumption) hb; clear hb))
          all_goals
            first
            | (obtain ⟨g, hg⟩ : ∃ g, g = w5.heap.size := ⟨_, rfl⟩
               rw [← hg]
               refine absW (S := fun W => Boxes w ((g, 0, 0) :: [(g5, 0, 0), (w4.heap.size, rn, rd), (w2.heap.size, N, D), (w1.heap.size + 1, sn, sd)]) W) ?_ (by rw [hg]; exact box_new (bs := [(g5, 0, 0), (w4.heap.size, rn, rd), (w2.heap.size, N, D), (w1.heap.size + 1, sn, sd)]) hS)
               intro Wz hz
               exact HREST.out g Wz hz)
            | (obtain ⟨g, hg⟩ := blk_name hX
               rw [← hg]
               refine absW (S := fun W => Boxes w ((g, 0, 0) :: [(g5, 0, 0), (w4.heap.size, rn, rd), (w2.heap.size, N, D), (w1.heap.size + 1, sn, sd)]) W) ?_ (by rw [hg]; exact box_upd (bs := [(g5, 0, 0), (w4.heap.size, rn, rd), (w2.heap.size, N, D), (w1.heap.size + 1, sn, sd)]) (by assumption) hX)
               intro Wz hz
               exact HREST.out g Wz hz)
        intro g6 W6 h6
        have HS6 := Lib.hid h6
        obtain ⟨⟨⟨e0, e1⟩, _, ⟨k0, k1⟩, _, ⟨s0, s1⟩, _⟩, _⟩ := h6
        go_wp2_with fail
        refine (c_implFracMul 0 0 sn sd _).mono ?_
        intro e w7 hp
        obtain ⟨rfl, hb⟩ := op_bad HZ.out hp
        have h7 := box_below (bs := [(g6, 0, 0), (g5, 0, 0), (w4.heap.size, rn, rd), (w2.heap.size, N, D), (w1.heap.size + 1, sn, sd)]) HS6.out hb
        clear hb hp e0 e1 s0 s1 k0 k1
        obtain ⟨⟨_, _, ⟨k0, k1⟩, _, _, _⟩, hB7⟩ := h7
        have l7 := cell_lt k0
        go_wp2
        go_ret
        exact ⟨rfl, hB7.alloc hB7.size _⟩
    · have HO := Lib.hid hok
      clear hok
      go_wp2_with fail
      refine (c_implWaterDelta _ _ _ _ _).mono ?_
      intro e w2 hp
      obtain ⟨rfl, hb⟩ := op_bad HO.out hp
      clear hp
      have J2 := Lib.hid (blk_n2 hb)
      have K2 := Lib.hid (blk_n2' hb)
      have hB2 := bel2 hB1 hb
      have zJ2 := J2.out.lt
      have zK2 := K2.out.lt
      obtain ⟨cJ2, dJ2, _, _⟩ := J2.out.two
      obtain ⟨cK2, dK2, _, _⟩ := K2.out.two
      clear hb
      go_wp2_with fail
      refine (c_specWaterDelta _ _ _ _ _).mono ?_
      intro e w3 hp
      obtain ⟨rfl, hb⟩ := op_bad HO.out hp
      clear hp
      have J3 := Lib.hid (blk_b1 J2.out hb)
      have K3 := Lib.hid (blk_b1 K2.out hb)
      have O3 := Lib.hid (blk_n1 hb)
      have hB3 := bel1 hB2 hb
      have zJ3 := J3.out.lt
      have zK3 := K3.out.lt
      have zO3 := O3.out.lt
      obtain ⟨cO3, dO3, _, _⟩ := O3.out.two
      clear hb
      go_wp2
      go_ret
      exact ⟨rfl, hB3.alloc hB3.size _⟩
end Go.Proofs.Ytbbipieadjggkaa
