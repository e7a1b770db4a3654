/-
  The walk of the law FnStepsBack: it returns true and writes nothing that was there.
-/
import Derived.Test.YtbbipieadjggkaaStepsWords
import Derived.Test.YtbbipieadjggkaaDrawSteps
import Derived.Test.YtbbipieadjggkaaFracMulImpl
import Derived.Test.YtbbipieadjggkaaFracDivImpl
import Derived.Deep.RegionHeld3
namespace Go.Proofs.Ytbbipieadjggkaa
open Go.RowKit

set_option maxHeartbeats 8000000 in
theorem walk_FnStepsBack (A : Option Addr) (n c : Nat) (w : World) (h : RdB w A n) (hn : n ≤ maxLen) (hc : n ≤ c) :
    Calls Try.prog 9 #[.slice A n c] w fun e w' => e = .returned (.bool true) ∧ Below w.heap.size w w' := by
  unfold maxLen at hn
  have HB := Lib.hid h
  clear h
  by_cases hbig : 1048576 < n
  · go_enter Try.func9, Try.ntmps9
    go_wp2
    go_ret
    exact ⟨rfl, Below.refl _ _⟩
  · have hd1 : decide ((1048576 : Int) < (n : Int)) = false := by simp; omega
    go_enter Try.func9, Try.ntmps9
    go_wp2_with fail
    refine (c_DrawWaterSteps _ _ _ _ HB.out (by omega) hc).mono ?_
    rintro e w1 ⟨rn, rd, fn, fd, nn, rfl, _, _, _, _, _, _, _, _, _, _, hB1⟩
    rcases Bool.eq_false_or_eq_true (stV rn rd fn fd nn) with hok | hok
    · obtain ⟨m, rfl, hm, hr, hf, ho⟩ := stV_yes hok
      obtain ⟨N, hN⟩ : ∃ x, stN rn rd fn fd m = x := ⟨_, rfl⟩
      obtain ⟨D, hD⟩ : ∃ x, stD rn rd fn fd m = x := ⟨_, rfl⟩
      have HN := Lib.hid hN
      have HD := Lib.hid hD
      have HR := Lib.hid hr
      have HF := Lib.hid hf
      have HO := Lib.hid ho
      have HVF := Lib.hid (show vF N D = true by rw [← hN, ← hD]; exact st_vF hr ho)
      clear hok hr hf ho hN hD
      go_wp2_with fail
      refine (c_implWaterSteps _ _ _ _ _ _).mono ?_
      intro e w2 hp
      obtain ⟨rfl, hb⟩ := st_at rfl hm HR.out HF.out HO.out HN.out HD.out hp
      clear hp
      have J2 := Lib.hid (blk_n2 hb)
      have K2 := Lib.hid (blk_n2' hb)
      have hB2 := bel2 hB1 hb
      have zJ2 := J2.out.lt
      have zK2 := K2.out.lt
      obtain ⟨cJ2, dJ2, _, _⟩ := J2.out.two
      obtain ⟨cK2, dK2, _, _⟩ := K2.out.two
      clear hb
      go_wp2_with fail
      refine (c_specWaterSteps _ _ _ _ _ _).mono ?_
      intro e w3 hp
      obtain ⟨rfl, hb⟩ := st_at rfl hm HR.out HF.out HO.out HN.out HD.out hp
      clear hp
      have J3 := Lib.hid (blk_b1 J2.out hb)
      have K3 := Lib.hid (blk_b1 K2.out hb)
      have O3 := Lib.hid (blk_n1 hb)
      have hB3 := bel1 hB2 hb
      have zJ3 := J3.out.lt
      have zK3 := K3.out.lt
      have zO3 := O3.out.lt
      obtain ⟨cJ3, dJ3, _, _⟩ := J3.out.two
      obtain ⟨cK3, dK3, _, _⟩ := K3.out.two
      obtain ⟨cO3, dO3, _, _⟩ := O3.out.two
      clear hb
      have HS0 := Lib.hid (box_new (t := 26) (x := N) (y := D) (box_cons (box_cons (box_cons (box_mk hB3) K3.out) J3.out) O3.out))
      rcases Bool.eq_false_or_eq_true (okO (divV 1 1 fn fd) (1 * fd) (1 * fn)) with hok | hok
      · obtain ⟨x1, x2, u1, u2, u3, u4, u5, hx, HX'⟩ := op_val hok
        have HX := Lib.hid HX'
        have HVX := Lib.hid u5
        have HST := Lib.hid (st_back HR.out HF.out u5 hx HO.out m (Nat.le_refl _))
        rw [HN.out, HD.out, Nat.sub_self] at HST
        clear hok HX' hx u1 u2 u3 u4 u5
        go_wp2_with fail
        apply way_cut (B := fun g W => Boxes w ((g, x1, x2) :: [(w3.heap.size, N, D), (w2.heap.size, N, D), (w1.heap.size, rn, rd), (w1.heap.size + 1, fn, fd)]) W)
        · intro REST
          have HREST := Lib.hid REST
          clear REST
          go_region_held3 (fun W => ((W.cell? ⟨w3.heap.size, 0, none⟩ = some (.int .i64 N) ∧ W.cell? ⟨w3.heap.size, 1, none⟩ = some (.int .i64 D)) ∧ (W.cell? ⟨w2.heap.size, 0, none⟩ = some (.int .i64 N) ∧ W.cell? ⟨w2.heap.size, 1, none⟩ = some (.int .i64 D)) ∧ (W.cell? ⟨w1.heap.size, 0, none⟩ = some (.int .i64 rn) ∧ W.cell? ⟨w1.heap.size, 1, none⟩ = some (.int .i64 rd)) ∧ (W.cell? ⟨w1.heap.size + 1, 0, none⟩ = some (.int .i64 fn) ∧ W.cell? ⟨w1.heap.size + 1, 1, none⟩ = some (.int .i64 fd)) ∧ True) ∧ Below w.heap.size w W) (first | exact HS0.out | exact box_drew (HS0.out) | assumption | exact box_alloc (bs := [(w3.heap.size, N, D), (w2.heap.size, N, D), (w1.heap.size, rn, rd), (w1.heap.size + 1, fn, fd)]) (by assumption) _ | exact box_set (bs := [(w3.heap.size, N, D), (w2.heap.size, N, D), (w1.heap.size, rn, rd), (w1.heap.size + 1, fn, fd)]) (by assumption) hY _ _) (first | (go_at_call 26; (with_reducible refine (c_implFracDiv 1 1 fn fd _).mono ?_); intro e w5 hp; obtain ⟨rfl, hb⟩ := HX.out _ _ _ hp; clear hp; (first | (have hX := blk_n1 hb; obtain ⟨q0, q1, q2, q3⟩ := hX.two; have hY := box_lt hS) | (have hX := blk_b0 hX hb; obtain ⟨q0, q1, q2, q3⟩ := hX.two) | skip); have hS := box_below (bs := [(w3.heap.size, N, D), (w2.heap.size, N, D), (w1.heap.size, rn, rd), (w1.heap.size + 1, fn, fd)]) (by assumption) hb; clear hb) | (go_at_call 23; (with_reducible refine (c_frac 1 _).mono ?_); rintro e w5 ⟨rfl, hb⟩; (first | (have hX := blk_n2d hb; obtain ⟨q0, q1, q2, q3⟩ := hX.two; have hY := box_lt_a HS0.out) | skip); have hS := box_below (bs := [(w3.heap.size, N, D), (w2.heap.size, N, D), (w1.heap.size, rn, rd), (w1.heap.size + 1, fn, fd)]) (by assumption) hb; clear hb))
          all_goals
            first
            | (obtain ⟨g, hg⟩ : ∃ g, g = w5.heap.size := ⟨_, rfl⟩
               rw [← hg]
               refine absW (S := fun W => Boxes w ((g, x1, x2) :: [(w3.heap.size, N, D), (w2.heap.size, N, D), (w1.heap.size, rn, rd), (w1.heap.size + 1, fn, fd)]) W) ?_ (by rw [hg]; exact box_new (bs := [(w3.heap.size, N, D), (w2.heap.size, N, D), (w1.heap.size, rn, rd), (w1.heap.size + 1, fn, fd)]) hS)
               intro Wz hz
               exact HREST.out g Wz hz)
            | (obtain ⟨g, hg⟩ := blk_name hX
               rw [← hg]
               refine absW (S := fun W => Boxes w ((g, x1, x2) :: [(w3.heap.size, N, D), (w2.heap.size, N, D), (w1.heap.size, rn, rd), (w1.heap.size + 1, fn, fd)]) W) ?_ (by rw [hg]; exact box_upd (bs := [(w3.heap.size, N, D), (w2.heap.size, N, D), (w1.heap.size, rn, rd), (w1.heap.size + 1, fn, fd)]) (by assumption) hX)
               intro Wz hz
               exact HREST.out g Wz hz)
        intro g5 W5 h5
        have HS5 := Lib.hid h5
        obtain ⟨⟨⟨e0, e1⟩, _, ⟨o0, o1⟩, _⟩, _⟩ := h5
        go_wp2_with fail
        refine (c_implWaterSteps _ _ _ _ _ _).mono ?_
        intro e w6 hp
        obtain ⟨rfl, hb⟩ := st_at (m := m) rfl hm HVF.out HVX.out HST.out.1 HST.out.2.1 HST.out.2.2 hp
        have h6 := box_below (bs := [(g5, x1, x2), (w3.heap.size, N, D), (w2.heap.size, N, D), (w1.heap.size, rn, rd), (w1.heap.size + 1, fn, fd)]) HS5.out hb
        clear hb hp e0 e1 o0 o1
        obtain ⟨⟨_, _, _, ⟨k0, k1⟩, _⟩, hB6⟩ := h6
        have l6 := cell_lt k0
        go_wp2
        go_ret
        exact ⟨rfl, hB6.alloc hB6.size _⟩
      · have HX := Lib.hid hok
        have HQ := Lib.hid (show stV N D 0 0 (m : Int) = false by simp [stV, two, vF])
        clear hok
        go_wp2_with fail
        apply way_cut (B := fun g W => Boxes w ((g, 0, 0) :: [(w3.heap.size, N, D), (w2.heap.size, N, D), (w1.heap.size, rn, rd), (w1.heap.size + 1, fn, fd)]) W)
        · intro REST
          have HREST := Lib.hid REST
          clear REST
          go_region_held3 (fun W => ((W.cell? ⟨w3.heap.size, 0, none⟩ = some (.int .i64 N) ∧ W.cell? ⟨w3.heap.size, 1, none⟩ = some (.int .i64 D)) ∧ (W.cell? ⟨w2.heap.size, 0, none⟩ = some (.int .i64 N) ∧ W.cell? ⟨w2.heap.size, 1, none⟩ = some (.int .i64 D)) ∧ (W.cell? ⟨w1.heap.size, 0, none⟩ = some (.int .i64 rn) ∧ W.cell? ⟨w1.heap.size, 1, none⟩ = some (.int .i64 rd)) ∧ (W.cell? ⟨w1.heap.size + 1, 0, none⟩ = some (.int .i64 fn) ∧ W.cell? ⟨w1.heap.size + 1, 1, none⟩ = some (.int .i64 fd)) ∧ True) ∧ Below w.heap.size w W) (first | exact HS0.out | exact box_drew (HS0.out) | assumption | exact box_alloc (bs := [(w3.heap.size, N, D), (w2.heap.size, N, D), (w1.heap.size, rn, rd), (w1.heap.size + 1, fn, fd)]) (by assumption) _ | exact box_set (bs := [(w3.heap.size, N, D), (w2.heap.size, N, D), (w1.heap.size, rn, rd), (w1.heap.size + 1, fn, fd)]) (by assumption) hY _ _) (first | (go_at_call 26; (with_reducible refine (c_implFracDiv 1 1 fn fd _).mono ?_); intro e w5 hp; obtain ⟨rfl, hb⟩ := op_bad HX.out hp; clear hp; (first | (have hX := blk_n1 hb; obtain ⟨q0, q1, q2, q3⟩ := hX.two; have hY := box_lt hS) | (have hX := blk_b0 hX hb; obtain ⟨q0, q1, q2, q3⟩ := hX.two) | skip); have hS := box_below (bs := [(w3.heap.size, N, D), (w2.heap.size, N, D), (w1.heap.size, rn, rd), (w1.heap.size + 1, fn, fd)]) (by assumption) hb; clear hb) | (go_at_call 23; (with_reducible refine (c_frac 1 _).mono ?_); rintro e w5 ⟨rfl, hb⟩; (first | (have hX := blk_n2d hb; obtain ⟨q0, q1, q2, q3⟩ := hX.two; have hY := box_lt_a HS0.out) | skip); have hS := box_below (bs := [(w3.heap.size, N, D), (w2.heap.size, N, D), (w1.heap.size, rn, rd), (w1.heap.size + 1, fn, fd)]) (by assumption) hb; clear hb))
          all_goals
            first
            | (obtain ⟨g, hg⟩ : ∃ g, g = w5.heap.size := ⟨_, rfl⟩
               rw [← hg]
               refine absW (S := fun W => Boxes w ((g, 0, 0) :: [(w3.heap.size, N, D), (w2.heap.size, N, D), (w1.heap.size, rn, rd), (w1.heap.size + 1, fn, fd)]) W) ?_ (by rw [hg]; exact box_new (bs := [(w3.heap.size, N, D), (w2.heap.size, N, D), (w1.heap.size, rn, rd), (w1.heap.size + 1, fn, fd)]) hS)
               intro Wz hz
               exact HREST.out g Wz hz)
            | (obtain ⟨g, hg⟩ := blk_name hX
               rw [← hg]
               refine absW (S := fun W => Boxes w ((g, 0, 0) :: [(w3.heap.size, N, D), (w2.heap.size, N, D), (w1.heap.size, rn, rd), (w1.heap.size + 1, fn, fd)]) W) ?_ (by rw [hg]; exact box_upd (bs := [(w3.heap.size, N, D), (w2.heap.size, N, D), (w1.heap.size, rn, rd), (w1.heap.size + 1, fn, fd)]) (by assumption) hX)
               intro Wz hz
               exact HREST.out g Wz hz)
        intro g5 W5 h5
        have HS5 := Lib.hid h5
        obtain ⟨⟨⟨e0, e1⟩, _, ⟨o0, o1⟩, _⟩, _⟩ := h5
        go_wp2_with fail
        refine (c_implWaterSteps _ _ _ _ _ _).mono ?_
        intro e w6 hp
        obtain ⟨rfl, hb⟩ := st_bad HQ.out hp
        have h6 := box_below (bs := [(g5, 0, 0), (w3.heap.size, N, D), (w2.heap.size, N, D), (w1.heap.size, rn, rd), (w1.heap.size + 1, fn, fd)]) HS5.out hb
        clear hb hp e0 e1 o0 o1
        obtain ⟨⟨_, _, _, ⟨k0, k1⟩, _⟩, hB6⟩ := h6
        have l6 := cell_lt k0
        go_wp2
        go_ret
        exact ⟨rfl, hB6.alloc hB6.size _⟩
    · have HO := Lib.hid hok
      clear hok
      go_wp2_with fail
      refine (c_implWaterSteps _ _ _ _ _ _).mono ?_
      intro e w2 hp
      obtain ⟨rfl, hb⟩ := st_bad HO.out hp
      clear hp
      have J2 := Lib.hid (blk_n2 hb)
      have K2 := Lib.hid (blk_n2' hb)
      have hB2 := bel2 hB1 hb
      have zJ2 := J2.out.lt
      have zK2 := K2.out.lt
      obtain ⟨cJ2, dJ2, _, _⟩ := J2.out.two
      obtain ⟨cK2, dK2, _, _⟩ := K2.out.two
      clear hb
      go_wp2_with fail
      refine (c_specWaterSteps _ _ _ _ _ _).mono ?_
      intro e w3 hp
      obtain ⟨rfl, hb⟩ := st_bad HO.out hp
      clear hp
      have J3 := Lib.hid (blk_b1 J2.out hb)
      have K3 := Lib.hid (blk_b1 K2.out hb)
      have O3 := Lib.hid (blk_n1 hb)
      have hB3 := bel1 hB2 hb
      have zJ3 := J3.out.lt
      have zK3 := K3.out.lt
      have zO3 := O3.out.lt
      obtain ⟨cO3, dO3, _, _⟩ := O3.out.two
      clear hb
      go_wp2
      go_ret
      exact ⟨rfl, hB3.alloc hB3.size _⟩
end Go.Proofs.Ytbbipieadjggkaa
