/-
  Contract of DrawFirnSettle: some short list of slabs and a number, memory of its own.
-/
import Derived.Test.YtkomonjmbpljhaaFirnDrawB
namespace Go.Proofs.Ytkomonjmbpljhaa
open Go.RowKit

set_option maxHeartbeats 800000 in
theorem c_DrawFirnSettle (A : Option Addr) (n c : Nat) (w : World) (h : RdB w A n) (hn : n ≤ 1048576) (hc : n ≤ c) :
    Calls Try.prog 15 #[.slice A n c] w (DrawPI 30 w) := by
  have HB := Lib.hid h
  clear h
  go_enter Try.func15, Try.ntmps15
  go_wp2_with fail
  refine (c_l6Open _ _ _ _ HB.out (by omega) hc).mono ?_
  rintro e w1 ⟨rfl, hr1, hb1, hs1⟩
  have HR1 := Lib.hid hr1
  have HS1 := Lib.hid hs1
  clear hr1 hs1
  go_wp2_with fail
  refine (c_l93Firn _ _ _ _ (by omega) HR1.out).mono ?_
  rintro e w2 ⟨A2, n2, c2, l, rfl, hn2, hc2, hrd, ⟨p2, hp2, hr2⟩, hg2, hO2⟩
  have HRD := Lib.hid hrd
  have HG := Lib.hid hg2
  have HR2 := Lib.hid hr2
  have HO := Lib.hid hO2
  clear hrd hg2 hr2 hO2
  go_wp2_with fail
  refine (c_pick _ _ _ _ _ (by omega) HR2.out).mono ?_
  rintro e w4 ⟨x, rfl, hx0, hx1, hr4, hg4, hs4⟩
  have HR4 := Lib.hid hr4
  have HG4 := Lib.hid (only_same HG.out hg4)
  have HO4 := Lib.hid (HO.out.grown hg4 (by have := HS1.out; omega))
  clear hr4 hg4 hs4 HR2 HG HO
  have HR2 := HR4
  have HG := HG4
  have HO := HO4
  clear HR4 HG4 HO4
  by_cases hx : x = 0
  · subst hx
    obtain ⟨bs, hL⟩ := HR2.out
    obtain ⟨hy0, hy1⟩ := hL.pk (by omega) 3
    have HRL := Lib.hid hL
    clear hL
    have hlt2 : w.heap.size < w4.heap.size := by have := HG.out.size; have := HS1.out; omega
    have hs1 : w1.heap.size = w.heap.size + 1 := HS1.out
    have HS2 := Lib.hid hs1
    clear hs1
    rcases (show pkV bs (p2 + 1) 3 = 0 ∨ pkV bs (p2 + 1) 3 = 1 ∨ pkV bs (p2 + 1) 3 = 2 from by omega) with hy | hy | hy
    all_goals
      go_wp2_with fail
      go_region_with (first | (go_at_call 36; (with_reducible refine (c_pickL _ _ _ bs _ _ (by omega) HRL.out.drew).mono ?_); rintro e w5 ⟨rfl, _, _, hr5, hg5, hs5⟩; have HF := Lib.hid (draw_fin HO.out.drew (only_drew HG.out) hg5 hb1 HS2.out); clear hr5 hg5 hs5) | (go_at_call 36; (with_reducible refine (c_pickL _ _ _ bs _ _ (by omega) (HRL.out.alloc _).drew).mono ?_); rintro e w5 ⟨rfl, _, _, hr5, hg5, hs5⟩; have HF := Lib.hid (draw_fin (HO.out.alloc _).drew (only_drew (only_alloc HG.out _)) hg5 hb1 HS2.out); obtain ⟨q0, q1, q2⟩ := lit3 (un_drew hg5) hlt2; clear hr5 hg5 hs5))
      all_goals
        go_wp2
        go_ret2
        first | exact draw_mk HF.out (by omega) hc2 (by omega) (by omega) | exact draw_mk (HF.out.alloc _) (by omega) hc2 (by omega) (by omega)
  · have hx' : (x == 0) = false := by simpa using hx
    go_wp2_with fail
    refine (c_pick _ _ _ _ _ (by omega) HR2.out).mono ?_
    rintro e w4 ⟨x1, rfl, hxa, hxb, hr4, hg4, hs4⟩
    have HR4 := Lib.hid hr4
    have HG4 := Lib.hid (only_same HG.out hg4)
    have HO4 := Lib.hid (HO.out.grown hg4 (by have := HS1.out; omega))
    clear hr4 hg4 hs4 HR2 HG HO
    have HR2 := HR4
    have HG := HG4
    have HO := HO4
    clear HR4 HG4 HO4
    go_wp2_with fail
    go_ret2
    obtain ⟨_, _, hv, _, _, hrd, _⟩ := HO.out.form
    injection hv with hv1 hv2
    subst hv1
    exact ⟨_, _, _, _, _, rfl, by omega, hc2, by omega, by omega, hrd, only_to_below HG.out hb1 (Nat.le_refl _) (by have := HS1.out; omega)⟩
end Go.Proofs.Ytkomonjmbpljhaa
