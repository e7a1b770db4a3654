/-
  Contracts of DrawFirnValid, DrawFirnThick, DrawFirnMass, DrawFirnSolid: some short list of slabs, memory of their own.
-/
import Derived.Test.YthoeefbddkdbjaaFirnDraw
namespace Go.Proofs.Ythoeefbddkdbjaa
open Go.RowKit

theorem firn_below {N : Nat} {w w1 w2 : World} {A : Option Addr} {n c : Nat} {l : List (Int × Int)} (hn : n ≤ N) (hc : n ≤ c) (hrd : RdP w2 A n l) (hb : Below w.heap.size w w1) (hz : w1.heap.size = w.heap.size + 1) (hg : w1.grownBy w2 (some w.heap.size)) :
    DrawP N w (.returned (.slice A n c)) w2 := ⟨A, n, c, l, rfl, hn, hc, hrd, only_to_below hg hb (Nat.le_refl _) (by omega)⟩

set_option maxHeartbeats 400000 in
theorem c_DrawFirnThick (A : Option Addr) (n c : Nat) (w : World) (h : RdB w A n) (hn : n ≤ 1048576) (hc : n ≤ c) :
    Calls Try.prog 21 #[.slice A n c] w (DrawP 30 w) := by
  have HB := Lib.hid h
  clear h
  go_enter Try.func21, Try.ntmps21
  go_wp2_with fail
  refine (c_l6Open _ _ _ _ HB.out (by omega) hc).mono ?_
  rintro e w1 ⟨rfl, hr1, hb1, hs1⟩
  have HR1 := Lib.hid hr1
  have HS1 := Lib.hid hs1
  clear hr1 hs1
  go_wp2_with fail
  refine (c_l93Firn _ _ _ _ (by omega) HR1.out).mono ?_
  rintro e w2 ⟨A2, n2, c2, l, rfl, hn2, hc2, hrd, _, hg2, _⟩
  have HRD := Lib.hid hrd
  have HG := Lib.hid hg2
  clear hrd hg2
  go_wp2_with fail
  go_ret
  exact firn_below (by omega) hc2 HRD.out hb1 HS1.out HG.out

set_option maxHeartbeats 400000 in
theorem c_DrawFirnMass (A : Option Addr) (n c : Nat) (w : World) (h : RdB w A n) (hn : n ≤ 1048576) (hc : n ≤ c) :
    Calls Try.prog 29 #[.slice A n c] w (DrawP 30 w) := by
  have HB := Lib.hid h
  clear h
  go_enter Try.func29, Try.ntmps29
  go_wp2_with fail
  refine (c_l6Open _ _ _ _ HB.out (by omega) hc).mono ?_
  rintro e w1 ⟨rfl, hr1, hb1, hs1⟩
  have HR1 := Lib.hid hr1
  have HS1 := Lib.hid hs1
  clear hr1 hs1
  go_wp2_with fail
  refine (c_l93Firn _ _ _ _ (by omega) HR1.out).mono ?_
  rintro e w2 ⟨A2, n2, c2, l, rfl, hn2, hc2, hrd, _, hg2, _⟩
  have HRD := Lib.hid hrd
  have HG := Lib.hid hg2
  clear hrd hg2
  go_wp2_with fail
  go_ret
  exact firn_below (by omega) hc2 HRD.out hb1 HS1.out HG.out

set_option maxHeartbeats 400000 in
theorem c_DrawFirnSolid (A : Option Addr) (n c : Nat) (w : World) (h : RdB w A n) (hn : n ≤ 1048576) (hc : n ≤ c) :
    Calls Try.prog 24 #[.slice A n c] w (DrawPI 30 w) := by
  have HB := Lib.hid h
  clear h
  go_enter Try.func24, Try.ntmps24
  go_wp2_with fail
  refine (c_l6Open _ _ _ _ HB.out (by omega) hc).mono ?_
  rintro e w1 ⟨rfl, hr1, hb1, hs1⟩
  have HR1 := Lib.hid hr1
  have HS1 := Lib.hid hs1
  clear hr1 hs1
  go_wp2_with fail
  refine (c_l93Firn _ _ _ _ (by omega) HR1.out).mono ?_
  rintro e w2 ⟨A2, n2, c2, l, rfl, hn2, hc2, hrd, ⟨p2, hp2, hr2⟩, hg2, hO2⟩
  have HRD := Lib.hid hrd
  have HG := Lib.hid hg2
  have HR2 := Lib.hid hr2
  have HO := Lib.hid hO2
  clear hrd hg2 hr2 hO2
  go_wp2_with fail
  refine (c_pick _ _ _ _ _ (by omega) HR2.out).mono ?_
  rintro e w3 ⟨x, rfl, hx0, hx1, hr3, hg3, hs3⟩
  have HG3 := Lib.hid (only_same HG.out hg3)
  have hrd3 := (HO.out.grown hg3 (by have := HS1.out; omega)).form
  have HF := Lib.hid hrd3
  clear hrd3 hr3 hg3 hs3
  go_wp2_with fail
  go_ret2
  obtain ⟨_, _, hv, _, _, hrd, _⟩ := HF.out
  injection hv with hv1 hv2
  subst hv1
  exact ⟨_, _, _, _, _, rfl, by omega, hc2, by omega, by omega, hrd, only_to_below HG3.out hb1 (Nat.le_refl _) (by have := HS1.out; omega)⟩

end Go.Proofs.Ythoeefbddkdbjaa
