/-
  Contracts of l93Ice, DrawGasCurve and DrawGasEven: some short curve or list, some lags.
-/
import Derived.Test.YtfngdemjlglliaaCurveDraw
import Derived.Test.YtfngdemjlglliaaGasIntsA
namespace Go.Proofs.Ytfngdemjlglliaa
open Go.RowKit

theorem own_cells {w : World} {base size n g : Nat} {t : TypeId} {v : Value} {xs : List Value} (h : w.ownsRow base t size v n xs) (hg : v.ownBlock = some g) : ∃ cs, w.heap[g]? = some (.cells cs t (0, 0)) := by
  rcases h.2 with ⟨rfl, _⟩ | ⟨g', cap, cur, rfl, _, hh, _⟩
  · cases hg
  · have : g' = g := by simpa [Value.ownBlock] using hg
    subst this
    exact ⟨cur, hh⟩
theorem own_apart {w : World} {base base' size size' n n' g : Nat} {t t' : TypeId} {v v' : Value} {xs xs' : List Value} (ht : t ≠ t') (h : w.ownsRow base t size v n xs) (h' : w.ownsRow base' t' size' v' n' xs') (hg : v.ownBlock = some g) : v'.ownBlock ≠ some g := fun hg' => by
  obtain ⟨cs, e⟩ := own_cells h hg
  obtain ⟨cs', e'⟩ := own_cells h' hg'
  rw [e] at e'
  injection e' with e'
  injection e' with e1 e2
  exact ht e2
theorem own_keep {w w' : World} {base size n : Nat} {t : TypeId} {v : Value} {xs : List Value} (h : w.ownsRow base t size v n xs) (hk : ∀ g, v.ownBlock = some g → w'.heap[g]? = w.heap[g]?) : w'.ownsRow base t size v n xs := by
  refine ⟨h.1, ?_⟩
  rcases h.2 with h2 | ⟨g, cap, cur, rfl, hb, hh, hr⟩
  · exact .inl h2
  · exact .inr ⟨g, cap, cur, rfl, hb, (hk g rfl).trans hh, hr⟩
theorem own_lt {w : World} {base size n g : Nat} {t : TypeId} {v : Value} {xs : List Value} (h : w.ownsRow base t size v n xs) (hg : v.ownBlock = some g) : g < w.heap.size := by
  obtain ⟨cs, e⟩ := own_cells h hg
  exact (Array.getElem?_eq_some_iff.1 e).1
theorem own_base {w : World} {base size n g : Nat} {t : TypeId} {v : Value} {xs : List Value} (h : w.ownsRow base t size v n xs) (hg : v.ownBlock = some g) : base ≤ g := by
  rcases h.2 with ⟨rfl, _⟩ | ⟨g', cap, cur, rfl, hb, hh, _⟩
  · cases hg
  · have : g' = g := by simpa [Value.ownBlock] using hg
    omega
theorem OwnI.keep {w w' : World} {base n : Nat} {t : TypeId} {v : Value} {l : List Int} (h : OwnI w base t v n l) (hk : ∀ g, v.ownBlock = some g → w'.heap[g]? = w.heap[g]?) : OwnI w' base t v n l := ⟨own_keep h.own hk, h.len⟩
theorem OwnI.down {w : World} {base base' n : Nat} {t : TypeId} {v : Value} {l : List Int} (h : OwnI w base t v n l) (hb : base' ≤ base) : OwnI w base' t v n l := by
  obtain ⟨⟨h1, h2⟩, hl⟩ := h
  refine ⟨⟨h1, ?_⟩, hl⟩
  rcases h2 with h2 | ⟨g, cap, cur, rfl, hb', hr⟩
  · exact .inl h2
  · exact .inr ⟨g, cap, cur, rfl, by omega, hr⟩


theorem info_intD : (Try.prog.info? 3).map (fun i => (i.zero, i.size, i.bytes)) = some (some (.int .i64 0), 1, 8) := by kernel_rfl
def IceRel (B g p n c : Nat) (A : Option Addr) (w : World) (i : Value) (wr : World) : Prop :=
  ∃ (k : Nat) (l : List (Int × Int)), k ≤ n ∧ i = .int .i64 k ∧ OwnP wr w.heap.size 31 (.slice A n c) n l ∧ Rdr wr B g p ∧ w.grownBy wr (some g)
set_option maxHeartbeats 1000000 in
theorem c_l93Ice (B g p : Nat) (w : World) (hp : p ≤ 10) (h : Rdr w B g p) :
    Calls Try.prog 44 #[.pointer (some ⟨g, 0, none⟩)] w (CrvPost B g 6 w) := by
  have HR := Lib.hid h
  have hlt := h.lt
  have hge := h.ge
  clear h
  go_enter Try.func44, Try.ntmps44
  go_wp2_with fail
  refine (c_l91Curve B g p _ (by omega) HR.out).mono ?_
  rintro e w1 ⟨A, n, c, l, rfl, hn0, hn1, hnc, hO, ⟨q, hq, hr⟩, hg⟩
  have HO := Lib.hid hO
  have HR1 := Lib.hid hr
  have HG1 := Lib.hid hg
  obtain ⟨_, _, hv, _, _, _, hrow⟩ := hO.form
  injection hv with hv1 hv2 hv3
  subst hv1 hv3
  obtain ⟨gb, rfl, hgb, _⟩ := hrow (by omega)
  clear hO hr hg hrow
  go_wp2_with fail
  go_loopw [4] (fun i wr => IceRel B g q n c (some ⟨gb, 0, none⟩) w i wr) (fun i _ => n - (intOf i).toNat)
  case atStart => exact ⟨0, l, Nat.zero_le _, rfl, HO.out, HR1.out, HG1.out⟩
  case round =>
    obtain ⟨k, l1, hk, rfl, hO, hR, hG⟩ := hrel
    have HO2 := Lib.hid hO
    have HR2 := Lib.hid hR
    have HG2 := Lib.hid hG
    by_cases hlt2 : k < n
    · obtain ⟨⟨u, hu⟩, hf⟩ := hO.cell0 (k * 2 + 1) (by omega)
      clear hO hR hG
      go_wp2
      go_roundw
      case rel =>
        obtain ⟨l', hO'⟩ := HO2.out.put (k * 2 + 1) (wrap64 (u * 3))
        exact ⟨k + 1, l', by omega, by go_num, hO', HR2.out.of_same fun j hj => Below.heap_setCell _ _ _ _ (by simp; omega), only_setCell HG2.out (.inr hgb) _⟩
      case measure => simp [intOf]; omega
    · obtain rfl : k = n := by omega
      clear hO hR hG
      go_wp2
      go_ret
      exact ⟨_, _, _, l1, rfl, hn0, hn1, hnc, HO2.out, ⟨q, hq, HR2.out⟩, HG2.out⟩

/-- what the draws return: a list of knots that reads, at least one; nothing that was there has turned -/
def KnotsAt (W : World) (A : Option Addr) (n c : Nat) (l : List (Int × Int)) : Prop := 1 ≤ n ∧ n ≤ 6 ∧ n ≤ c ∧ RdP W A n l
def DrawGE (w : World) (e : Ending) (w' : World) : Prop := ∃ A n c l d, e = .returned (.tuple #[.slice A n c, .int .i64 d]) ∧ -1 ≤ d ∧ d ≤ 10001 ∧ KnotsAt w' A n c l ∧ Below w.heap.size w w'
def DrawGC (w : World) (e : Ending) (w' : World) : Prop := ∃ A n c l B m cm ml, e = .returned (.tuple #[.slice A n c, .slice B m cm]) ∧ m ≤ 7 ∧ m ≤ cm ∧ RdI w' B m ml ∧ KnotsAt w' A n c l ∧ Below w.heap.size w w'
def FinP (w : World) (A : Option Addr) (n : Nat) (l : List (Int × Int)) (W : World) : Prop := RdP W A n l ∧ Below w.heap.size w W
theorem FinP.alloc {w W : World} {A : Option Addr} {n : Nat} {l : List (Int × Int)} (h : FinP w A n l W) (o : Obj) : FinP w A n l (W.alloc o) :=
  ⟨h.1.below ((Below.refl _ _).alloc (Nat.le_refl _) _), h.2.alloc h.2.size _⟩
theorem only_drewG {a w : World} {row : Option Nat} (h : a.grownBy w row) : a.grownBy w.drew row := ⟨h.os, h.tape, h.output, h.size, h.block⟩
theorem OwnP.drewG {w : World} {base : Nat} {t : TypeId} {v : Value} {n : Nat} {l : List (Int × Int)} (h : OwnP w base t v n l) : OwnP w.drew base t v n l := h.of_same fun _ _ _ => rfl
theorem RdrL.drewG {w : World} {B g p : Nat} {bs : List Int} (h : RdrL w B g p bs) : RdrL w.drew B g p bs := h.of_same fun _ _ => rfl
theorem draw_fin {w w1 W w5 : World} {t : TypeId} {A : Option Addr} {n c : Nat} {l : List (Int × Int)} (hO : OwnP W w1.heap.size t (.slice A n c) n l) (hG : w1.grownBy W (some w.heap.size)) (hg : W.grownBy w5 (some w.heap.size)) (hb1 : Below w.heap.size w w1) (hs1 : w1.heap.size = w.heap.size + 1) : FinP w A n l w5 := by
  obtain ⟨_, _, hv, _, _, hrd, _⟩ := (hO.grown hg (by omega)).form
  injection hv with hv1 hv2
  subst hv1
  exact ⟨hrd, only_to_below (only_same hG hg) hb1 (Nat.le_refl _) (by omega)⟩
theorem draw_mk {w W : World} {A : Option Addr} {n c : Nat} {l : List (Int × Int)} {d : Int} (h : FinP w A n l W) (h1 : 1 ≤ n) (hn : n ≤ 6) (hc : n ≤ c) (h0 : -1 ≤ d) (h2 : d ≤ 10001) : DrawGE w (.returned (.tuple #[.slice A n c, .int .i64 d])) W :=
  ⟨_, _, _, _, _, rfl, h0, h2, ⟨h1, hn, hc, h.1⟩, h.2⟩

set_option maxHeartbeats 1000000 in
theorem c_DrawGasEven (A : Option Addr) (n c : Nat) (w : World) (h : RdB w A n) (hn : n ≤ 1048576) (hc : n ≤ c) :
    Calls Try.prog 23 #[.slice A n c] w (DrawGE w) := by
  have HB := Lib.hid h
  clear h
  go_enter Try.func23, Try.ntmps23
  go_wp2_with fail
  refine (c_l6Open _ _ _ _ HB.out (by omega) hc).mono ?_
  rintro e w1 ⟨rfl, hr1, hb1, hs1⟩
  have HR1 := Lib.hid hr1
  have HS1 := Lib.hid hs1
  clear hr1 hs1
  go_wp2_with fail
  refine (c_l93Ice _ _ _ _ (by omega) HR1.out).mono ?_
  rintro e w2 ⟨A2, n2, c2, l, rfl, hn1, hn2, hc2, hO2, ⟨p2, hp2, hr2⟩, hg2⟩
  have HO2 := Lib.hid hO2
  have HG2 := Lib.hid hg2
  have HR2 := Lib.hid hr2
  clear hO2 hg2 hr2
  go_wp2_with fail
  refine (c_pick _ _ _ _ _ (by omega) HR2.out).mono ?_
  rintro e w4 ⟨x, rfl, hx0, hx1, hr4, hg4, hs4⟩
  have HR := Lib.hid hr4
  have HG := Lib.hid (only_same HG2.out hg4)
  have HO := Lib.hid (HO2.out.grown hg4 (by have := HS1.out; omega))
  clear hr4 hg4 hs4 HR2 HG2 HO2
  by_cases hx : x = 0
  · subst hx
    obtain ⟨bs, hL⟩ := HR.out
    obtain ⟨hy0, hy1⟩ := hL.pk (by omega) 2
    have HRL := Lib.hid hL
    clear hL
    have hlt2 : w.heap.size < w4.heap.size := by have := HG.out.size; have := HS1.out; omega
    rcases (show pkV bs (p2 + 1) 2 = 0 ∨ pkV bs (p2 + 1) 2 = 1 from by omega) with hy | hy
    all_goals
      go_wp2_with fail
      go_region_with (first | (go_at_call 45; (with_reducible refine (c_pickL _ _ _ bs _ _ (by omega) HRL.out.drewG).mono ?_); rintro e w5 ⟨rfl, _, _, hr5, hg5, hs5⟩; have HF := Lib.hid (draw_fin HO.out.drewG (only_drewG HG.out) hg5 hb1 HS1.out); clear hr5 hg5 hs5) | (go_at_call 45; (with_reducible refine (c_pickL _ _ _ bs _ _ (by omega) (HRL.out.alloc _).drewG).mono ?_); rintro e w5 ⟨rfl, _, _, hr5, hg5, hs5⟩; have HF := Lib.hid (draw_fin (HO.out.alloc _).drewG (only_drewG (only_alloc HG.out _)) hg5 hb1 HS1.out); obtain ⟨q0, q1⟩ := lit2 (un_drewC hg5) hlt2; clear hr5 hg5 hs5))
      all_goals
        go_wp2
        go_ret2
        first | exact draw_mk HF.out hn1 (by omega) hc2 (by omega) (by omega) | exact draw_mk (HF.out.alloc _) hn1 (by omega) hc2 (by omega) (by omega)
  · have hx' : (x == 0) = false := by simpa using hx
    go_wp2_with fail
    refine (c_pick _ _ _ _ _ (by omega) HR.out).mono ?_
    rintro e w5 ⟨y, rfl, hy0, hy1, hr5, hg5, hs5⟩
    have HF := Lib.hid (draw_fin HO.out HG.out hg5 hb1 HS1.out)
    clear hr5 hg5 hs5
    go_wp2
    go_ret2
    exact draw_mk HF.out hn1 (by omega) hc2 (by omega) (by omega)
end Go.Proofs.Ytfngdemjlglliaa
