/-
  Contracts of DrawStackValid, DrawStackSum, DrawStackWithout, DrawStackFar: some short list of short rows, and an index.
-/
import Derived.Test.YtbaplcdedijaeaaStackDrawS
namespace Go.Proofs.Ytbaplcdedijaeaa
open Go.RowKit

/-- what the draws return: some rows, each from the head of a block on; nothing that was there has turned -/
def RowsAt (W : World) (A : Option Addr) (n c : Nat) (rs : List RV) : Prop := n ≤ 7 ∧ n ≤ c ∧ RdR W A n rs ∧ Heads rs ∧ ∀ r ∈ rs, r.n ≤ 8
def DrawR (w : World) (e : Ending) (w' : World) : Prop := ∃ A n c rs, e = .returned (.slice A n c) ∧ RowsAt w' A n c rs ∧ Below w.heap.size w w'
def DrawRI (w : World) (e : Ending) (w' : World) : Prop := ∃ A n c rs d, e = .returned (.tuple #[.slice A n c, .int .i64 d]) ∧ -2 ≤ d ∧ d ≤ 10 ∧ RowsAt w' A n c rs ∧ Below w.heap.size w w'
theorem rows_at {W : World} {base : Nat} {A : Option Addr} {n c : Nat} {rs : List RV} (hn : n ≤ 7) (hc : n ≤ c) (hO : OwnR W base 29 (.slice A n c) n rs) (hA : OwnAll W base rs) (hl : ∀ r ∈ rs, r.n ≤ 8) : RowsAt W A n c rs := by
  obtain ⟨_, _, hv, _, _, hr, _⟩ := hO.form
  injection hv with hv1 hv2 hv3
  subst hv1
  exact ⟨hn, hc, hr, hA.heads, hl⟩
theorem drawn_below {w w1 W : World} (hb1 : Below w.heap.size w w1) (hs1 : w1.heap.size = w.heap.size + 1) (hG : w1.grownBy W (some w.heap.size)) : Below w.heap.size w W := only_to_below hG hb1 (Nat.le_refl _) (by omega)

set_option maxHeartbeats 1000000 in
theorem c_DrawStackSum (A : Option Addr) (n c : Nat) (w : World) (h : RdB w A n) (hn : n ≤ 1048576) (hc : n ≤ c) :
    Calls Try.prog 17 #[.slice A n c] w (DrawR w) := by
  have HB := Lib.hid h
  clear h
  go_enter Try.func17, Try.ntmps17
  go_wp2_with fail
  refine (c_l6Open _ _ _ _ HB.out (by omega) hc).mono ?_
  rintro e w1 ⟨rfl, hr1, hb1, hs1⟩
  have HR1 := Lib.hid hr1
  have HS1 := Lib.hid hs1
  clear hr1 hs1
  go_wp2_with fail
  refine (c_l93Stack _ _ _ _ (by omega) HR1.out).mono ?_
  rintro e w2 ⟨A2, n2, c2, rs, rfl, hn2, hc2, hO2, hA2, hl2, _, hg2⟩
  have HA := Lib.hid (rows_at (by omega) hc2 hO2 hA2 hl2)
  have HBB := Lib.hid (drawn_below hb1 HS1.out hg2)
  clear hO2 hA2 hl2 hg2
  go_wp2
  go_ret
  exact ⟨_, _, _, rs, rfl, HA.out, HBB.out⟩

set_option maxHeartbeats 1000000 in
theorem c_DrawStackWithout (A : Option Addr) (n c : Nat) (w : World) (h : RdB w A n) (hn : n ≤ 1048576) (hc : n ≤ c) :
    Calls Try.prog 28 #[.slice A n c] w (DrawRI w) := by
  have HB := Lib.hid h
  clear h
  go_enter Try.func28, Try.ntmps28
  go_wp2_with fail
  refine (c_l6Open _ _ _ _ HB.out (by omega) hc).mono ?_
  rintro e w1 ⟨rfl, hr1, hb1, hs1⟩
  have HR1 := Lib.hid hr1
  have HS1 := Lib.hid hs1
  clear hr1 hs1
  go_wp2_with fail
  refine (c_l93Stack _ _ _ _ (by omega) HR1.out).mono ?_
  rintro e w2 ⟨A2, n2, c2, rs, rfl, hn2, hc2, hO2, hA2, hl2, ⟨p2, hp2, hr2⟩, hg2⟩
  have HO2 := Lib.hid hO2
  have HA2 := Lib.hid hA2
  have HL2 := Lib.hid hl2
  have HG2 := Lib.hid hg2
  have HR2 := Lib.hid hr2
  have hgl : w.heap.size < w1.heap.size := by have := HS1.out; omega
  clear hO2 hA2 hl2 hr2 hg2
  rcases Int.lt_or_le (1 : Int) (n2 : Int) with h1 | h1
  all_goals
    go_wp2_with fail
    refine (c_pick _ _ _ _ _ (by omega) HR2.out).mono ?_
    rintro e w3 ⟨x, rfl, hx0, hx1, hr3, hg3, hs3⟩
    have HO3 := Lib.hid (HO2.out.grownA HA2.out hg3 hgl hgl)
    have HA3 := Lib.hid (HA2.out.grown hg3 hgl)
    have HG3 := Lib.hid (only_same HG2.out hg3)
    have HR3 := Lib.hid hr3
    clear hr3 hg3 hs3 HO2 HA2 HG2 HR2
    go_wp2_with fail
    refine (c_pick _ _ _ _ _ (by omega) HR3.out).mono ?_
    rintro e w4 ⟨y, rfl, hy0, hy1, hr4, hg4, hs4⟩
    have HO4 := Lib.hid (HO3.out.grownA HA3.out hg4 hgl hgl)
    have HA4 := Lib.hid (HA3.out.grown hg4 hgl)
    have HG4 := Lib.hid (only_same HG3.out hg4)
    clear hr4 hg4 hs4 HO3 HA3 HG3 HR3
    have HA := Lib.hid (rows_at (by omega) hc2 HO4.out HA4.out HL2.out)
    have HBB := Lib.hid (drawn_below hb1 HS1.out HG4.out)
    go_wp2
    go_ret2
    exact ⟨_, _, _, rs, _, rfl, by omega, by omega, HA.out, HBB.out⟩

set_option maxHeartbeats 1000000 in
theorem c_DrawStackFar (A : Option Addr) (n c : Nat) (w : World) (h : RdB w A n) (hn : n ≤ 1048576) (hc : n ≤ c) :
    Calls Try.prog 23 #[.slice A n c] w (DrawRI w) := by
  have HB := Lib.hid h
  clear h
  go_enter Try.func23, Try.ntmps23
  go_wp2_with fail
  refine (c_DrawStackWithout _ _ _ _ HB.out hn hc).mono ?_
  rintro e w1 ⟨A1, n1, c1, rs, d, rfl, hd0, hd1, hA, hB⟩
  have HA := Lib.hid hA
  clear hA
  go_wp2
  go_ret2
  exact ⟨_, _, _, rs, _, rfl, hd0, hd1, HA.out, hB⟩

def lenOf : Value → Nat
  | .slice _ n _ => n
  | _ => 0
def ValidRel (g : Nat) (w1 : World) (o : Value) (wr : World) : Prop :=
  ∃ (k : Nat) (rs : List RV), 0 < k ∧ k ≤ 7 ∧ OwnR wr w1.heap.size 29 o k rs ∧ OwnAll wr w1.heap.size rs ∧ (∀ r ∈ rs, r.n ≤ 8) ∧ w1.grownBy wr (some g)

set_option maxHeartbeats 1000000 in
theorem c_DrawStackValid (A : Option Addr) (n c : Nat) (w : World) (h : RdB w A n) (hn : n ≤ 1048576) (hc : n ≤ c) :
    Calls Try.prog 16 #[.slice A n c] w (DrawR w) := by
  have HB := Lib.hid h
  clear h
  obtain ⟨i0, hi, hz0, hz1, hz2⟩ := info_parts info_rowD
  have HI := Lib.hid hi
  have HZ0 := Lib.hid hz0
  have HZ1 := Lib.hid hz1
  have HZ2 := Lib.hid hz2
  clear hi hz0 hz1 hz2
  go_enter Try.func16, Try.ntmps16
  go_wp2_with fail
  refine (c_l6Open _ _ _ _ HB.out (by omega) hc).mono ?_
  rintro e w1 ⟨rfl, hr1, hb1, hs1⟩
  have HR1 := Lib.hid hr1
  have HS1 := Lib.hid hs1
  clear hr1 hs1
  go_wp2_with fail
  refine (c_l93Stack _ _ _ _ (by omega) HR1.out).mono ?_
  rintro e w2 ⟨A2, n2, c2, rs, rfl, hn2, hc2, hO2, hA2, hl2, ⟨p2, hp2, hr2⟩, hg2⟩
  have HO2 := Lib.hid hO2
  have HA2 := Lib.hid hA2
  have HL2 := Lib.hid hl2
  have HG2 := Lib.hid hg2
  have HR2 := Lib.hid hr2
  have hgl : w.heap.size < w1.heap.size := by have := HS1.out; omega
  clear hO2 hA2 hl2 hr2 hg2
  by_cases hz : n2 = 0
  · subst hz
    have HA := Lib.hid (rows_at (by omega) hc2 HO2.out HA2.out HL2.out)
    have HBB := Lib.hid (drawn_below hb1 HS1.out HG2.out)
    go_wp2
    go_ret
    exact ⟨_, _, _, rs, rfl, HA.out, HBB.out⟩
  · have hz' : 0 < n2 := by omega
    have hzd : decide (0 < n2) = true := by simp; omega
    go_wp2_with fail
    refine (c_pick _ _ _ _ _ (by omega) HR2.out).mono ?_
    rintro e w3 ⟨x, rfl, hx0, hx1, hr3, hg3, hs3⟩
    have HO3 := Lib.hid (HO2.out.grownA HA2.out hg3 hgl hgl)
    have HA3 := Lib.hid (HA2.out.grown hg3 hgl)
    have HG3 := Lib.hid (only_same HG2.out hg3)
    clear hr3 hg3 hs3 HO2 HA2 HG2 HR2
    by_cases hx : x = 0
    · subst hx
      go_wp2_with fail
      go_loopw [4] (fun o wr => ValidRel w.heap.size w1 o wr) (fun o _ => 30 - lenOf o)
      case atStart => exact ⟨n2, rs, hz', by omega, HO3.out, HA3.out, HL2.out, HG3.out⟩
      case round =>
        obtain ⟨k, ks, hk0, hk, hO, hA, hl, hG⟩ := hrel
        have HOk := Lib.hid hO
        have HAk := Lib.hid hA
        have HLk := Lib.hid hl
        have HGk := Lib.hid hG
        obtain ⟨A4, c4, rfl, hc4, hc5, hrd4, hrow4⟩ := hO.form
        obtain ⟨gb, rfl, hgb⟩ := hrow4 hk0
        have hsz : w1.heap.size ≤ wr.heap.size := HGk.out.size
        by_cases hlt : k ≤ 6
        · obtain ⟨b, off, e2, hb, hcl⟩ := hrd4.at_ (by omega)
          injection e2 with e2
          injection e2 with e3 e4
          subst e3 e4
          have hc0 := hcl 0 hk0
          rw [Nat.add_zero] at hc0
          have hl0 : 0 < ks.length := by have := hrd4.len; omega
          have HR0 := Lib.hid (HAk.out _ (rv_mem hl0))
          have HLL := Lib.hid (le_snoc (r := rv ks 0) HLk.out (HLk.out _ (rv_mem hl0)))
          clear hcl hO hA hl hG hrd4 hrow4
          go_wp2_with (at_builtin; refine wpList_appendO (by rfl) _ _ 22 rfl w1.heap.size i0 (.slice none 0 0) Try.underlying22 HI.out HZ0.out HZ1.out HZ2.out rfl _ k ks rfl (HOk.out.alloc _) w1.heap.size (HAk.out.alloc _) wr.heap.size (rv ks 0) rfl (cell_newD wr _ _) (HR0.out.below ((Below.refl _ _).alloc (Nat.le_refl _) _)) (by omega) (by simp; omega) ?_; intro v' w5 hO5 hA5 hB5 hG5)
          go_roundw
          case rel => exact ⟨k + 1, _, by omega, by omega, hO5, hA5, HLL.out, only_belowAt (only_alloc HGk.out _) hB5 (Nat.le_refl _)⟩
          case measure =>
            obtain ⟨_, _, hv, _⟩ := hO5.form
            rw [hv]
            simp [lenOf]; omega
        · have hd : decide ((k : Int) ≤ 6) = false := by simp; omega
          have HA := Lib.hid (rows_at hk hc4 HOk.out HAk.out HLk.out)
          have HBB := Lib.hid (drawn_below hb1 HS1.out HGk.out)
          clear hO hA hl hG hrd4 hrow4
          go_wp2
          go_ret
          exact ⟨_, _, _, ks, rfl, HA.out, HBB.out⟩
    · have hx' : (x == 0) = false := by simpa using hx
      have HA := Lib.hid (rows_at (by omega) hc2 HO3.out HA3.out HL2.out)
      have HBB := Lib.hid (drawn_below hb1 HS1.out HG3.out)
      go_wp2
      go_ret
      exact ⟨_, _, _, rs, rfl, HA.out, HBB.out⟩
end Go.Proofs.Ytbaplcdedijaeaa
