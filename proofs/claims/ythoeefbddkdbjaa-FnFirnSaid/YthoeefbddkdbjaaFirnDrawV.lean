/-
  Contract of DrawFirnValid: some list of at most 21 slabs, memory of its own.
-/
import Derived.Test.YthoeefbddkdbjaaFirnDrawA
namespace Go.Proofs.Ythoeefbddkdbjaa
open Go.RowKit

theorem RdP.first {w : World} {g n : Nat} {l : List (Int × Int)} (h : RdP w (some ⟨g, 0, none⟩) n l) (hn : 0 < n) : w.cell? ⟨g, 0, none⟩ = some (.int .i64 (px l 0)) ∧ w.cell? ⟨g, 1, none⟩ = some (.int .i64 (py l 0)) := by
  obtain ⟨b, off, e, _, hc⟩ := h.at_ hn
  injection e with e
  injection e with e1 e2
  subst e1 e2
  have := hc 0 hn
  simpa using this

def ValidRel (B g : Nat) (w1 : World) (o : Value) (wr : World) : Prop :=
  ∃ (k : Nat) (l : List (Int × Int)), 0 < k ∧ k ≤ 21 ∧ OwnP wr w1.heap.size 32 o k l ∧ w1.grownBy wr (some g) ∧ B ≤ g
def lenOf : Value → Nat
  | .slice _ n _ => n
  | _ => 0

set_option maxHeartbeats 800000 in
theorem c_DrawFirnValid (A : Option Addr) (n c : Nat) (w : World) (h : RdB w A n) (hn : n ≤ 1048576) (hc : n ≤ c) :
    Calls Try.prog 20 #[.slice A n c] w (DrawP 30 w) := by
  have HB := Lib.hid h
  clear h
  obtain ⟨i0, hi, hz0, hz1, hz2⟩ := info_parts info_slab'
  have HI := Lib.hid hi
  have HZ0 := Lib.hid hz0
  have HZ1 := Lib.hid hz1
  have HZ2 := Lib.hid hz2
  clear hi hz0 hz1 hz2
  go_enter Try.func20, Try.ntmps20
  go_wp2_with fail
  refine (c_l6Open _ _ _ _ HB.out (by omega) hc).mono ?_
  rintro e w1 ⟨rfl, hr1, hb1, hs1⟩
  have HR1 := Lib.hid hr1
  have HS1 := Lib.hid hs1
  clear hr1 hs1
  go_wp2_with fail
  refine (c_l93Firn _ _ _ _ (by omega) HR1.out).mono ?_
  rintro e w2 ⟨A2, n2, c2, l, rfl, hn2, hc2, hrd, ⟨p2, hp2, hr2⟩, hg2, hO2⟩
  have HRD := Lib.hid hrd
  have HG := Lib.hid hg2
  have HR2 := Lib.hid hr2
  have HO := Lib.hid hO2
  clear hrd hg2 hr2 hO2
  by_cases hz : n2 = 0
  · subst hz
    go_wp2
    go_ret
    exact firn_below (by omega) hc2 HRD.out hb1 HS1.out HG.out
  · have hz' : 0 < n2 := by omega
    have hzd : decide (0 < n2) = true := by simp; omega
    go_wp2_with fail
    refine (c_pick _ _ _ _ _ (by omega) HR2.out).mono ?_
    rintro e w3 ⟨x, rfl, hx0, hx1, hr3, hg3, hs3⟩
    have HG3 := Lib.hid (only_same HG.out hg3)
    have HO3 := Lib.hid (HO.out.grown hg3 (by have := HS1.out; omega))
    clear hr3 hg3 hs3 HG HO HRD HR2
    by_cases hx : x = 0
    · subst hx
      go_wp2_with fail
      go_loopw [4] (fun o wr => ValidRel w.heap.size w.heap.size w1 o wr) (fun o _ => 30 - lenOf o)
      case atStart => exact ⟨n2, l, hz', by omega, HO3.out, HG3.out, Nat.le_refl _⟩
      case round =>
        obtain ⟨k, l', hk0, hk, hO, hG, _⟩ := hrel
        have HOk := Lib.hid hO
        have HGk := Lib.hid hG
        obtain ⟨A4, c4, rfl, hc4, hc5, hrd4, hrow4⟩ := hO.form
        obtain ⟨gb, rfl, hgb, hrp⟩ := hrow4 hk0
        have HRD := Lib.hid hrd4
        clear hrow4 hrp hO hG hrd4
        have hsz : w1.heap.size ≤ wr.heap.size := HGk.out.size
        by_cases hlt : k ≤ 20
        · obtain ⟨q0, q1⟩ := HRD.out.first hk0
          go_wp2_with (at_builtin; refine wpList_appendP (by rfl) _ _ 25 rfl w1.heap.size 32 i0 (.agg #[.int .i64 0, .int .i64 0]) Try.underlying25 HI.out HZ0.out HZ1.out HZ2.out rfl _ _ _ rfl (HOk.out.alloc _) ⟨wr.heap.size, 0, none⟩ (px l' 0) (py l' 0) rfl (cell_two_new _ _ _ _) (by omega) (by simp; omega) ?_; intro v' w5 hO5 hB5)
          go_roundw
          case rel => exact ⟨k + 1, _, by omega, by omega, hO5, only_belowAt (only_alloc HGk.out _) hB5 (Nat.le_refl _), Nat.le_refl _⟩
          case measure =>
            obtain ⟨_, _, hv, _⟩ := hO5.form
            rw [hv]
            simp [lenOf]; omega
        · have hd : decide ((k : Int) ≤ 20) = false := by simp; omega
          go_wp2
          go_ret
          exact ⟨_, _, _, _, rfl, by omega, hc4, HRD.out, only_to_below HGk.out hb1 (Nat.le_refl _) (by have := HS1.out; omega)⟩
    · have hx' : (x == 0) = false := by simpa using hx
      go_wp2
      go_ret
      obtain ⟨_, _, hv, _, _, hrd, _⟩ := HO3.out.form
      injection hv with hv1 hv2
      subst hv1
      exact firn_below (by omega) hc2 hrd hb1 HS1.out HG3.out
end Go.Proofs.Ythoeefbddkdbjaa
