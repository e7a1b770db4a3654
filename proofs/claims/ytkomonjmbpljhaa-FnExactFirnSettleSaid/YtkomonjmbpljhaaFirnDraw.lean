/-
  Contracts of the draws of firn: each returns some short list of slabs.
-/
import Derived.Test.YtkomonjmbpljhaaRows
import Derived.Test.YtkomonjmbpljhaaOwn
import Derived.Test.YtkomonjmbpljhaaReader
import Derived.Test.YtkomonjmbpljhaaFirnSums
namespace Go.Proofs.Ytkomonjmbpljhaa
open Go.RowKit

theorem info_slab' : (Try.prog.info? 30).map (fun i => (i.zero, i.size, i.bytes)) = some (some (.agg #[.int .i64 0, .int .i64 0]), 2, 16) := by kernel_rfl

/-- some list of at most N pairs, in a row of the call's own; the reader has gone on -/
def FirnPost (B g N : Nat) (w : World) (e : Ending) (w' : World) : Prop :=
  ∃ A n c l, e = .returned (.slice A n c) ∧ n ≤ N ∧ n ≤ c ∧ RdP w' A n l ∧ (∃ p, p ≤ 100 ∧ Rdr w' B g p) ∧ w.grownBy w' (some g) ∧
    OwnP w' w.heap.size 30 (.slice A n c) n l

/-- what a draw returns: some list of at most N pairs; nothing that was there has turned -/
def DrawP (N : Nat) (w : World) (e : Ending) (w' : World) : Prop :=
  ∃ A n c l, e = .returned (.slice A n c) ∧ n ≤ N ∧ n ≤ c ∧ RdP w' A n l ∧ Below w.heap.size w w'
def DrawPI (N : Nat) (w : World) (e : Ending) (w' : World) : Prop :=
  ∃ A n c l d, e = .returned (.tuple #[.slice A n c, .int .i64 d]) ∧ n ≤ N ∧ n ≤ c ∧ -1000000000 ≤ d ∧ d ≤ 1000000000 ∧ RdP w' A n l ∧ Below w.heap.size w w'

/-- what the loop of l93Firn keeps -/
def FirnRel (B g m p : Nat) (w : World) (o i : Value) (wr : World) : Prop :=
  ∃ (k : Nat) (l : List (Int × Int)), k ≤ m ∧ i = .int .i64 k ∧ OwnP wr w.heap.size 30 o k l ∧ Rdr wr B g (p + 1 + 2 * k) ∧ w.grownBy wr (some g)

set_option maxHeartbeats 800000 in
theorem c_l93Firn (B g p : Nat) (w : World) (hp : p ≤ 10) (h : Rdr w B g p) :
    Calls Try.prog 35 #[.pointer (some ⟨g, 0, none⟩)] w (FirnPost B g 6 w) := by
  have HR := Lib.hid h
  have hlt := h.lt
  have hge := h.ge
  clear h
  obtain ⟨i0, hi, hz0, hz1, hz2⟩ := info_parts info_slab'
  have HI := Lib.hid hi
  have HZ0 := Lib.hid hz0
  have HZ1 := Lib.hid hz1
  have HZ2 := Lib.hid hz2
  clear hi hz0 hz1 hz2
  go_enter Try.func35, Try.ntmps35
  go_wp2_with fail
  refine (c_pick B g p _ _ (by omega) (HR.out.below ((Below.refl _ _).alloc (Nat.le_refl _) _))).mono ?_
  rintro e w1 ⟨x, rfl, hx0, hx1, hr1, hg1, hs1⟩
  have HR1 := Lib.hid hr1
  have HG1 := Lib.hid (only_same (only_alloc (World.grownBy.refl w (some g)) _) hg1)
  have HO1 := Lib.hid ((OwnP.empty w 30 (Nat.le_refl _)).grown hg1 hlt)
  clear hr1 hg1 hs1
  obtain ⟨m, rfl⟩ : ∃ m : Nat, x = (m : Int) := ⟨x.toNat, by omega⟩
  have hm : m ≤ 5 := by omega
  clear hx0 hx1
  go_wp2_with fail
  go_loopw [3, 5] (fun o i wr => FirnRel B g m p w o i wr) (fun _ i _ => m - (intOf i).toNat)
  case atStart => exact ⟨0, [], Nat.zero_le _, rfl, HO1.out, HR1.out, HG1.out⟩
  case round =>
    obtain ⟨k, l, hk, rfl, hO, hR, hG⟩ := hrel
    have HO := Lib.hid hO
    have HR2 := Lib.hid hR
    have HG := Lib.hid hG
    clear hO hR hG
    by_cases hlt2 : k < m
    · go_wp2_with fail
      refine (c_pick B g _ _ _ (by omega) HR2.out).mono ?_
      rintro e w2 ⟨x, rfl, hx0, hx1, hr2, hg2, hs2⟩
      have HR3 := Lib.hid hr2
      have HG3 := Lib.hid (only_same HG.out hg2)
      have HO3 := Lib.hid (HO.out.grown hg2 hlt)
      clear hr2 hg2 hs2 HO HR2 HG
      go_wp2_with fail
      refine (c_pick B g _ _ _ (by omega) HR3.out).mono ?_
      rintro e w3 ⟨y, rfl, hy0, hy1, hr4, hg4, hs4⟩
      have HR4 := Lib.hid hr4
      have HG4 := Lib.hid (only_same HG3.out hg4)
      have HO4 := Lib.hid (HO3.out.grown hg4 hlt)
      have hsz : w.heap.size ≤ w3.heap.size := HG4.out.size
      clear hr4 hg4 hs4 HO3 HR3 HG3
      go_wp2_with (at_builtin; refine wpList_appendP rfl _ _ 23 rfl w.heap.size 30 i0 (.agg #[.int .i64 0, .int .i64 0]) Try.underlying23 HI.out HZ0.out HZ1.out HZ2.out rfl _ _ _ rfl (HO4.out.alloc _) ⟨w3.heap.size, 0, none⟩ (1 + x) (1 + (300 + y * 3) % 917) rfl (cell_two_new _ _ _ _) (by omega) (by simp; omega) ?_; intro v' w5 hO5 hB5)
      go_roundw
      case rel => exact ⟨k + 1, _, by omega, by go_num, hO5, by rw [show p + 1 + 2 * (k + 1) = p + 1 + 2 * k + 1 + 1 by omega]; exact (HR4.out.below ((Below.refl _ _).alloc (Nat.le_refl _) _)).belowAt hB5 hlt, only_belowAt (only_alloc HG4.out _) hB5 (Nat.le_refl _)⟩
      case measure => simp [intOf]; omega
    · obtain rfl : k = m := by omega
      have hsz : w.heap.size ≤ wr.heap.size := HG.out.size
      obtain ⟨A, c, rfl, hc, hc2, hrd, hrow⟩ := HO.out.form
      have HRD := Lib.hid hrd
      have HROW := Lib.hid hrow
      clear hrd hrow
      by_cases hm0 : k = 0
      · subst hm0
        go_wp2
        go_ret
        exact ⟨_, _, _, _, rfl, by omega, hc, HRD.out, ⟨_, by omega, HR2.out⟩, HG.out, HO.out⟩
      · obtain ⟨gb, rfl, hgb, hrp⟩ := HROW.out (by omega)
        have HRP := Lib.hid hrp
        clear hrp HROW
        have hk0 : 0 < k := by omega
        go_wp2_with fail
        refine (c_pick B g _ _ _ (by omega) HR2.out).mono ?_
        rintro e w2 ⟨x, rfl, hx0, hx1, hr2, hg2, hs2⟩
        have HR3 := Lib.hid hr2
        have HG3 := Lib.hid (only_same HG.out hg2)
        have HO3 := Lib.hid (HO.out.grown hg2 hlt)
        have hsz2 : w.heap.size ≤ w2.heap.size := HG3.out.size
        clear hr2 hg2 hs2 HO HR2 HG HRP
        by_cases h0 : x = 0
        · subst h0
          go_wp2_with fail
          refine (c_pick B g _ _ _ (by omega) (HR3.out.below ((Below.refl _ _).alloc (Nat.le_refl _) _))).mono ?_
          rintro e w3 ⟨y, rfl, hy0, hy1, hr4, hg4, hs4⟩
          have HR4 := Lib.hid hr4
          have HG4 := Lib.hid (only_same (only_alloc HG3.out _) hg4)
          have HO4 := Lib.hid ((HO3.out.alloc _).grown hg4 hlt)
          obtain ⟨hc0, hc1⟩ := lit2 hg4 (by omega)
          obtain ⟨⟨u0, hcu⟩, hfu⟩ := HO4.out.cell0 0 (by omega)
          have hcu' : w3.cell? ⟨gb, 0, none⟩ = some (.int .i64 u0) := hcu
          clear hr4 hg4 hs4 HO3 HR3 HG3
          rcases (show y = 0 ∨ y = 1 by omega) with rfl | rfl
          all_goals
            go_wp2
            go_ret
            obtain ⟨l', hO'⟩ := HO4.out.put 0 _
            obtain ⟨_, _, hv, _, _, hrd, _⟩ := hO'.form
            injection hv with hv1 hv2
            subst hv1
            exact ⟨_, _, _, _, rfl, by omega, hc, hrd, ⟨_, by omega, HR4.out.of_same fun j hj => Below.heap_setCell _ _ _ _ (by simp; omega)⟩, only_setCell HG4.out (.inr hgb) _, hO'⟩
        · have h0' : (x == 0) = false := by simpa using h0
          by_cases h1 : x = 1
          · subst h1
            obtain ⟨⟨u0, hcu⟩, hfu⟩ := HO3.out.cell0 1 (by omega)
            go_wp2
            go_ret
            obtain ⟨l', hO'⟩ := HO3.out.put 1 918
            obtain ⟨_, _, hv, _, _, hrd, _⟩ := hO'.form
            injection hv with hv1 hv2
            subst hv1
            exact ⟨_, _, _, _, rfl, by omega, hc, hrd, ⟨_, by omega, HR3.out.of_same fun j hj => Below.heap_setCell _ _ _ _ (by simp; omega)⟩, only_setCell HG3.out (.inr hgb) _, hO'⟩
          · have h1' : (x == 1) = false := by simpa using h1
            go_wp2
            go_ret
            obtain ⟨_, _, hv, _, _, hrd, _⟩ := HO3.out.form
            injection hv with hv1 hv2
            subst hv1
            exact ⟨_, _, _, _, rfl, by omega, hc, hrd, ⟨_, by omega, HR3.out⟩, HG3.out, HO3.out⟩
end Go.Proofs.Ytkomonjmbpljhaa
