/-
  Contracts of the functions that the exact laws use: they measure, copy and compare lists of knots.
-/
import Derived.Test.YtfngdemjlglliaaRows
import Derived.Test.YtfngdemjlglliaaWords
import Derived.Handy
import Derived.StillTailTactics
namespace Go.Proofs.Ytfngdemjlglliaa
open Go.RowKit

theorem info_knotE : (Try.prog.info? 31).map (fun i => (i.zero, i.size, i.bytes)) = some (some (.agg #[.int .i64 0, .int .i64 0]), 2, 16) := by kernel_rfl

set_option maxHeartbeats 400000 in
theorem c_szKnotS_no (A : Option Addr) (n c : Nat) (w : World) (hn : 1048576 < n) (hn2 : n ≤ 9223372036854775807) :
    Calls Try.prog 19 #[.slice A n c, .int .i64 1048576] w fun e w' => e = .returned (.int .i64 (-1)) ∧ w = w' := by
  go_enter Try.func19, Try.ntmps19
  go_wp2
  go_ret
  exact ⟨rfl, rfl⟩
set_option maxHeartbeats 400000 in
theorem c_szKnotS_yes (A : Option Addr) (n c : Nat) (w : World) (hn : n ≤ 1048576) :
    Calls Try.prog 19 #[.slice A n c, .int .i64 1048576] w fun e w' => e = .returned (.int .i64 (1048576 - n)) ∧ w = w' := by
  go_enter Try.func19, Try.ntmps19
  go_wp2
  go_ret
  exact ⟨rfl, rfl⟩

set_option maxHeartbeats 400000 in
theorem c_toKnot (x y : Int) (w : World) :
    Calls Try.prog 42 #[.agg #[.int .i64 x, .int .i64 y]] w fun e w' => e = .returned (.agg #[.int .i64 x, .int .i64 y]) ∧ Below w.heap.size w w' := by
  go_enter Try.func42, Try.ntmps42
  go_wp2
  refine bodyPost_ret (v := .agg #[.int .i64 x, .int .i64 y]) (by simp [results, Try.results42, go_sem]) rfl ⟨rfl, ?_⟩
  go_grown

def eqP (x y x' y' : Int) : Bool := decide (x = x' ∧ y = y')
theorem eqP_yes {x y x' y' : Int} (h : eqP x y x' y' = true) : x = x' ∧ y = y' := of_decide_eq_true h
theorem eqP_no {x y x' y' : Int} (h : eqP x y x' y' = false) : ¬ (x = x' ∧ y = y') := of_decide_eq_false h

set_option maxHeartbeats 400000 in
theorem c_eqKnot (x y x' y' : Int) (w : World) :
    Calls Try.prog 43 #[.agg #[.int .i64 x, .int .i64 y], .agg #[.int .i64 x', .int .i64 y']] w fun e w' => e = .returned (.bool (eqP x y x' y')) ∧ Below w.heap.size w w' := by
  by_cases h1 : x = x' <;> by_cases h2 : y = y'
  all_goals
    have g1 := h1
    have g2 := h2
    first | (rw [← bne_eq_false_iff_eq] at g1; try subst h1) | rw [← ne_eq, ← bne_iff_ne] at g1
    first | (rw [← bne_eq_false_iff_eq] at g2; try subst h2) | rw [← ne_eq, ← bne_iff_ne] at g2
    go_enter Try.func43, Try.ntmps43
    go_wp2
    go_ret
    exact ⟨ret_bool (by simp_all [eqP]), by go_grown⟩

/-- toKnotS: what has been copied so far -/
theorem row_put {w : World} {g : Nat} {t : TypeId} {n k : Nat} {cs : Array Value} {l : List (Int × Int)} (hb : Blk w g t cs) (hs : n * 2 ≤ cs.size) (hk : k < n)
    (hc : ∀ i, i < k → cs[i * 2]? = some (.int .i64 (px l i)) ∧ cs[i * 2 + 1]? = some (.int .i64 (py l i))) :
    ∃ cs', Blk ((w.setCell ⟨g, k * 2, none⟩ (.int .i64 (px l k))).setCell ⟨g, k * 2 + 1, none⟩ (.int .i64 (py l k))) g t cs' ∧ n * 2 ≤ cs'.size ∧
      ∀ i, i < k + 1 → cs'[i * 2]? = some (.int .i64 (px l i)) ∧ cs'[i * 2 + 1]? = some (.int .i64 (py l i)) := by
  refine ⟨_, (hb.put _ _).put _ _, by simpa using hs, fun i hi => ?_⟩
  simp only [Array.getElem?_setIfInBounds, Array.size_setIfInBounds]
  by_cases e : i = k
  · subst e
    rw [if_neg (by omega), if_pos rfl, if_pos (by omega), if_pos rfl, if_pos (by omega)]
    exact ⟨rfl, rfl⟩
  · rw [if_neg (by omega), if_neg (by omega), if_neg (by omega), if_neg (by omega)]
    exact hc i (by omega)

def ToPost (n : Nat) (l : List (Int × Int)) (w : World) (e : Ending) (w' : World) : Prop :=
  ∃ g, e = .returned (.slice (some ⟨g, 0, none⟩) n n) ∧ w.heap.size ≤ g ∧ RowP w' g 31 n l ∧ Below w.heap.size w w'

set_option maxHeartbeats 400000 in
theorem c_toKnotS (A : Option Addr) (n c : Nat) (l : List (Int × Int)) (w : World) (hn : n ≤ 2000000) (h : RdP w A n l) :
    Calls Try.prog 20 #[.slice A n c] w (ToPost n l w) := by
  have HL := Lib.hid h.len
  have HA := Lib.hid h.at_
  clear h
  obtain ⟨i0, hi, hz0, hz1, hz2⟩ := info_parts info_knotE
  have HI := Lib.hid hi
  have HZ := Lib.hid hz2
  clear hi hz2
  go_enter Try.func20, Try.ntmps20
  go_wp2_with (at_make; refine wpList_make_full _ rfl _ _ 23 rfl w.heap.size 31 i0 (.agg #[.int .i64 0, .int .i64 0]) 2 Try.underlying23 HI.out hz0 hz1 _ _ _ _ n rfl rfl rfl rfl ?b1 ?b2 ?b3 ?_)
  case b1 => rw [HZ.out]; omega
  case b2 => unfold maxLen; omega
  case b3 => exact Nat.le_refl _
  intro w1 hown hgrow
  obtain ⟨cs, hblk, hsz, _, _⟩ := Blk.of_own hown
  have hB : Below w.heap.size w w1 := (Below.refl _ _).grown hgrow (Nat.le_refl _) (fun k hk => by cases hk)
  clear hown hgrow HI HZ hz0 hz1
  have HB := Lib.hid (show ∃ cs, Blk w1 w.heap.size 31 cs ∧ n * 2 ≤ cs.size ∧ ∀ i, i < 0 → cs[i * 2]? = some (.int .i64 (px l i)) ∧ cs[i * 2 + 1]? = some (.int .i64 (py l i)) from ⟨cs, hblk, by omega, fun i hi => absurd hi (by omega)⟩)
  clear hblk hsz
  go_wp2
  go_loopw [4] (fun i wr => ∃ k : Nat, k ≤ n ∧ i = .int .i64 k ∧ Hid (∃ cs, Blk wr w.heap.size 31 cs ∧ n * 2 ≤ cs.size ∧ ∀ i, i < k → cs[i * 2]? = some (.int .i64 (px l i)) ∧ cs[i * 2 + 1]? = some (.int .i64 (py l i))) ∧ Below w.heap.size w wr) (fun i _ => n - (intOf i).toNat)
  case atStart => exact ⟨0, Nat.zero_le _, rfl, HB, hB⟩
  case round =>
    obtain ⟨k, hk, rfl, HK, hBk⟩ := hrel
    by_cases hlt : k < n
    · obtain ⟨b, off, rfl, hb, hc⟩ := HA.out (by omega)
      obtain ⟨hc0, hc1⟩ := hc k hlt
      rw [← hBk.cell (p := ⟨b, off + k * 2, none⟩) hb] at hc0
      rw [← hBk.cell (p := ⟨b, off + k * 2 + 1, none⟩) hb] at hc1
      clear hc
      go_wp2_with fail
      refine (c_toKnot _ _ _).mono ?_
      rintro e w2 ⟨rfl, hb2⟩
      obtain ⟨cs, hblk, hs, hcs⟩ := HK.out
      have hblk2 := hblk.below hb2 hblk.lt
      obtain ⟨v0, hv0⟩ : ∃ v, w2.cell? ⟨w.heap.size, k * 2, none⟩ = some v := ⟨cs[k * 2]'(by omega), by rw [hblk2.cell, Array.getElem?_eq_getElem]⟩
      obtain ⟨v1, hv1⟩ : ∃ v, w2.cell? ⟨w.heap.size, k * 2 + 1, none⟩ = some v := ⟨cs[k * 2 + 1]'(by omega), by rw [hblk2.cell, Array.getElem?_eq_getElem]⟩
      have hf0 := hblk2.frozen (k * 2)
      have hf1 := hblk2.frozen (k * 2 + 1)
      have HR := Lib.hid (row_put hblk2 hs hlt hcs)
      have hB2 : Below w.heap.size w w2 := hBk.trans (hb2.mono hBk.size)
      clear hblk hs hcs hblk2 hc0 hc1 HK
      go_wp2
      go_roundw
      case rel => exact ⟨k + 1, by omega, by go_num, HR, (hB2.setCell (Nat.le_refl _) _).setCell (Nat.le_refl _) _⟩
      case measure => simp [intOf]; omega
    · obtain rfl : k = n := by omega
      go_wp2
      go_ret
      exact ⟨w.heap.size, rfl, Nat.le_refl _, ⟨HL.out, HK.out⟩, hBk⟩

def eqL (l m : List (Int × Int)) : Bool := decide (l = m)
theorem eqL_len {l m : List (Int × Int)} (h : l.length ≠ m.length) : eqL l m = false := by
  rw [eqL, decide_eq_false_iff_not]
  exact fun e => h (by rw [e])
theorem eqL_at {l m : List (Int × Int)} {k : Nat} (h : ¬ (px l k = px m k ∧ py l k = py m k)) : eqL l m = false := by
  rw [eqL, decide_eq_false_iff_not]
  exact fun e => h (by rw [e]; exact ⟨rfl, rfl⟩)
theorem eqL_all {l m : List (Int × Int)} {n : Nat} (hl : l.length = n) (hm : m.length = n) (h : ∀ i, i < n → px l i = px m i ∧ py l i = py m i) : eqL l m = true := by
  rw [eqL, decide_eq_true_iff]
  refine List.ext_getElem (by omega) fun i h1 h2 => ?_
  have := h i (by omega)
  rw [px_eq h1, px_eq h2, py_eq h1, py_eq h2] at this
  exact Prod.ext this.1 this.2

theorem eqL_step {l m : List (Int × Int)} {k : Nat} (h : ∀ i, i < k → px l i = px m i ∧ py l i = py m i) (hq : eqP (px l k) (py l k) (px m k) (py m k) = true) : ∀ i, i < k + 1 → px l i = px m i ∧ py l i = py m i := by
  intro i hi
  by_cases e : i = k
  · rw [e]; exact eqP_yes hq
  · exact h i (by omega)

set_option maxHeartbeats 400000 in
theorem c_eqKnotS (A A' : Option Addr) (n n' c c' : Nat) (l l' : List (Int × Int)) (w : World) (hn : n ≤ 2000000) (hn' : n' ≤ 2000000) (h : RdP w A n l) (h' : RdP w A' n' l') :
    Calls Try.prog 22 #[.slice A n c, .slice A' n' c'] w fun e w' => e = .returned (.bool (eqL l l')) ∧ Below w.heap.size w w' := by
  have HL := Lib.hid h.len
  have HA := Lib.hid h.at_
  have HL' := Lib.hid h'.len
  have HA' := Lib.hid h'.at_
  clear h h'
  by_cases hnn : n = n'
  · subst hnn
    have hbe : ((n : Int) != (n : Int)) = false := by simp
    go_enter Try.func22, Try.ntmps22
    go_wp2
    go_loopw [5] (fun i wr => ∃ k : Nat, k ≤ n ∧ i = .int .i64 k ∧ Hid (∀ i, i < k → px l i = px l' i ∧ py l i = py l' i) ∧ Below w.heap.size w wr) (fun i _ => n - (intOf i).toNat)
    case atStart => exact ⟨0, Nat.zero_le _, rfl, fun i hi => absurd hi (by omega), Below.refl _ _⟩
    case round =>
      obtain ⟨k, hk, rfl, HK, hBk⟩ := hrel
      by_cases hlt : k < n
      · obtain ⟨b, off, rfl, hb, hc⟩ := HA.out (by omega)
        obtain ⟨hc0, hc1⟩ := hc k hlt
        obtain ⟨b', off', rfl, hb', hc'⟩ := HA'.out (by omega)
        obtain ⟨hd0, hd1⟩ := hc' k hlt
        rw [← hBk.cell (p := ⟨b, off + k * 2, none⟩) hb] at hc0
        rw [← hBk.cell (p := ⟨b, off + k * 2 + 1, none⟩) hb] at hc1
        rw [← hBk.cell (p := ⟨b', off' + k * 2, none⟩) hb'] at hd0
        rw [← hBk.cell (p := ⟨b', off' + k * 2 + 1, none⟩) hb'] at hd1
        clear hc hc'
        go_wp2_with fail
        go_still_tail 8, (by kernel_rfl)
        have hBd : Below w.heap.size w wr.drew := hBk.drew
        have hsz := hBk.size
        rcases Bool.eq_false_or_eq_true (eqP (px l k) (py l k) (px l' k) (py l' k)) with hq | hq
        all_goals
          go_wp2_with fail
          refine (c_eqKnot _ _ _ _ _).mono ?_
          rintro e w2 ⟨rfl, hb2⟩
          have hB2 : Below w.heap.size w w2 := hBd.trans (hb2.mono hBd.size)
          go_wp2
        · go_roundw
          case rel => exact ⟨k + 1, by omega, by go_num, eqL_step HK.out hq, hB2⟩
          case measure => simp [intOf]; omega
        · go_ret
          exact ⟨ret_bool (eqL_at (eqP_no hq)).symm, hB2⟩
      · obtain rfl : k = n := by omega
        go_wp2
        go_ret
        exact ⟨ret_bool (eqL_all HL.out HL'.out HK.out).symm, hBk⟩
  · have hbe : ((n : Int) != (n' : Int)) = true := by rw [bne_iff_ne]; omega
    go_enter Try.func22, Try.ntmps22
    go_wp2
    go_ret
    exact ⟨ret_bool (eqL_len (by rw [HL.out, HL'.out]; exact hnn)).symm, Below.refl _ _⟩

end Go.Proofs.Ytfngdemjlglliaa
