/-
  Contracts of toIntS, eqIntS, markIntS over rows of integers.
-/
import Derived.Test.YtmcpojnioppgfaaRows
import Derived.Test.YtmcpojnioppgfaaIntsOwn
import Derived.Handy
import Derived.Deep.Draws
import Derived.Deep.QuietTactic
import Derived.BigQuiet
namespace Go.Proofs.Ytmcpojnioppgfaa
open Go.RowKit

theorem below_drewK {B n : Nat} {a w : World} (h : Below B a w) : Below B a (w.drewN n) := ⟨h.os, h.tape, h.output, h.size, h.block⟩
theorem RdI.drewN {w : World} {A : Option Addr} {n : Nat} {l : List Int} (h : RdI w A n l) (m : Nat) : RdI (w.drewN m) A n l := ⟨h.len, h.at_⟩
/-- block g is just the numbers of l -/
def RowE (w : World) (g : Nat) (t : TypeId) (l : List Int) : Prop := Blk w g t (ints l).toArray
section
variable {w w' : World} {g : Nat} {t : TypeId} {l : List Int}
theorem RowE.cell (h : RowE w g t l) {j : Nat} (hj : j < l.length) : w.cell? ⟨g, j, none⟩ = some (.int .i64 (ix l j)) ∧ w.frozen? ⟨g, j, none⟩ = false := by
  refine ⟨?_, Blk.frozen h _⟩
  rw [Blk.cell h]
  simpa using ints_at l j hj
theorem RowE.put (h : RowE w g t l) (j : Nat) (x : Int) : RowE (w.setCell ⟨g, j, none⟩ (.int .i64 x)) g t (l.set j x) := by
  have := Blk.put h j (.int .i64 x)
  have e : (ints l).toArray.setIfInBounds j (.int .i64 x) = (ints (l.set j x)).toArray := by simp [ints, List.map_set]
  rwa [e] at this
theorem RowE.below (h : RowE w g t l) (hb : Below w.heap.size w w') : RowE w' g t l := Blk.below h hb (Blk.lt h)
theorem RowE.made {base n : Nat} (h : w.ownsRow base t 1 (.slice (some ⟨g, 0, none⟩) n n) n (madeCells #[Value.int .i64 0] n).toList) : RowE w g t (List.replicate n 0) := by
  obtain ⟨cs, hb, hs, _, ht⟩ := Blk.of_own h
  have e : (madeCells #[Value.int .i64 0] n).toList = List.replicate n (.int .i64 0) := toList_madeCells_one _ _
  rw [e, Nat.mul_one, List.take_of_length_le (by simp; omega)] at ht
  have e2 : cs = (ints (List.replicate n 0)).toArray := by
    apply Array.ext'
    rw [ht]
    simp [ints]
  rw [e2] at hb
  exact hb
theorem RowE.own {base : Nat} (h : RowE w g t l) (hb : base ≤ g) (hn : l.length ≤ maxLen) : OwnI w base t (.slice (some ⟨g, 0, none⟩) l.length l.length) l.length l :=
  ⟨⟨by rw [ints_len, Nat.mul_one], .inr ⟨g, l.length, _, rfl, hb, h, Nat.le_refl _, hn, by simp [ints_len], by rw [Nat.mul_one]; exact List.take_of_length_le (by simp [ints])⟩⟩, rfl⟩
end
theorem cell_1 (W : World) (t : TypeId) (u : Value) : ∀ j x, [u][j]? = some x → (W.alloc (.cells #[u] t)).cell? ((⟨W.heap.size, 0, none⟩ : Addr).add j) = some x := by
  intro j x hx
  match j with
  | 0 =>
    have hb : Blk (W.alloc (.cells #[u] t)) W.heap.size t #[u] := heap_alloc_new W _
    rw [add_none, hb.cell]
    simpa using hx
  | j + 1 => simp at hx

theorem info_int : (Try.prog.info? 3).map (fun i => (i.zero, i.size, i.bytes)) = some (some (.int .i64 0), 1, 8) := by kernel_rfl
def eqI (l m : List Int) : Bool := decide (l = m)
theorem eqI_len {l m : List Int} (h : l.length ≠ m.length) : eqI l m = false := by
  rw [eqI, decide_eq_false_iff_not]; exact fun e => h (by rw [e])
theorem eqI_at {l m : List Int} {k : Nat} (h : ¬ ix l k = ix m k) : eqI l m = false := by
  rw [eqI, decide_eq_false_iff_not]; exact fun e => h (by rw [e])
theorem eqI_all {l m : List Int} {n : Nat} (hl : l.length = n) (hm : m.length = n) (h : ∀ i, i < n → ix l i = ix m i) : eqI l m = true := by
  rw [eqI, decide_eq_true_iff]
  refine List.ext_getElem (by omega) fun i h1 h2 => ?_
  have := h i (by omega)
  rwa [ix_eq h1, ix_eq h2] at this
theorem eqI_step {l m : List Int} {k : Nat} (h : ∀ i, i < k → ix l i = ix m i) (hq : ix l k = ix m k) : ∀ i, i < k + 1 → ix l i = ix m i := by
  intro i hi
  by_cases e : i = k
  · rw [e]; exact hq
  · exact h i (by omega)
/-- a call that returns b and only draws -/
def QuietB (b : Bool) (w : World) (e : Ending) (w' : World) : Prop := e = .returned (.bool b) ∧ ∃ m, w' = w.drewN m
theorem quietB {b b' : Bool} {w W : World} (h : b' = b) (m : Nat) (hw : W = w.drewN m) : QuietB b w (.returned (.bool b')) W := ⟨by rw [h], m, hw⟩
theorem QuietB.below {b : Bool} {w w' : World} {e : Ending} (h : QuietB b w e w') : e = .returned (.bool b) ∧ Below w.heap.size w w' := by
  obtain ⟨he, m, rfl⟩ := h
  exact ⟨he, below_drewK (Below.refl _ _)⟩
theorem quietB_true {P : Program} {f : FuncId} {args : Array Value} {w : World} {n : Nat} {b : Bool} (hb : b = true) (h : Calls P f args (w.drewN n) (QuietB b (w.drewN n))) : Calls P f args (w.drewN n) fun e w'' => e = .returned (.bool true) ∧ ∃ m, w'' = w.drewN m := by
  subst hb
  exact h.mono fun _ _ ⟨he, m, hm⟩ => ⟨he, n + m, by rw [hm, World.drewN_drewN]⟩
theorem quietB_false {P : Program} {f : FuncId} {args : Array Value} {w : World} {n : Nat} {b : Bool} (hb : b = false) (h : Calls P f args (w.drewN n) (QuietB b (w.drewN n))) : Calls P f args (w.drewN n) fun e w'' => e = .returned (.bool false) ∧ ∃ m, w'' = w.drewN m := by
  subst hb
  exact h.mono fun _ _ ⟨he, m, hm⟩ => ⟨he, n + m, by rw [hm, World.drewN_drewN]⟩
set_option maxHeartbeats 1000000 in
theorem c_eqIntS (A A' : Option Addr) (n n' c c' : Nat) (l l' : List Int) (w : World) (hn : n ≤ 2000000) (hn' : n' ≤ 2000000) (h : RdI w A n l) (h' : RdI w A' n' l') :
    Calls Try.prog 20 #[.slice A n c, .slice A' n' c'] w (QuietB (eqI l l') w) := by
  have HL := Lib.hid h.len
  have HA := Lib.hid h.at_
  have HL' := Lib.hid h'.len
  have HA' := Lib.hid h'.at_
  clear h h'
  by_cases hne : n = n'
  · subst hne
    go_enter Try.func20, Try.ntmps20
    go_wp2
    go_loopw [5] (fun i wr => ∃ k : Nat, k ≤ n ∧ i = .int .i64 k ∧ Hid (∀ i, i < k → ix l i = ix l' i) ∧ ∃ m, wr = w.drewN m) (fun i _ => n - (intOf i).toNat)
    case atStart => exact ⟨0, Nat.zero_le _, rfl, Lib.hid (fun i hi => absurd hi (by omega)), 0, rfl⟩
    case round =>
      obtain ⟨k, hk, rfl, HK, m, rfl⟩ := hrel
      by_cases hlt : k < n
      · obtain ⟨b, off, rfl, hb, hc⟩ := HA.out (by omega)
        have hc0 := hc k hlt
        obtain ⟨b', off', rfl, hb', hc'⟩ := HA'.out (by omega)
        have hd0 := hc' k hlt
        have hk0 : (0 : Int) ≤ (k : Int) := by omega
        have hk1 : (k : Int) < (n : Int) := by omega
        clear hc hc'
        by_cases he : ix l k = ix l' k
        · have hbe : (ix l k != ix l' k) = false := by rw [he]; simp
          have HE := Lib.hid he
          clear he
          go_wp2_with fail
          go_quiet (fail)
          go_wp2
          go_roundw
          case rel => exact ⟨k + 1, by omega, by go_num, eqI_step HK.out HE.out, m + nq, by first | rw [World.drewN_drewN] | rfl⟩
          case measure => simp [intOf]; omega
        · have hbe : (ix l k != ix l' k) = true := by rw [bne_iff_ne]; exact he
          have HE := Lib.hid he
          clear he
          go_wp2_with fail
          go_quiet (fail)
          go_wp2
          go_ret
          exact quietB (eqI_at HE.out).symm (m + nq) (by first | rw [World.drewN_drewN] | rfl)
      · obtain rfl : k = n := by omega
        go_wp2
        go_ret
        exact quietB (eqI_all HL.out HL'.out HK.out).symm m rfl
  · have hbe : ((n : Int) != (n' : Int)) = true := by rw [bne_iff_ne]; omega
    go_enter Try.func20, Try.ntmps20
    go_wp2
    go_ret
    exact quietB (eqI_len (by rw [HL.out, HL'.out]; exact hne)).symm 0 rfl

/-- the first k numbers of l, the others 0 -/
def tL (l : List Int) (k : Nat) : List Int := (List.range l.length).map fun j => if j < k then ix l j else 0
theorem tL_len (l : List Int) (k : Nat) : (tL l k).length = l.length := by simp [tL]
theorem tL_zero (l : List Int) : tL l 0 = List.replicate l.length 0 := List.ext_getElem (by simp [tL]) fun i h1 h2 => by simp [tL]
theorem tL_full (l : List Int) : tL l l.length = l := by
  refine List.ext_getElem (by simp [tL]) fun i h1 h2 => ?_
  simp [tL, h2, ix_eq h2]
theorem tL_set (l : List Int) (k : Nat) : (tL l k).set k (ix l k) = tL l (k + 1) := by
  refine List.ext_getElem (by simp [tL]) fun i h1 h2 => ?_
  rw [List.getElem_set]
  by_cases e : k = i
  · subst e; simp [tL]
  · rw [if_neg e]
    have : (i < k) ↔ (i < k + 1) := by omega
    simp [tL, this]
def ToI (n : Nat) (l : List Int) (w : World) (e : Ending) (w' : World) : Prop :=
  e = .returned (.slice (some ⟨w.heap.size, 0, none⟩) n n) ∧ RowE w' w.heap.size 3 l ∧ Below w.heap.size w w'
set_option maxHeartbeats 1000000 in
theorem c_toIntS (A : Option Addr) (n c : Nat) (l : List Int) (w : World) (hn : n ≤ 2000000) (h : RdI w A n l) :
    Calls Try.prog 18 #[.slice A n c] w (ToI n l w) := by
  have HL := Lib.hid h.len
  have HA := Lib.hid h.at_
  clear h
  obtain ⟨i0, hi, hz0, hz1, hz2⟩ := info_parts info_int
  have HI := Lib.hid hi
  have HZ := Lib.hid hz2
  clear hi hz2
  go_enter Try.func18, Try.ntmps18
  go_wp2_with (at_make; refine wpList_make_full _ rfl _ _ 24 rfl w.heap.size 3 i0 (.int .i64 0) 1 Try.underlying24 HI.out hz0 hz1 _ _ _ _ n rfl rfl rfl rfl ?b1 ?b2 ?b3 ?_)
  case b1 => rw [HZ.out]; omega
  case b2 => unfold maxLen; omega
  case b3 => exact Nat.le_refl _
  intro w1 hown hgrow
  have R1 := Lib.hid (RowE.made hown)
  have hB1 : Below w.heap.size w w1 := (Below.refl _ _).grown hgrow (Nat.le_refl _) (fun k hk => by cases hk)
  clear hown hgrow HI HZ hz0 hz1
  go_wp2
  go_loopw [4] (fun i wr => ∃ k : Nat, k ≤ n ∧ i = .int .i64 k ∧ RowE wr w.heap.size 3 (tL l k) ∧ Below w.heap.size w wr) (fun i _ => n - (intOf i).toNat)
  case atStart => exact ⟨0, Nat.zero_le _, rfl, by rw [tL_zero, HL.out]; exact R1.out, hB1⟩
  case round =>
    obtain ⟨k, hk, rfl, hR, hB⟩ := hrel
    have R2 := Lib.hid hR
    by_cases hlt : k < n
    · obtain ⟨b, off, rfl, hb, hc⟩ := HA.out (by omega)
      have hc0 := hc k hlt
      rw [← hB.cell (p := ⟨b, off + k, none⟩) hb] at hc0
      obtain ⟨hx, hf⟩ := hR.cell (j := k) (by rw [tL_len, HL.out]; exact hlt)
      have HP := Lib.hid (show RowE (wr.setCell ⟨w.heap.size, k, none⟩ (.int .i64 (ix l k))) w.heap.size 3 (tL l (k + 1)) by rw [← tL_set]; exact hR.put _ _)
      clear hc hR
      go_wp2
      go_roundw
      case rel => exact ⟨k + 1, by omega, by go_num, HP.out, hB.setCell (Nat.le_refl _) _⟩
      case measure => simp [intOf]; omega
    · obtain rfl : k = n := by omega
      have HE := Lib.hid (show tL l k = l by rw [← HL.out, tL_full])
      clear hR
      go_wp2
      go_ret
      exact ⟨rfl, by rw [← HE.out]; exact R2.out, hB⟩
/-- block g holds at least n cells -/
def Has (w : World) (g n : Nat) : Prop := ∃ cs, Blk w g 3 cs ∧ n ≤ cs.size
theorem Has.lt {w : World} {g n : Nat} (h : Has w g n) : g < w.heap.size := by
  obtain ⟨_, hb, _⟩ := h
  exact hb.lt
theorem Has.set {w : World} {g n : Nat} (h : Has w g n) (g' j : Nat) (u : Value) : Has (w.setCell ⟨g', j, none⟩ u) g n := by
  obtain ⟨cs, hb, hs⟩ := h
  by_cases e : g = g'
  · subst e
    exact ⟨_, hb.put _ _, by simpa using hs⟩
  · exact ⟨cs, hb.away (p := ⟨g', j, none⟩) e _, hs⟩
theorem Has.same {w w' : World} {g n : Nat} (h : Has w g n) (hs : w'.heap[g]? = w.heap[g]?) : Has w' g n := by
  obtain ⟨cs, hb, hz⟩ := h
  exact ⟨cs, hs.trans hb, hz⟩
theorem RowI.has {w : World} {g n : Nat} {l : List Int} (h : RowI w g 3 n l) : Has w g n := by
  obtain ⟨_, cs, hb, hs, _⟩ := h
  exact ⟨cs, hb, hs⟩
theorem RowE.has {w : World} {g : Nat} {l : List Int} (h : RowE w g 3 l) : Has w g l.length := ⟨_, h, by simp [ints]⟩
/-- the marks from k on -/
def mkI (k : Int) (n : Nat) : List Int := (List.range n).map fun (i : Nat) => k + (i : Int)
theorem mkI_len (k : Int) (n : Nat) : (mkI k n).length = n := by simp [mkI]
theorem mkI_ix {k : Int} {n i : Nat} (h : i < n) : ix (mkI k n) i = k + (i : Int) := by
  rw [ix_eq (by rw [mkI_len]; exact h)]
  simp [mkI]
/-- the first j cells of block g are marked -/
def Mkd (w : World) (g n j : Nat) (k : Int) : Prop := ∃ cs, Blk w g 3 cs ∧ n ≤ cs.size ∧ ∀ i, i < j → cs[i]? = some (.int .i64 (ix (mkI k n) i))
theorem Mkd.step {w : World} {g n j : Nat} {k x : Int} (h : Mkd w g n j k) (hj : j < n) (hx : x = k + (j : Int)) : Mkd (w.setCell ⟨g, j, none⟩ (.int .i64 x)) g n (j + 1) k := by
  obtain ⟨cs, hb, hs, hc⟩ := h
  refine ⟨_, hb.put _ _, by simpa using hs, fun i hi => ?_⟩
  rw [Array.getElem?_setIfInBounds]
  by_cases e : j = i
  · subst e
    rw [if_pos rfl, if_pos (by omega), mkI_ix hj, hx]
  · rw [if_neg e]
    exact hc i (by omega)
def MarkI (g n : Nat) (k : Int) (w : World) (e : Ending) (w' : World) : Prop :=
  e = .returned (.int .i64 (k + n)) ∧ (0 < n → RowI w' g 3 n (mkI k n)) ∧ w.grownBy w' (some g) ∧ w'.heap.size = w.heap.size ∧ ∀ g' m, Has w g' m → Has w' g' m
def MarkIRel (g n : Nat) (k : Int) (w : World) (kv i : Value) (wr : World) : Prop :=
  ∃ j : Nat, j ≤ n ∧ i = .int .i64 j ∧ kv = .int .i64 (k + j) ∧ (0 < n → Mkd wr g n j k) ∧ w.grownBy wr (some g) ∧ wr.heap.size = w.heap.size ∧ ∀ g' m, Has w g' m → Has wr g' m

theorem only_put {a w : World} {g : Nat} (h : a.grownBy w (some g)) (j : Nat) (u : Value) : a.grownBy (w.setCell ⟨g, j, none⟩ u) (some g) :=
  ⟨h.os, h.tape, h.output, by simpa [World.setCell] using h.size, fun i hi hne => (Below.heap_setCell w ⟨g, j, none⟩ u i (by
    rintro rfl
    exact hne rfl)).trans (h.block i hi hne)⟩

set_option maxHeartbeats 1000000 in
theorem c_markIntS (A : Option Addr) (g n c : Nat) (k : Int) (w : World) (hn : n ≤ 2000000) (hk0 : 0 ≤ k) (hk1 : k ≤ 1000000000000000) (h : 0 < n → A = some ⟨g, 0, none⟩ ∧ Has w g n) :
    Calls Try.prog 22 #[.slice A n c, .int .i64 k] w (MarkI g n k w) := by
  have HA := Lib.hid (fun h0 => (h h0).1)
  have HB := Lib.hid (show 0 < n → Mkd w g n 0 k from fun h0 => by
    obtain ⟨cs, hb, hs⟩ := (h h0).2
    exact ⟨cs, hb, hs, fun i hi => absurd hi (by omega)⟩)
  clear h
  go_enter Try.func22, Try.ntmps22
  go_wp2
  go_loopw [1, 5] (fun kv i wr => MarkIRel g n k w kv i wr) (fun _ i _ => n - (intOf i).toNat)
  case atStart => exact ⟨0, Nat.zero_le _, rfl, by simp, HB.out, World.grownBy.refl w _, rfl, fun _ _ h => h⟩
  case round =>
    obtain ⟨j, hj, rfl, rfl, hb, hg, hs, hh⟩ := hrel
    have HBJ := Lib.hid hb
    have HG := Lib.hid hg
    have HS := Lib.hid hs
    have HH := Lib.hid hh
    clear hb hg hs hh
    by_cases hlt : j < n
    · have HM := Lib.hid (HBJ.out (by omega))
      obtain ⟨cs, hblk, hsz, _⟩ := HM.out
      obtain rfl := HA.out (by omega)
      obtain ⟨v0, hv0⟩ : ∃ v, wr.cell? ⟨g, j, none⟩ = some v := ⟨cs[j]'(by omega), by rw [hblk.cell, Array.getElem?_eq_getElem]⟩
      have hf0 := hblk.frozen j
      clear hblk hsz HBJ
      go_wp2
      go_roundw
      case rel => exact ⟨j + 1, by omega, by go_num, by go_num, fun _ => HM.out.step hlt rfl, only_put HG.out _ _, by simpa using HS.out, fun g' m h => (HH.out g' m h).set _ _ _⟩
      case measure => simp [intOf]; omega
    · obtain rfl : j = n := by omega
      go_wp2
      go_ret
      exact ⟨rfl, fun h0 => ⟨mkI_len _ _, HBJ.out h0⟩, HG.out, HS.out, HH.out⟩

end Go.Proofs.Ytmcpojnioppgfaa
