/-
  Contracts of the reader that the draws use: l6Open and pick.
-/
import Derived.Test.YtbaplcdedijaeaaRows
import Derived.Test.YtbaplcdedijaeaaWords
import Derived.Test.YtbaplcdedijaeaaShell
import Derived.Handy
import Derived.Deep.QuietTactic
import Derived.BigQuiet
import Derived.Laws.BitsAllLaws
import Derived.Laws.BitsLemmas
namespace Go.Proofs.Ytbaplcdedijaeaa
open Go.RowKit

/-- Block g is a reader: a code bs of at most 2000 bytes that lies below B, and a place p. -/
def RdrL (w : World) (B g p : Nat) (bs : List Int) : Prop :=
  ∃ (A : Option Addr) (n c : Nat), Blk w g 49 #[.slice A n c, .int .i64 p] ∧ n ≤ 2000 ∧ B ≤ g ∧ bs.length = n ∧
    (0 < n → ∃ b off, A = some ⟨b, off, none⟩ ∧ b < B ∧ ∀ i, i < n → 0 ≤ bs.getD i 0 ∧ bs.getD i 0 ≤ 255 ∧ w.cell? ⟨b, off + i, none⟩ = some (.int .u8 (bs.getD i 0)))
/-- ... whatever its code -/
def Rdr (w : World) (B g p : Nat) : Prop := ∃ bs, RdrL w B g p bs

section
variable {w w' : World} {B g p : Nat} {bs : List Int}
theorem RdrL.lt (h : RdrL w B g p bs) : g < w.heap.size := by
  obtain ⟨A, n, c, hb, _⟩ := h
  exact hb.lt
theorem RdrL.ge (h : RdrL w B g p bs) : B ≤ g := by
  obtain ⟨A, n, c, hb, _, h1, _⟩ := h
  exact h1
theorem RdrL.of_same (h : RdrL w B g p bs) (hs : ∀ k, k < B ∨ k = g → w'.heap[k]? = w.heap[k]?) : RdrL w' B g p bs := by
  obtain ⟨A, n, c, hg, hn, hB, hl, hr⟩ := h
  refine ⟨A, n, c, (hs g (.inr rfl)).trans hg, hn, hB, hl, fun h0 => ?_⟩
  obtain ⟨b, off, e, hlt, hc⟩ := hr h0
  refine ⟨b, off, e, hlt, fun i hi => ?_⟩
  obtain ⟨z0, z1, hz⟩ := hc i hi
  exact ⟨z0, z1, (World.cell?_of_block (w := w) (hs b (.inl hlt))).trans hz⟩
theorem RdrL.below (h : RdrL w B g p bs) (hb : Below w.heap.size w w') : RdrL w' B g p bs :=
  h.of_same fun k hk => hb.block k (by have := h.lt; have := h.ge; omega)
theorem RdrL.belowAt {base : Nat} (h : RdrL w B g p bs) (hb : Below base w w') (hg : g < base) : RdrL w' B g p bs :=
  h.of_same fun k hk => hb.block k (by have := h.ge; omega)
theorem RdrL.drew (h : RdrL w B g p bs) : RdrL w.drew B g p bs := h.of_same fun _ _ => rfl
theorem RdrL.alloc (h : RdrL w B g p bs) (o : Obj) : RdrL (w.alloc o) B g p bs := h.below ((Below.refl _ _).alloc (Nat.le_refl _) _)
theorem RdrL.put (h : RdrL w B g p bs) (q : Nat) : RdrL (w.setCell ⟨g, 1, none⟩ (.int .i64 q)) B g q bs := by
  obtain ⟨A, n, c, hg, hn, hB, hl, hr⟩ := h
  refine ⟨A, n, c, hg.put _ _, hn, hB, hl, fun h0 => ?_⟩
  obtain ⟨b, off, e, hlt, hc⟩ := hr h0
  refine ⟨b, off, e, hlt, fun i hi => ?_⟩
  obtain ⟨z0, z1, hz⟩ := hc i hi
  exact ⟨z0, z1, (World.cell?_of_block (w := w) (Below.heap_setCell w ⟨g, 1, none⟩ _ b (by simp; omega))).trans hz⟩
theorem Rdr.lt (h : Rdr w B g p) : g < w.heap.size := h.elim fun _ h => h.lt
theorem Rdr.ge (h : Rdr w B g p) : B ≤ g := h.elim fun _ h => h.ge
theorem Rdr.of_same (h : Rdr w B g p) (hs : ∀ k, k < B ∨ k = g → w'.heap[k]? = w.heap[k]?) : Rdr w' B g p := h.elim fun bs h => ⟨bs, h.of_same hs⟩
theorem Rdr.below (h : Rdr w B g p) (hb : Below w.heap.size w w') : Rdr w' B g p := h.elim fun bs h => ⟨bs, h.below hb⟩
theorem Rdr.belowAt {base : Nat} (h : Rdr w B g p) (hb : Below base w w') (hg : g < base) : Rdr w' B g p := h.elim fun bs h => ⟨bs, h.belowAt hb hg⟩
theorem Rdr.grown {r : Nat} (h : Rdr w B g p) (hg : w.grownBy w' (some r)) (h1 : B ≤ r) (h2 : r ≠ g) : Rdr w' B g p :=
  h.of_same fun k hk => hg.block k (by have := h.lt; have := h.ge; omega) (by simp; omega)
end
theorem grown_put (w : World) (g : Nat) (u : Value) : w.grownBy (w.setCell ⟨g, 1, none⟩ u) (some g) :=
  ⟨rfl, rfl, rfl, by simp, fun k _ hk => Below.heap_setCell w ⟨g, 1, none⟩ u k (by simpa using hk)⟩

theorem only_drewN {a w : World} {row : Option Nat} (h : a.grownBy w row) (n : Nat) : a.grownBy (w.drewN n) row := ⟨h.os, h.tape, h.output, h.size, h.block⟩
theorem ofInt_i64 (a : Nat) (ha : a < 9223372036854775808) : (BitVec.ofInt 64 (a : Int)).toNat = a := by
  rw [BitVec.ofInt_natCast, BitVec.toNat_ofNat]; exact Nat.mod_eq_of_lt (by omega)
theorem xor_nat (X : Int) (h0 : 0 ≤ X) (h1 : X ≤ 1000000000000) : ∃ Y : Nat, bits .xor .i64 X (X / 64) = (Y : Int) := by
  obtain ⟨a, rfl⟩ : ∃ a : Nat, X = (a : Int) := ⟨X.toNat, by omega⟩
  have hx : a ^^^ (a / 64) < 2 ^ 63 := Nat.xor_lt_two_pow (by omega) (by omega)
  refine ⟨a ^^^ (a / 64), ?_⟩
  show IntKind.i64.wrap ((BitVec.ofInt 64 (a : Int) ^^^ BitVec.ofInt 64 ((a : Int) / 64)).toNat : Int) = _
  rw [show (a : Int) / 64 = ((a / 64 : Nat) : Int) by omega, BitVec.toNat_xor, ofInt_i64 a (by omega), ofInt_i64 (a / 64) (by omega), IntKind.wrap_i64]
  omega

/-- what pick returns -/
def pkX (bs : List Int) (p : Nat) : Int := bs.getD (p % bs.length) 0 * 131 + bs.getD ((p * 7 + 3) % bs.length) 0 * 1117 + (p : Int) * 29 + (p : Int) / (bs.length : Int) * 53
def pkV (bs : List Int) (p : Nat) (m : Int) : Int :=
  if m < 1 ∨ bs.length = 0 then 0 else if p < bs.length then bs.getD p 0 % m else (bits .xor .i64 (pkX bs p) (pkX bs p / 64)).tmod m
theorem RdrL.pk {w : World} {B g p : Nat} {bs : List Int} (h : RdrL w B g p bs) (hp : p ≤ 1000000) (m : Int) : 0 ≤ pkV bs p m ∧ pkV bs p m < max 1 m := by
  obtain ⟨A, n, c, _, hn, _, hl, hr⟩ := h
  unfold pkV
  rw [hl]
  split
  · omega
  · split
    · exact ⟨Int.emod_nonneg _ (by omega), by have := Int.emod_lt_of_pos (bs.getD p 0) (show 0 < m by omega); omega⟩
    · obtain ⟨b, off, _, _, hc⟩ := hr (by omega)
      obtain ⟨y0, y1, _⟩ := hc (p % n) (Nat.mod_lt _ (by omega))
      obtain ⟨z0, z1, _⟩ := hc ((p * 7 + 3) % n) (Nat.mod_lt _ (by omega))
      have q0 : 0 ≤ (p : Int) / (n : Int) := Int.ediv_nonneg (by omega) (by omega)
      have q1 : (p : Int) / (n : Int) ≤ p := Int.ediv_le_self _ (by omega)
      obtain ⟨Y, hY⟩ := xor_nat (pkX bs p) (by unfold pkX; rw [hl]; omega) (by unfold pkX; rw [hl]; omega)
      rw [hY]
      exact ⟨Int.tmod_nonneg _ (by omega), by have := Int.tmod_lt_of_pos (Y : Int) (show 0 < m by omega); omega⟩
def PickL (B g p : Nat) (bs : List Int) (m : Int) (w : World) (e : Ending) (w' : World) : Prop :=
  e = .returned (.int .i64 (pkV bs p m)) ∧ 0 ≤ pkV bs p m ∧ pkV bs p m < max 1 m ∧ RdrL w' B g (p + 1) bs ∧ w.grownBy w' (some g) ∧ w'.heap.size = w.heap.size
theorem pick_mk {B g p : Nat} {bs : List Int} {m x : Int} {w w' : World} (hx : x = pkV bs p m) (h0 : 0 ≤ x) (h1 : x < max 1 m) (hr : RdrL w' B g (p + 1) bs) (hg : w.grownBy w' (some g)) (hs : w'.heap.size = w.heap.size) : PickL B g p bs m w (.returned (.int .i64 x)) w' := by
  subst hx
  exact ⟨rfl, h0, h1, hr, hg, hs⟩

set_option maxHeartbeats 400000 in
theorem c_pickL (B g p : Nat) (bs : List Int) (m : Int) (w : World) (hp : p ≤ 1000000) (h : RdrL w B g p bs) :
    Calls Try.prog 39 #[.pointer (some ⟨g, 0, none⟩), .int .i64 m] w (PickL B g p bs m w) := by
  have HP := Lib.hid (h.put (p + 1))
  have HG := Lib.hid (grown_put w g (.int .i64 ((p + 1 : Nat) : Int)))
  obtain ⟨A, n, c, hg, hn, hB, hl, hr⟩ := h
  have HR := Lib.hid hr
  have HL := Lib.hid hl
  have hc0 := hg.cell 0
  have hc1 := hg.cell 1
  have hf1 := hg.frozen 1
  simp at hc0 hc1
  clear hg hr hl
  by_cases hm : m < 1
  · go_enter Try.func39, Try.ntmps39
    go_wp2
    go_ret
    exact pick_mk (by unfold pkV; rw [if_pos (.inl hm)]) (Int.le_refl _) (by omega) HP.out HG.out (by simp)
  · have hm' : decide (m < 1) = false := by simp; omega
    by_cases hn0 : n = 0
    · subst hn0
      go_enter Try.func39, Try.ntmps39
      go_wp2
      go_ret
      exact pick_mk (by unfold pkV; rw [if_pos (.inr HL.out)]) (Int.le_refl _) (by omega) HP.out HG.out (by simp)
    · have hn' : ((n : Int) == 0) = false := by simp; omega
      obtain ⟨b, off, rfl, hb, hc⟩ := HR.out (by omega)
      have hbg : b ≠ g := by omega
      by_cases hk : p < n
      · obtain ⟨z0, z1, hz⟩ := hc p hk
        clear hc
        have HX := Lib.hid (show bs.getD p 0 % m = pkV bs p m by unfold pkV; rw [HL.out, if_neg (by omega), if_pos hk])
        generalize bs.getD p 0 = z at *
        go_enter Try.func39, Try.ntmps39
        go_wp2
        go_ret
        exact pick_mk HX.out (Int.emod_nonneg _ (by omega)) (by have := Int.emod_lt_of_pos z (show 0 < m by omega); omega) HP.out HG.out (by simp)
      · have hk' : decide ((p : Int) < (n : Int)) = false := by simp; omega
        have HX := Lib.hid (show (bits .xor .i64 (pkX bs p) (pkX bs p / 64)).tmod m = pkV bs p m by unfold pkV; rw [HL.out, if_neg (by omega), if_neg hk])
        have HY := Lib.hid (show pkX bs p = bs.getD (p % n) 0 * 131 + bs.getD ((p * 7 + 3) % n) 0 * 1117 + (p : Int) * 29 + (p : Int) / (n : Int) * 53 by unfold pkX; rw [HL.out])
        obtain ⟨i1, e1, hi1, hl1⟩ : ∃ i : Nat, p % n = i ∧ (p : Int) % (n : Int) = (i : Int) ∧ i < n := ⟨p % n, rfl, rfl, Nat.mod_lt _ (by omega)⟩
        obtain ⟨i2, e2, hi2, hl2⟩ : ∃ i : Nat, (p * 7 + 3) % n = i ∧ ((p : Int) * 7 + 3) % (n : Int) = (i : Int) ∧ i < n := ⟨(p * 7 + 3) % n, rfl, by push_cast; rfl, Nat.mod_lt _ (by omega)⟩
        obtain ⟨q, hq, hq0, hq1⟩ : ∃ q : Int, (p : Int) / (n : Int) = q ∧ 0 ≤ q ∧ q ≤ p := ⟨_, rfl, Int.ediv_nonneg (by omega) (by omega), Int.ediv_le_self _ (by omega)⟩
        rw [e1, e2, hq] at HY
        clear e1 e2
        obtain ⟨y0, y1, hy⟩ := hc i1 hl1
        obtain ⟨z0, z1, hz⟩ := hc i2 hl2
        clear hc
        generalize bs.getD i1 0 = y at *
        generalize bs.getD i2 0 = z at *
        go_enter Try.func39, Try.ntmps39
        go_wp2
        go_quiet (fail)
        go_wp2
        obtain ⟨Y, hY⟩ := xor_nat (y * 131 + z * 1117 + (p : Int) * 29 + q * 53) (by omega) (by omega)
        go_ret
        refine pick_mk (by rw [← HX.out, HY.out]) ?_ ?_ (HP.out.of_same fun _ _ => rfl) (only_drewN HG.out nq) (by simp)
        · rw [hY]; exact Int.tmod_nonneg _ (by omega)
        · rw [hY]
          have := Int.tmod_lt_of_pos (Y : Int) (show 0 < m by omega)
          omega

def PickPost (B g p : Nat) (m : Int) (w : World) (e : Ending) (w' : World) : Prop :=
  ∃ x : Int, e = .returned (.int .i64 x) ∧ 0 ≤ x ∧ x < max 1 m ∧ Rdr w' B g (p + 1) ∧ w.grownBy w' (some g) ∧ w'.heap.size = w.heap.size
theorem c_pick (B g p : Nat) (m : Int) (w : World) (hp : p ≤ 1000000) (h : Rdr w B g p) :
    Calls Try.prog 39 #[.pointer (some ⟨g, 0, none⟩), .int .i64 m] w (PickPost B g p m w) := by
  obtain ⟨bs, h⟩ := h
  exact (c_pickL B g p bs m w hp h).mono fun _ _ ⟨he, h0, h1, h2, h3, h4⟩ => ⟨_, he, h0, h1, ⟨bs, h2⟩, h3, h4⟩

def OpenPost (w : World) (e : Ending) (w' : World) : Prop :=
  e = .returned (.pointer (some ⟨w.heap.size, 0, none⟩)) ∧ Rdr w' w.heap.size w.heap.size 0 ∧ Below w.heap.size w w' ∧ w'.heap.size = w.heap.size + 1

set_option maxHeartbeats 400000 in
theorem c_l6Open (A : Option Addr) (n c : Nat) (w : World) (h : RdB w A n) (hn : n ≤ 9223372036854775807) (hc : n ≤ c) :
    Calls Try.prog 37 #[.slice A n c] w (OpenPost w) := by
  have HR := Lib.hid h
  clear h
  obtain ⟨bs, hbl, hbs⟩ : ∃ bs : List Int, bs.length = n ∧ (0 < n → ∃ b off, A = some ⟨b, off, none⟩ ∧ b < w.heap.size ∧ ∀ i, i < n → 0 ≤ bs.getD i 0 ∧ bs.getD i 0 ≤ 255 ∧ w.cell? ⟨b, off + i, none⟩ = some (.int .u8 (bs.getD i 0))) := by
    by_cases h0 : n = 0
    · exact ⟨[], by simp [h0], fun h => absurd h (by omega)⟩
    · obtain ⟨b, off, e, hb, hcl⟩ := HR.out (by omega)
      refine ⟨(List.range n).map fun i => if hi : i < n then (hcl i hi).choose else 0, by simp, fun _ => ⟨b, off, e, hb, fun i hi => ?_⟩⟩
      have := (hcl i hi).choose_spec
      simp only [List.getD_eq_getElem?_getD, List.getElem?_map, List.getElem?_range hi, Option.map_some, Option.getD_some, dif_pos hi]
      exact this
  have mk : ∀ (m c' : Nat), m ≤ 2000 → m ≤ n → OpenPost w (.returned (.pointer (some ⟨w.heap.size, 0, none⟩))) (w.alloc (.cells #[.slice A m c', .int .i64 0] 49)) := fun m c' h1 h2 =>
    ⟨rfl, ⟨bs.take m, A, m, c', heap_alloc_new w _, h1, Nat.le_refl _, by simp [hbl, h2], fun h0 => by
      obtain ⟨b, off, e, hb, hcl⟩ := hbs (by omega)
      refine ⟨b, off, e, hb, fun i hi => ?_⟩
      obtain ⟨z0, z1, hz⟩ := hcl i (by omega)
      have ht : (bs.take m).getD i 0 = bs.getD i 0 := by simp [hi]
      rw [ht]
      exact ⟨z0, z1, (World.cell?_alloc_lt w _ _ hb).trans hz⟩⟩, (Below.refl _ _).alloc (Nat.le_refl _) _, by simp⟩
  have MK := Lib.hid mk
  clear mk
  by_cases h2 : 2000 < n
  · go_enter Try.func37, Try.ntmps37
    go_wp2
    go_ret
    exact MK.out _ _ (Nat.le_refl _) (by omega)
  · go_enter Try.func37, Try.ntmps37
    go_wp2
    go_ret
    exact MK.out _ _ (by omega) (Nat.le_refl _)
end Go.Proofs.Ytbaplcdedijaeaa
