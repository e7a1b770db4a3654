/-
  Contracts of the reader that the draws use: l6Open and pick.
-/
import Derived.Test.YthoeefbddkdbjaaRows
import Derived.Test.YthoeefbddkdbjaaWords
import Derived.Test.YthoeefbddkdbjaaShell
import Derived.Handy
import Derived.Deep.QuietTactic
import Derived.BigQuiet
import Derived.Laws.BitsAllLaws
import Derived.Laws.BitsLemmas
namespace Go.Proofs.Ythoeefbddkdbjaa
open Go.RowKit

/-- Block g is a reader: a code of at most 2000 bytes that lies below B, and a place. -/
def Rdr (w : World) (B g p : Nat) : Prop :=
  ∃ (A : Option Addr) (n c : Nat), Blk w g 52 #[.slice A n c, .int .i64 p] ∧ n ≤ 2000 ∧ B ≤ g ∧
    (0 < n → ∃ b off, A = some ⟨b, off, none⟩ ∧ b < B ∧ ∀ i, i < n → ∃ z : Int, 0 ≤ z ∧ z ≤ 255 ∧ w.cell? ⟨b, off + i, none⟩ = some (.int .u8 z))

theorem Rdr.lt {w : World} {B g p : Nat} (h : Rdr w B g p) : g < w.heap.size := by
  obtain ⟨A, n, c, hb, _⟩ := h
  exact hb.lt
theorem Rdr.ge {w : World} {B g p : Nat} (h : Rdr w B g p) : B ≤ g := by
  obtain ⟨A, n, c, hb, _, h1, _⟩ := h
  exact h1
theorem Rdr.of_same {w w' : World} {B g p : Nat} (h : Rdr w B g p) (hs : ∀ k, k < B ∨ k = g → w'.heap[k]? = w.heap[k]?) : Rdr w' B g p := by
  obtain ⟨A, n, c, hg, hn, hB, hr⟩ := h
  refine ⟨A, n, c, (hs g (.inr rfl)).trans hg, hn, hB, fun h0 => ?_⟩
  obtain ⟨b, off, e, hlt, hc⟩ := hr h0
  refine ⟨b, off, e, hlt, fun i hi => ?_⟩
  obtain ⟨z, z0, z1, hz⟩ := hc i hi
  exact ⟨z, z0, z1, (World.cell?_of_block (w := w) (hs b (.inl hlt))).trans hz⟩
theorem Rdr.below {w w' : World} {B g p : Nat} (h : Rdr w B g p) (hb : Below w.heap.size w w') : Rdr w' B g p :=
  h.of_same fun k hk => hb.block k (by have := h.lt; have := h.ge; omega)
theorem Rdr.belowAt {w w' : World} {B base g p : Nat} (h : Rdr w B g p) (hb : Below base w w') (hg : g < base) : Rdr w' B g p :=
  h.of_same fun k hk => hb.block k (by have := h.ge; omega)
theorem Rdr.grown {w w' : World} {B g p r : Nat} (h : Rdr w B g p) (hg : w.grownBy w' (some r)) (h1 : B ≤ r) (h2 : r ≠ g) : Rdr w' B g p :=
  h.of_same fun k hk => hg.block k (by have := h.lt; have := h.ge; omega) (by simp; omega)
theorem Rdr.put {w : World} {B g p : Nat} (h : Rdr w B g p) (q : Nat) : Rdr (w.setCell ⟨g, 1, none⟩ (.int .i64 q)) B g q := by
  obtain ⟨A, n, c, hg, hn, hB, hr⟩ := h
  refine ⟨A, n, c, hg.put _ _, hn, hB, fun h0 => ?_⟩
  obtain ⟨b, off, e, hlt, hc⟩ := hr h0
  refine ⟨b, off, e, hlt, fun i hi => ?_⟩
  obtain ⟨z, z0, z1, hz⟩ := hc i hi
  exact ⟨z, z0, z1, (World.cell?_of_block (w := w) (Below.heap_setCell w ⟨g, 1, none⟩ _ b (by simp; omega))).trans hz⟩
theorem grown_put (w : World) (g : Nat) (u : Value) : w.grownBy (w.setCell ⟨g, 1, none⟩ u) (some g) :=
  ⟨rfl, rfl, rfl, by simp, fun k _ hk => Below.heap_setCell w ⟨g, 1, none⟩ u k (by simpa using hk)⟩

theorem only_drewN {a w : World} {row : Option Nat} (h : a.grownBy w row) (n : Nat) : a.grownBy (w.drewN n) row := ⟨h.os, h.tape, h.output, h.size, h.block⟩
theorem ofInt_i64 (a : Nat) (ha : a < 9223372036854775808) : (BitVec.ofInt 64 (a : Int)).toNat = a := by
  rw [BitVec.ofInt_natCast, BitVec.toNat_ofNat]; exact Nat.mod_eq_of_lt (by omega)
theorem xor_nat (X : Int) (h0 : 0 ≤ X) (h1 : X ≤ 1000000000000) : ∃ Y : Nat, bits .xor .i64 X (X / 64) = (Y : Int) := by
  obtain ⟨a, rfl⟩ : ∃ a : Nat, X = (a : Int) := ⟨X.toNat, by omega⟩
  have hx : a ^^^ (a / 64) < 2 ^ 63 := Nat.xor_lt_two_pow (by omega) (by omega)
  refine ⟨a ^^^ (a / 64), ?_⟩
  show IntKind.i64.wrap ((BitVec.ofInt 64 (a : Int) ^^^ BitVec.ofInt 64 ((a : Int) / 64)).toNat : Int) = _
  rw [show (a : Int) / 64 = ((a / 64 : Nat) : Int) by omega, BitVec.toNat_xor, ofInt_i64 a (by omega), ofInt_i64 (a / 64) (by omega), IntKind.wrap_i64]
  omega

def PickPost (B g p : Nat) (m : Int) (w : World) (e : Ending) (w' : World) : Prop :=
  ∃ x : Int, e = .returned (.int .i64 x) ∧ 0 ≤ x ∧ x < max 1 m ∧ Rdr w' B g (p + 1) ∧ w.grownBy w' (some g) ∧ w'.heap.size = w.heap.size

set_option maxHeartbeats 400000 in
theorem c_pick (B g p : Nat) (m : Int) (w : World) (hp : p ≤ 1000000) (h : Rdr w B g p) :
    Calls Try.prog 39 #[.pointer (some ⟨g, 0, none⟩), .int .i64 m] w (PickPost B g p m w) := by
  have HP := Lib.hid (h.put (p + 1))
  have HG := Lib.hid (grown_put w g (.int .i64 ((p + 1 : Nat) : Int)))
  obtain ⟨A, n, c, hg, hn, hB, hr⟩ := h
  have HR := Lib.hid hr
  have hc0 := hg.cell 0
  have hc1 := hg.cell 1
  have hf1 := hg.frozen 1
  simp at hc0 hc1
  clear hg hr
  by_cases hm : m < 1
  · go_enter Try.func39, Try.ntmps39
    go_wp2
    go_ret
    exact ⟨0, rfl, Int.le_refl _, by omega, HP.out, HG.out, by simp⟩
  · have hm' : decide (m < 1) = false := by simp; omega
    by_cases hn0 : n = 0
    · subst hn0
      go_enter Try.func39, Try.ntmps39
      go_wp2
      go_ret
      exact ⟨0, rfl, Int.le_refl _, by omega, HP.out, HG.out, by simp⟩
    · have hn' : ((n : Int) == 0) = false := by simp; omega
      obtain ⟨b, off, rfl, hb, hc⟩ := HR.out (by omega)
      have hbg : b ≠ g := by omega
      by_cases hk : p < n
      · obtain ⟨z, z0, z1, hz⟩ := hc p hk
        clear hc
        go_enter Try.func39, Try.ntmps39
        go_wp2
        go_ret
        exact ⟨z % m, rfl, Int.emod_nonneg _ (by omega), by have := Int.emod_lt_of_pos z (show 0 < m by omega); omega, HP.out, HG.out, by simp⟩
      · have hk' : decide ((p : Int) < (n : Int)) = false := by simp; omega
        obtain ⟨i1, hi1, hl1⟩ : ∃ i : Nat, (p : Int) % (n : Int) = (i : Int) ∧ i < n := ⟨p % n, rfl, Nat.mod_lt _ (by omega)⟩
        obtain ⟨i2, hi2, hl2⟩ : ∃ i : Nat, ((p : Int) * 7 + 3) % (n : Int) = (i : Int) ∧ i < n := ⟨(p * 7 + 3) % n, by push_cast; rfl, Nat.mod_lt _ (by omega)⟩
        obtain ⟨q, hq, hq0, hq1⟩ : ∃ q : Int, (p : Int) / (n : Int) = q ∧ 0 ≤ q ∧ q ≤ p := ⟨_, rfl, Int.ediv_nonneg (by omega) (by omega), Int.ediv_le_self _ (by omega)⟩
        obtain ⟨y, y0, y1, hy⟩ := hc i1 hl1
        obtain ⟨z, z0, z1, hz⟩ := hc i2 hl2
        clear hc
        go_enter Try.func39, Try.ntmps39
        go_wp2
        go_quiet (fail)
        go_wp2
        obtain ⟨Y, hY⟩ := xor_nat (y * 131 + z * 1117 + (p : Int) * 29 + q * 53) (by omega) (by omega)
        go_ret
        refine ⟨_, rfl, ?_, ?_, ?_, only_drewN HG.out nq, by simp⟩
        · rw [hY]; exact Int.tmod_nonneg _ (by omega)
        · rw [hY]
          have := Int.tmod_lt_of_pos (Y : Int) (show 0 < m by omega)
          omega
        · exact HP.out.of_same fun _ _ => rfl

def OpenPost (w : World) (e : Ending) (w' : World) : Prop :=
  e = .returned (.pointer (some ⟨w.heap.size, 0, none⟩)) ∧ Rdr w' w.heap.size w.heap.size 0 ∧ Below w.heap.size w w' ∧ w'.heap.size = w.heap.size + 1

set_option maxHeartbeats 400000 in
theorem c_l6Open (A : Option Addr) (n c : Nat) (w : World) (h : RdB w A n) (hn : n ≤ 9223372036854775807) (hc : n ≤ c) :
    Calls Try.prog 37 #[.slice A n c] w (OpenPost w) := by
  have HR := Lib.hid h
  clear h
  have mk : ∀ (m c' : Nat), m ≤ 2000 → m ≤ n → OpenPost w (.returned (.pointer (some ⟨w.heap.size, 0, none⟩))) (w.alloc (.cells #[.slice A m c', .int .i64 0] 52)) := fun m c' h1 h2 =>
    ⟨rfl, ⟨A, m, c', heap_alloc_new w _, h1, Nat.le_refl _, fun h0 => by
      obtain ⟨b, off, e, hb, hcl⟩ := HR.out (by omega)
      refine ⟨b, off, e, hb, fun i hi => ?_⟩
      obtain ⟨z, z0, z1, hz⟩ := hcl i (by omega)
      exact ⟨z, z0, z1, (World.cell?_alloc_lt w _ _ hb).trans hz⟩⟩, (Below.refl _ _).alloc (Nat.le_refl _) _, by simp⟩
  have MK := Lib.hid mk
  clear mk
  by_cases h2 : 2000 < n
  · go_enter Try.func37, Try.ntmps37
    go_wp2
    go_ret
    exact MK.out _ _ (Nat.le_refl _) (by omega)
  · go_enter Try.func37, Try.ntmps37
    go_wp2
    go_ret
    exact MK.out _ _ (by omega) (Nat.le_refl _)
end Go.Proofs.Ythoeefbddkdbjaa
