/-
  Contracts of markKnotS and heldKnotS: numbers are written into a row of pairs, and read again.
-/
import Derived.Test.YtmcpojnioppgfaaRows
import Derived.Test.YtmcpojnioppgfaaOwn
import Derived.Test.YtmcpojnioppgfaaRowPut
import Derived.Handy
namespace Go.Proofs.Ytmcpojnioppgfaa
open Go.RowKit

def MarkPost (g n : Nat) (k : Int) (w : World) (e : Ending) (w' : World) : Prop :=
  e = .returned (.int .i64 (k + 2 * n)) ∧ (0 < n → RowP w' g 31 n (mkL k n)) ∧ w.grownBy w' (some g) ∧ w'.heap.size = w.heap.size
def MarkRel (g n : Nat) (k : Int) (w : World) (kv i : Value) (wr : World) : Prop :=
  ∃ j : Nat, j ≤ n ∧ i = .int .i64 j ∧ kv = .int .i64 (k + 2 * j) ∧ (0 < n → ∃ cs, Blk wr g 31 cs ∧ n * 2 ≤ cs.size ∧ ∀ i, i < j → cs[i * 2]? = some (.int .i64 (px (mkL k n) i)) ∧ cs[i * 2 + 1]? = some (.int .i64 (py (mkL k n) i))) ∧ w.grownBy wr (some g) ∧ wr.heap.size = w.heap.size

set_option maxHeartbeats 1000000 in
theorem c_markKnotS (A : Option Addr) (g n c : Nat) (l0 : List (Int × Int)) (k : Int) (w : World) (hn : n ≤ 2000000) (hk0 : 0 ≤ k) (hk1 : k ≤ 1000000) (h : 0 < n → A = some ⟨g, 0, none⟩ ∧ RowP w g 31 n l0) :
    Calls Try.prog 21 #[.slice A n c, .int .i64 k] w (MarkPost g n k w) := by
  have HA := Lib.hid (fun h0 => (h h0).1)
  have HB := Lib.hid (show 0 < n → ∃ cs, Blk w g 31 cs ∧ n * 2 ≤ cs.size ∧ ∀ i, i < 0 → cs[i * 2]? = some (.int .i64 (px (mkL k n) i)) ∧ cs[i * 2 + 1]? = some (.int .i64 (py (mkL k n) i)) from fun h0 => by
    obtain ⟨_, cs, hb, hs, _⟩ := (h h0).2
    exact ⟨cs, hb, hs, fun i hi => absurd hi (by omega)⟩)
  clear h
  go_enter Try.func21, Try.ntmps21
  go_wp2
  go_loopw [1, 5] (fun kv i wr => MarkRel g n k w kv i wr) (fun _ i _ => n - (intOf i).toNat)
  case atStart => exact ⟨0, Nat.zero_le _, rfl, by simp, HB.out, World.grownBy.refl w _, rfl⟩
  case round =>
    obtain ⟨j, hj, rfl, rfl, hb, hg, hs⟩ := hrel
    have HBJ := Lib.hid hb
    have HG := Lib.hid hg
    have HS := Lib.hid hs
    clear hb hg hs
    by_cases hlt : j < n
    · obtain ⟨cs, hblk, hsz, hcs⟩ := HBJ.out (by omega)
      obtain rfl := HA.out (by omega)
      obtain ⟨v0, hv0⟩ : ∃ v, wr.cell? ⟨g, j * 2, none⟩ = some v := ⟨cs[j * 2]'(by omega), by rw [hblk.cell, Array.getElem?_eq_getElem]⟩
      obtain ⟨v1, hv1⟩ : ∃ v, wr.cell? ⟨g, j * 2 + 1, none⟩ = some v := ⟨cs[j * 2 + 1]'(by omega), by rw [hblk.cell, Array.getElem?_eq_getElem]⟩
      have hf0 := hblk.frozen (j * 2)
      have hf1 := hblk.frozen (j * 2 + 1)
      have hrp := row_put2 hblk hsz hlt hcs
      rw [mkL_px hlt, mkL_py hlt] at hrp
      have HP := Lib.hid hrp
      clear hblk hsz hcs hrp HBJ
      go_wp2
      go_roundw
      case rel => exact ⟨j + 1, by omega, by go_num, by go_num, fun _ => HP.out, only_setCell (only_setCell HG.out (.inl rfl) _) (.inl rfl) _, by simpa using HS.out⟩
      case measure => simp [intOf]; omega
    · obtain rfl : j = n := by omega
      go_wp2
      go_ret
      exact ⟨rfl, fun h0 => ⟨mkL_len _ _, HBJ.out h0⟩, HG.out, HS.out⟩

set_option maxHeartbeats 1000000 in
theorem c_heldKnotS (A : Option Addr) (n c : Nat) (k : Int) (w : World) (hn : n ≤ 2000000) (hk0 : 0 ≤ k) (hk1 : k ≤ 1000000) (h : RdP w A n (mkL k n)) :
    Calls Try.prog 23 #[.slice A n c, .int .i64 k] w fun e w' => e = .returned (.int .i64 (k + 2 * n)) ∧ w = w' := by
  have HA := Lib.hid h.at_
  clear h
  go_enter Try.func23, Try.ntmps23
  go_wp2
  go_loop [1, 5] (fun kv i => ∃ j : Nat, j ≤ n ∧ i = .int .i64 j ∧ kv = .int .i64 (k + 2 * j)) (fun _ i => n - (intOf i).toNat)
  case atStart => exact ⟨0, Nat.zero_le _, rfl, by simp⟩
  case round =>
    obtain ⟨j, hj, rfl, rfl⟩ := hrel
    by_cases hlt : j < n
    · obtain ⟨b, off, rfl, hb, hc⟩ := HA.out (by omega)
      obtain ⟨hc0, hc1⟩ := hc j hlt
      rw [mkL_px hlt] at hc0
      rw [mkL_py hlt] at hc1
      clear hc
      have e1 : (k + 2 * (j : Int) != k + 2 * (j : Int)) = false := by simp
      have e2 : (k + 2 * (j : Int) + 1 != k + 2 * (j : Int) + 1) = false := by simp
      go_wp2
      go_round
      case rel => exact ⟨j + 1, by omega, by go_num, by go_num⟩
      case measure => simp [intOf]; omega
    · obtain rfl : j = n := by omega
      go_wp2
      go_ret
      exact ⟨rfl, rfl⟩
end Go.Proofs.Ytmcpojnioppgfaa
