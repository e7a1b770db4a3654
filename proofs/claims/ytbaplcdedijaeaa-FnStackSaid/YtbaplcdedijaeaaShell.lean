/-
  How an argument's reading becomes the words of this seat's contracts: a slice of pairs, a slice of bytes. No function of the program in sight.
-/
import Derived.Test.YtbaplcdedijaeaaWords
import Derived.ProofKit
import Derived.OpenShut
import Derived.ShutString
import Derived.ChangeOld
import Derived.Deep.SlicePairs
namespace Go.Proofs.Ytbaplcdedijaeaa
open Go.ChangeShapes Go.WideShapes Go.ChangeAt Go.RowKit Go.Deep

/-- The slice at A of length n holds bytes. -/
def RdB (w : World) (A : Option Addr) (n : Nat) : Prop :=
  0 < n → ∃ b off, A = some ⟨b, off, none⟩ ∧ b < w.heap.size ∧ ∀ i, i < n → ∃ z : Int, 0 ≤ z ∧ z ≤ 255 ∧ w.cell? ⟨b, off + i, none⟩ = some (.int .u8 z)

section
variable {H : Type} {enc : TypeId × Value → H} {P : Program} {w : World} {base : Nat} {held : Bool}
theorem rdp_of_trod {t e : TypeId} {f0 f1 : Field} {fuel : Nat} {A : Option Addr} {n c : Nat} {x : DataW H × List MemPlace} (ht : P.underlying t = some (.slice e)) (he : P.underlying e = some (.struct #[f0, f1]))
    (ce : P.cellsOf e = 2) (o0 : f0.offset = 0) (o1 : f1.offset = 1) (c0 : P.cellsOf f0.type = 1) (c1 : P.cellsOf f1.type = 1) (u0 : P.underlying f0.type = some (.int .i64)) (u1 : P.underlying f1.type = some (.int .i64))
    (h : DataW.trod enc P w base (fun _ => true) held fuel t [.slice A n c] = some x) : ∃ l, RdP w A n l ∧ n ≤ maxLen := by
  rcases open_slice_pairs ht he ce o0 o1 c0 c1 h with ⟨hcs, _⟩ | ⟨a, len, cap, m, nn, V0, V1, D0, D1, P0, P1, hcs, hb, hl, hm, hmm, hx, hall⟩
  · simp only [List.cons.injEq, Value.slice.injEq] at hcs
    obtain ⟨⟨rfl, rfl, rfl⟩, _⟩ := hcs
    exact ⟨[], RdP.nil _ _, by simp⟩
  · simp only [List.cons.injEq, Value.slice.injEq] at hcs
    obtain ⟨⟨rfl, rfl, rfl⟩, _⟩ := hcs
    simp only [if_true] at hmm
    subst hmm
    refine ⟨(List.range n).map fun i => (intOf (V0 i), intOf (V1 i)), ⟨by simp, fun hn => ?_⟩, Nat.le_trans hl hm⟩
    obtain ⟨b, off, spot⟩ := a
    have hs : spot = none := by simpa [Addr.add] using World.cell?_spot (hall 0 (by omega)).1
    subst hs
    refine ⟨b, off, rfl, World.block_lt_of_cell? w _ (hall 0 (by omega)).1, fun i hi => ?_⟩
    obtain ⟨h0, h1, h2, h3⟩ := hall i (by omega)
    obtain ⟨x0, e0, _, _⟩ := DataW.trod_int u0 h2
    obtain ⟨x1, e1, _, _⟩ := DataW.trod_int u1 h3
    simp only [List.cons.injEq, and_true] at e0 e1
    rw [Addr.add_lit] at h0 h1
    rw [show off + i * 2 + 1 = off + (i * 2 + 1) by omega, h0, h1, px_eq (by simpa using hi), py_eq (by simpa using hi)]
    simp [e0, e1, intOf]

theorem rdb_of_trod {t e : TypeId} {fuel : Nat} {A : Option Addr} {n c : Nat} {x : DataW H × List MemPlace} (ht : P.underlying t = some (.slice e)) (he : P.underlying e = some (.int .u8)) (hc : P.cellsOf e = 1)
    (h : DataW.trod enc P w base (fun _ => true) held fuel t [.slice A n c] = some x) : RdB w A n ∧ n ≤ maxLen ∧ n ≤ c := by
  rcases open_ints ht he hc h with ⟨hcs, _⟩ | ⟨a, len, cap, zs, hcs, _, hl, hm, hz, _, hcell, hwz⟩
  · simp only [List.cons.injEq, Value.slice.injEq] at hcs
    obtain ⟨⟨rfl, rfl, rfl⟩, _⟩ := hcs
    exact ⟨fun h => absurd h (by omega), by simp, by simp⟩
  · simp only [List.cons.injEq, Value.slice.injEq] at hcs
    obtain ⟨⟨rfl, rfl, rfl⟩, _⟩ := hcs
    simp only [if_true] at hz
    refine ⟨fun hn => ?_, Nat.le_trans hl hm, hl⟩
    obtain ⟨b, off, spot⟩ := a
    have hc0 := hcell 0 (by omega)
    have hs : spot = none := by simpa [Addr.add] using World.cell?_spot hc0
    subst hs
    refine ⟨b, off, rfl, World.block_lt_of_cell? w _ hc0, fun i hi => ?_⟩
    have hci := hcell i (by omega)
    rw [Addr.add_lit] at hci
    have hw := hwz (zs.getD i 0) (by simp [show i < zs.length by omega])
    have hbd := bounds_u8 hw
    exact ⟨_, hbd.1, by omega, hci⟩
end
end Go.Proofs.Ytbaplcdedijaeaa
