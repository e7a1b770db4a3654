/-
  How an argument's reading becomes the words of this seat's contracts: slices of integers, slices of such slices. No function of the program in sight.
-/
import Derived.Test.YtbaplcdedijaeaaShell
import Derived.Test.YtbaplcdedijaeaaInts
import Derived.Deep.Slices
namespace Go.Proofs.Ytbaplcdedijaeaa
open Go.ChangeShapes Go.WideShapes Go.ChangeAt Go.RowKit Go.Deep

section
variable {H : Type} {enc : TypeId × Value → H} {P : Program} {w : World} {base : Nat} {held : Bool}
theorem rdi_of_cs {t e : TypeId} {fuel : Nat} {cs : List Value} {x : DataW H × List MemPlace} (ht : P.underlying t = some (.slice e)) (he : P.underlying e = some (.int .i64)) (hc : P.cellsOf e = 1)
    (h : DataW.trod enc P w base (fun _ => true) held fuel t cs = some x) : ∃ (A : Option Addr) (n c : Nat) (l : List Int), cs = [.slice A n c] ∧ RdI w A n l ∧ n ≤ c ∧ n ≤ maxLen := by
  rcases open_ints ht he hc h with ⟨hcs, _⟩ | ⟨a, len, cap, zs, hcs, _, hl, hm, hz, _, hcell, _⟩
  · exact ⟨none, 0, 0, [], hcs, RdI.nil _ _, Nat.le_refl _, Nat.zero_le _⟩
  · simp only [if_true] at hz
    refine ⟨some a, len, cap, zs.take len, hcs, ⟨by simp; omega, fun hn => ?_⟩, hl, Nat.le_trans hl hm⟩
    obtain ⟨b, off, spot⟩ := a
    have hc0 := hcell 0 (by omega)
    have hs : spot = none := by simpa [Addr.add] using World.cell?_spot hc0
    subst hs
    refine ⟨b, off, rfl, World.block_lt_of_cell? w _ hc0, fun i hi => ?_⟩
    have hci := hcell i (by omega)
    rw [Addr.add_lit] at hci
    rw [hci, ix_eq (by simp; omega)]
    simp [show i < zs.length by omega]
theorem rdi_of_trod {t e : TypeId} {fuel : Nat} {A : Option Addr} {n c : Nat} {x : DataW H × List MemPlace} (ht : P.underlying t = some (.slice e)) (he : P.underlying e = some (.int .i64)) (hc : P.cellsOf e = 1)
    (h : DataW.trod enc P w base (fun _ => true) held fuel t [.slice A n c] = some x) : ∃ l, RdI w A n l ∧ n ≤ maxLen := by
  obtain ⟨A', n', c', l, hcs, hr, _, hm⟩ := rdi_of_cs ht he hc h
  simp only [List.cons.injEq, Value.slice.injEq, and_true] at hcs
  obtain ⟨rfl, rfl, rfl⟩ := hcs
  exact ⟨l, hr, hm⟩
theorem rdr_of_trod {t e i : TypeId} {fuel : Nat} {A : Option Addr} {n c : Nat} {x : DataW H × List MemPlace} (ht : P.underlying t = some (.slice e)) (he : P.underlying e = some (.slice i)) (hi : P.underlying i = some (.int .i64)) (ce : P.cellsOf e = 1) (ci : P.cellsOf i = 1)
    (h : DataW.trod enc P w base (fun _ => true) held fuel t [.slice A n c] = some x) : ∃ rs, RdR w A n rs ∧ n ≤ maxLen ∧ ∀ i, i < rs.length → (rv rs i).n ≤ maxLen := by
  rcases open_slice ht h with ⟨hcs, _⟩ | ⟨a, len, cap, m, nn, D, Pl, hcs, _, hl, hm, hmm, _, hall⟩
  · simp only [List.cons.injEq, Value.slice.injEq, and_true] at hcs
    obtain ⟨rfl, rfl, rfl⟩ := hcs
    exact ⟨[], ⟨rfl, fun h => absurd h (by omega), fun r hr => by simp at hr⟩, by simp, fun i hi => by simp at hi⟩
  · simp only [List.cons.injEq, Value.slice.injEq, and_true] at hcs
    obtain ⟨rfl, rfl, rfl⟩ := hcs
    simp only [if_true] at hmm
    subst hmm
    have hrow : ∀ j, j < n → ∃ r : RV, w.cell? (a.add j) = some (.slice r.A r.n r.c) ∧ RdI w r.A r.n r.l ∧ r.n ≤ r.c ∧ r.n ≤ maxLen := by
      intro j hj
      obtain ⟨cs', hc1, hc2⟩ := hall j (by omega)
      rw [ce, Nat.mul_one] at hc1
      obtain ⟨_, hlen, hat⟩ := World.cells?_some hc1
      obtain ⟨A', n', c', l', hcs', hr', hle, hmx⟩ := rdi_of_cs he hi ci hc2
      subst hcs'
      have h0 := hat 0 (by omega)
      refine ⟨⟨A', n', c', l'⟩, ?_, hr', hle, hmx⟩
      simpa [Addr.add] using h0
    refine ⟨(List.range n).map fun j => if hj : j < n then (hrow j hj).choose else ⟨none, 0, 0, []⟩, ⟨by simp, fun hn => ?_, ?_⟩, Nat.le_trans hl hm, fun j hj => ?_⟩
    · obtain ⟨b, off, spot⟩ := a
      have hc0 := (hrow 0 hn).choose_spec.1
      have hs : spot = none := by simpa [Addr.add] using World.cell?_spot hc0
      subst hs
      refine ⟨b, off, rfl, World.block_lt_of_cell? w _ hc0, fun j hj => ?_⟩
      have e : (⟨b, off, none⟩ : Addr).add j = ⟨b, off + j, none⟩ := add_none b off j
      rw [rv_eq (by simpa using hj), ← e]
      simp only [List.getElem_map, List.getElem_range, dif_pos hj]
      exact (hrow j hj).choose_spec.1
    · intro r hr
      simp only [List.mem_map, List.mem_range] at hr
      obtain ⟨j, hj, rfl⟩ := hr
      rw [dif_pos hj]
      exact ⟨(hrow j hj).choose_spec.2.1, (hrow j hj).choose_spec.2.2.1⟩
    · have hj' : j < n := by simpa using hj
      rw [rv_eq hj]
      simp only [List.getElem_map, List.getElem_range, dif_pos hj']
      exact (hrow j hj').choose_spec.2.2.2
end
end Go.Proofs.Ytbaplcdedijaeaa
