/-
  Words for the walks of the laws on stacks. No function of the program in sight.
-/
import Derived.Test.YtbaplcdedijaeaaRowsAll
import Derived.Test.YtbaplcdedijaeaaStackLaws
namespace Go.Proofs.Ytbaplcdedijaeaa
open Go.RowKit

theorem short8 {rs : List RV} (h : ∀ r ∈ rs, r.n ≤ 8) : Short rs := fun i hi => by have := h _ (rv_mem hi); omega
theorem OwnR.rdr {w : World} {base : Nat} {t : TypeId} {A : Option Addr} {n c : Nat} {rs : List RV} (h : OwnR w base t (.slice A n c) n rs) : RdR w A n rs := by
  obtain ⟨_, _, hv, _, _, hr, _⟩ := h.form
  injection hv with hv1
  subst hv1
  exact hr
theorem OwnR.cap {w : World} {base : Nat} {t : TypeId} {A : Option Addr} {n c : Nat} {rs : List RV} (h : OwnR w base t (.slice A n c) n rs) : n ≤ c := by
  obtain ⟨_, _, hv, hc, _⟩ := h.form
  injection hv with hv1 hv2 hv3
  subst hv3
  exact hc
theorem cells_of {w : World} {A : Option Addr} {n : Nat} {rs : List RV} (h : RdR w A n rs) : 0 < n → ∃ b off, A = some ⟨b, off, none⟩ ∧ ∀ i, i < n → w.cell? ⟨b, off + i, none⟩ = some (.slice (rv rs i).A (rv rs i).n (rv rs i).c) := fun h0 => by
  obtain ⟨b, off, e, _, hc⟩ := h.at_ h0
  exact ⟨b, off, e, hc⟩
theorem apart_new {w : World} {rs : List RV} (h : RdAll w rs) (hh : Heads rs) : Apart (.slice (some ⟨w.heap.size, 0, none⟩) 0 0) rs := fun r hr h0 => by
  obtain ⟨g, e⟩ := hh r hr h0
  refine ⟨g, e, fun hv => ?_⟩
  obtain ⟨b, off, e2, hlt, _⟩ := (h r hr).1.at_ h0
  rw [e] at e2
  injection e2 with e2
  injection e2 with e3 e4
  have : w.heap.size = g := by simpa [Value.ownBlock] using hv
  omega
theorem own_copyR {w : World} {base n : Nat} {t : TypeId} {v : Value} {rs : List RV} (h : OwnR w base t v (0 + n) ([] ++ rs)) : OwnR w base t v n rs := by simpa using h
theorem old_apart {w4 w5 : World} {A : Option Addr} {n k : Nat} {l : List Int} {t : TypeId} {v : Value} {rs : List RV} (hr : RdI w4 A n l) (hh : 0 < n → ∃ g, A = some ⟨g, 0, none⟩) (hO : OwnR w5 w4.heap.size t v k rs) : 0 < n → ∃ g, A = some ⟨g, 0, none⟩ ∧ (k = 0 → v.ownBlock ≠ some g) := fun h0 => by
  obtain ⟨g, e⟩ := hh h0
  refine ⟨g, e, fun _ hv => ?_⟩
  have := own_base hO.own hv
  obtain ⟨b, off, e2, hlt, _⟩ := hr.at_ h0
  rw [e] at e2
  injection e2 with e2
  injection e2 with e3 e4
  omega
theorem short1 {r : RV} (h : r.n ≤ 2000000) : Short [r] := fun i hi => by
  obtain rfl : i = 0 := by simpa using hi
  exact h
/-- some of the first rows -/
theorem rv_take {rs : List RV} {k i : Nat} (h : i < k) : rv (rs.take k) i = rv rs i := by simp [rv, h]
theorem rv_drop (rs : List RV) (k i : Nat) : rv (rs.drop k) i = rv rs (k + i) := by simp [rv]
theorem RdR.take {w : World} {A : Option Addr} {n : Nat} {rs : List RV} (h : RdR w A n rs) {k : Nat} (hk : k ≤ n) : RdR w A k (rs.take k) :=
  ⟨by simp [h.len, hk], fun h0 => by
    obtain ⟨b, off, e, hlt, hc⟩ := h.at_ (by omega)
    refine ⟨b, off, e, hlt, fun i hi => ?_⟩
    rw [rv_take hi]
    exact hc i (by omega), fun r hr => h.rows r (List.mem_of_mem_take hr)⟩
theorem RdR.cut {w : World} {A : Option Addr} {n : Nat} {rs : List RV} (h : RdR w A n rs) {k c : Nat} (hk : k ≤ n) (hc : n ≤ c) (A' : Option Addr) (hA : A' = if c = k then A else A.map (·.add k)) : RdR w A' (n - k) (rs.drop k) :=
  ⟨by simp [h.len], fun h0 => by
    obtain ⟨b, off, e, hlt, hcl⟩ := h.at_ (by omega)
    rw [hA, if_neg (by omega), e]
    refine ⟨b, off + k, by simp [add_none], hlt, fun i hi => ?_⟩
    rw [rv_drop, show off + k + i = off + (k + i) by omega]
    exact hcl (k + i) (by omega), fun r hr => h.rows r (List.mem_of_mem_drop hr)⟩
theorem vals_take (rs : List RV) (k : Nat) : vals (rs.take k) = (vals rs).take k := by simp [vals]
theorem vals_drop (rs : List RV) (k : Nat) : vals (rs.drop k) = (vals rs).drop k := by simp [vals]
theorem vals_app (l m : List RV) : vals (l ++ m) = vals l ++ vals m := by simp [vals]
theorem Short.sub {l m : List RV} (h : Short m) (hs : ∀ r ∈ l, r ∈ m) : Short l := fun i hi => by
  obtain ⟨j, hj, e⟩ := List.mem_iff_getElem.1 (hs _ (rv_mem hi))
  have := h j hj
  rw [rv_eq hj, e] at this
  exact this
theorem Short.app {l m : List RV} (h : Short l) (h' : Short m) : Short (l ++ m) := fun i hi => by
  rw [rv_eq hi]
  by_cases e : i < l.length
  · rw [List.getElem_append_left e]
    have := h i e
    rwa [rv_eq e] at this
  · rw [List.getElem_append_right (by omega)]
    have := h' (i - l.length) (by simp at hi; omega)
    rwa [rv_eq (by simp at hi; omega)] at this
/-- two rows are left out: all three calls answer -/
theorem two_ok {L : List (List Int)} {i f l : Nat} (h : okW L (i : Int) = true) (h3 : 3 ≤ L.length) (hfl : (i = 0 ∧ f = 1 ∧ l = 0) ∨ (0 < i ∧ f = 0 ∧ l = i - 1)) :
    okW (woV L i) 0 = true ∧ okW L (f : Int) = true ∧ okW (woV L f) (l : Int) = true ∧ woV (woV L i) 0 = woV (woV L f) (l : Int) := by
  obtain ⟨h1, _, h2, _, _⟩ := okW_yes h
  rw [Int.toNat_natCast] at h2
  have hf : okW L (f : Int) = true := okW_mk h1 (by omega) (by omega)
  obtain ⟨s1, s2⟩ := woV_stack h
  obtain ⟨s3, s4⟩ := woV_stack hf
  have h0 : okW (woV L i) ((0 : Nat) : Int) = true := okW_mk s1 (by omega) (by omega)
  have hl : okW (woV L f) (l : Int) = true := okW_mk s3 (by omega) (by omega)
  refine ⟨h0, hf, hl, ?_⟩
  have e1 : woV (woV L i) 0 = (L.eraseIdx i).eraseIdx 0 := by
    rw [show (0 : Int) = ((0 : Nat) : Int) from rfl, woV_yes h0, woV_yes h]; rfl
  rw [e1, woV_yes hl, woV_yes hf, wo_two h2 h3]
  rcases hfl with ⟨rfl, rfl, rfl⟩ | ⟨h4, rfl, rfl⟩
  · rfl
  · rw [if_neg (by omega), if_neg (by omega)]; rfl
end Go.Proofs.Ytbaplcdedijaeaa
