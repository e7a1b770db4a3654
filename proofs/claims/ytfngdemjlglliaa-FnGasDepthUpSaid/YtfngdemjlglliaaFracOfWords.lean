/-
  Words for the contracts of FracOf.
-/
import Derived.Test.YtfngdemjlglliaaFracCore
namespace Go.Proofs.Ytfngdemjlglliaa
open Go.RowKit

theorem fdiv_pos {a b : Int} (hb : 0 < b) : a.tdiv (Int.gcd a b) = fN a b ∧ a / (Int.gcd a b : Int) = fN a b ∧ b.tdiv (Int.gcd a b) = fD a b ∧ b / (Int.gcd a b : Int) = fD a b := by
  have e1 : a.tdiv (Int.gcd a b) = a / (Int.gcd a b : Int) := Int.tdiv_eq_ediv_of_dvd (Int.gcd_dvd_left ..)
  have e2 : b.tdiv (Int.gcd a b) = b / (Int.gcd a b : Int) := Int.tdiv_eq_ediv_of_dvd (Int.gcd_dvd_right ..)
  rw [e1, e2]
  unfold fN fD
  rw [if_neg (by omega), if_neg (by omega)]
  exact ⟨rfl, rfl, rfl, rfl⟩
theorem fdiv_neg {a b : Int} (hb : b < 0) : a.tdiv (-(Int.gcd a b : Int)) = fN a b ∧ b.tdiv (-(Int.gcd a b : Int)) = fD a b ∧ a / (-(Int.gcd a b : Int)) = fN a b ∧ b / (-(Int.gcd a b : Int)) = fD a b ∧
    (-a).tdiv (Int.gcd a b) = fN a b ∧ (-a) / (Int.gcd a b : Int) = fN a b ∧ (-b).tdiv (Int.gcd a b) = fD a b ∧ (-b) / (Int.gcd a b : Int) = fD a b := by
  have d1 : (Int.gcd a b : Int) ∣ a := Int.gcd_dvd_left ..
  have d2 : (Int.gcd a b : Int) ∣ b := Int.gcd_dvd_right ..
  have hg := gcd_pos' (a := a) (b := b) (by omega)
  have e1 : (-a).tdiv (Int.gcd a b) = (-a) / (Int.gcd a b : Int) := Int.tdiv_eq_ediv_of_dvd (Int.dvd_neg.2 d1)
  have e2 : (-b).tdiv (Int.gcd a b) = (-b) / (Int.gcd a b : Int) := Int.tdiv_eq_ediv_of_dvd (Int.dvd_neg.2 d2)
  have e3 : a.tdiv (-(Int.gcd a b : Int)) = a / (-(Int.gcd a b : Int)) := Int.tdiv_eq_ediv_of_dvd (Int.neg_dvd.2 d1)
  have e4 : b.tdiv (-(Int.gcd a b : Int)) = b / (-(Int.gcd a b : Int)) := Int.tdiv_eq_ediv_of_dvd (Int.neg_dvd.2 d2)
  have f1 : a / (-(Int.gcd a b : Int)) = (-a) / (Int.gcd a b : Int) := by rw [Int.ediv_neg, Int.neg_ediv_of_dvd d1]
  have f2 : b / (-(Int.gcd a b : Int)) = (-b) / (Int.gcd a b : Int) := by rw [Int.ediv_neg, Int.neg_ediv_of_dvd d2]
  rw [e1, e2, e3, e4, f1, f2]
  unfold fN fD
  rw [if_pos hb, if_pos hb]
  exact ⟨rfl, rfl, rfl, rfl, rfl, rfl, rfl, rfl⟩
theorem okF_no {a b : Int} (h : b = 0 ∨ a < -4000000000000000000 ∨ 4000000000000000000 < a ∨ b < -4000000000000000000 ∨ 4000000000000000000 < b) : okF a b = false ∧ nF a b = 0 ∧ dF a b = 0 := by
  have : okF a b = false := by
    rcases Bool.eq_false_or_eq_true (okF a b) with h' | h'
    · have := okF_yes h'
      omega
    · exact h'
  simp [nF, dF, this]
theorem okF_in {a b : Int} (hb : b ≠ 0) (h0 : -4000000000000000000 ≤ a) (h1 : a ≤ 4000000000000000000) (h2 : -4000000000000000000 ≤ b) (h3 : b ≤ 4000000000000000000) : okF a b = vF (fN a b) (fD a b) := okF_iff hb (lim_mk h0 h1) (lim_mk h2 h3)

theorem alloc2 {w w2 : World} {a b : Value} {t : TypeId} (hb : Below (w.alloc (.cells #[a, b] t)).heap.size (w.alloc (.cells #[a, b] t)) w2) :
    w2.cell? ⟨w.heap.size, 0, none⟩ = some a ∧ w2.cell? ⟨w.heap.size, 1, none⟩ = some b := by
  have hB : Blk (w.alloc (.cells #[a, b] t)) w.heap.size t #[a, b] := by
    show (w.heap.push _)[w.heap.size]? = _
    simp
  have := hB.below hb hB.lt
  rw [this.cell, this.cell]
  exact ⟨rfl, rfl⟩
theorem blk_new (w : World) (t : TypeId) (cs : Array Value) : Blk (w.alloc (.cells cs t)) w.heap.size t cs := heap_alloc_new w _
theorem blk_new1 (w : World) (o : Obj) (t : TypeId) (cs : Array Value) : Blk ((w.alloc o).alloc (.cells cs t)) (w.heap.size + 1) t cs := by
  have h := blk_new (w.alloc o) t cs
  have e : (w.alloc o).heap.size = w.heap.size + 1 := by simp
  rwa [e] at h
theorem Blk.drew {w : World} {g : Nat} {t : TypeId} {cs : Array Value} (h : Blk w g t cs) : Blk w.drew g t cs := h
theorem Blk.alloc {w : World} {g : Nat} {t : TypeId} {cs : Array Value} (h : Blk w g t cs) (o : Obj) : Blk (w.alloc o) g t cs := (Below.heap_alloc w o g h.lt).trans h
theorem Blk.two {w : World} {g : Nat} {t : TypeId} {a b : Value} (h : Blk w g t #[a, b]) : w.cell? ⟨g, 0, none⟩ = some a ∧ w.cell? ⟨g, 1, none⟩ = some b ∧ w.frozen? ⟨g, 0, none⟩ = false ∧ w.frozen? ⟨g, 1, none⟩ = false := by
  rw [h.cell, h.cell]
  exact ⟨rfl, rfl, h.frozen _, h.frozen _⟩
theorem div_abs (x g : Int) (hg : 1 ≤ g) : -(max x (-x)) ≤ x / g ∧ x / g ≤ max x (-x) := by
  have h1 := Int.mul_ediv_add_emod x g
  have h2 := Int.emod_nonneg x (show g ≠ 0 by omega)
  have h3 := Int.emod_lt_of_pos x (show 0 < g by omega)
  rcases Int.le_total 0 x with h | h
  · have a := Int.ediv_nonneg h (show 0 ≤ g by omega)
    have b := Int.ediv_le_self g h
    omega
  · generalize x / g = q at *
    have hq : q ≤ 0 := by
      rcases Int.lt_or_le 0 q with c | c
      · have := Int.mul_pos (show 0 < g by omega) c; omega
      · exact c
    by_cases hq0 : q = 0
    · subst hq0; omega
    · have := Int.mul_nonneg_of_nonpos_of_nonpos (show q + 1 ≤ 0 by omega) (show 1 - g ≤ 0 by omega)
      have e : (q + 1) * (1 - g) = q + 1 - g * q - g := by rw [Int.add_mul, Int.mul_sub, Int.one_mul, Int.mul_one, Int.mul_comm q g]; omega
      omega
theorem fN_bd {a b : Int} (hb : b ≠ 0) (h0 : -4000000000000000000 ≤ a) (h1 : a ≤ 4000000000000000000) (h2 : -4000000000000000000 ≤ b) (h3 : b ≤ 4000000000000000000) : -4000000000000000000 ≤ fN a b ∧ fN a b ≤ 4000000000000000000 ∧ -4000000000000000000 ≤ fD a b ∧ fD a b ≤ 4000000000000000000 := by
  have hg := gcd_pos' (a := a) hb
  have d1 := div_abs a (Int.gcd a b) (by omega)
  have d2 := div_abs b (Int.gcd a b) (by omega)
  have d3 := div_abs (-a) (Int.gcd a b) (by omega)
  have d4 := div_abs (-b) (Int.gcd a b) (by omega)
  unfold fN fD
  split <;> omega
/-- what FracOf returns -/
def OfPost (a b : Int) (w : World) (e : Ending) (w' : World) : Prop :=
  e = .returned (.tuple #[.agg #[.int .i64 (nF a b), .int .i64 (dF a b)], .bool (okF a b)]) ∧ Below w.heap.size w w'
theorem of_no {a b : Int} {w W : World} (h : okF a b = false) (hB : Below w.heap.size w W) : OfPost a b w (.returned (.tuple #[.agg #[.int .i64 0, .int .i64 0], .bool false])) W :=
  ⟨by simp [nF, dF, h], hB⟩
theorem of_yes {a b : Int} {w W : World} (h : okF a b = true) (hB : Below w.heap.size w W) : OfPost a b w (.returned (.tuple #[.agg #[.int .i64 (fN a b), .int .i64 (fD a b)], .bool true])) W :=
  ⟨by simp [nF, dF, h], hB⟩

end Go.Proofs.Ytfngdemjlglliaa
