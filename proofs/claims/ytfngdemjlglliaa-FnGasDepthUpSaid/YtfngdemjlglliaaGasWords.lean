/-
  Words for the contracts of GasCurve. No function of the program in sight.
-/
import Derived.Test.YtfngdemjlglliaaRows
import Derived.Test.YtfngdemjlglliaaCurveMath
import Derived.Test.YtfngdemjlglliaaInts
import Derived.Test.YtfngdemjlglliaaOwn
namespace Go.Proofs.Ytfngdemjlglliaa
open Go.RowKit

theorem info_knot : (Try.prog.info? 31).map (fun i => (i.zero, i.size, i.bytes)) = some (some (.agg #[.int .i64 0, .int .i64 0]), 2, 16) := by kernel_rfl
theorem cell_knot (W : World) (t : TypeId) (x y : Value) : ∀ j u, [x, y][j]? = some u → (W.alloc (.cells #[x, y] t)).cell? ((⟨W.heap.size, 0, none⟩ : Addr).add j) = some u := by
  intro j u hu
  have hb : Blk (W.alloc (.cells #[x, y] t)) W.heap.size t #[x, y] := heap_alloc_new W _
  match j with
  | 0 => rw [add_none, hb.cell]; simpa using hu
  | 1 => rw [add_none, hb.cell]; simpa using hu
  | j + 2 => simp at hu
def GasPost (l : List (Int × Int)) (m : Nat) (g : Nat → Int) (w : World) (e : Ending) (w' : World) : Prop :=
  ∃ A n c, e = .returned (.tuple #[.slice A n c, .bool (okG l m g)]) ∧ n ≤ 12 ∧ OwnP w' w.heap.size 31 (.slice A n c) n (gV l m g) ∧ Below w.heap.size w w'
theorem gas_no {l : List (Int × Int)} {m : Nat} {g : Nat → Int} {w W : World} {A : Option Addr} {c : Nat} (h : okG l m g = false) (hO : OwnP W w.heap.size 31 (.slice A 0 c) 0 []) (hB : Below w.heap.size w W) : GasPost l m g w (.returned (.tuple #[.slice A 0 c, .bool false])) W :=
  ⟨A, 0, c, by rw [h], by omega, by rw [gV_no h]; exact hO, hB⟩
theorem gas_yes {l G : List (Int × Int)} {m k q : Nat} {g : Nat → Int} {w W : World} {A : Option Addr} {c : Nat} (h : okG l m g = true) (hk : l.length = k) (hG : gasP l g k = G) (hq : G.length = q) (hO : OwnP W w.heap.size 31 (.slice A q c) q G) (hB : Below w.heap.size w W) : GasPost l m g w (.returned (.tuple #[.slice A q c, .bool true])) W := by
  subst hk
  have e : gV l m g = G := by rw [gV_yes h, hG]
  have := gV_len (l := l) (m := m) (g := g)
  rw [e, hq] at this
  exact ⟨A, q, c, by rw [h], this, by rw [e]; exact hO, hB⟩
def GasRel (l : List (Int × Int)) (g : Nat → Int) (w : World) (o i : Value) (wr : World) : Prop :=
  ∃ k : Nat, k ≤ l.length ∧ i = .int .i64 k ∧ OwnP wr w.heap.size 31 o (gasP l g k).length (gasP l g k) ∧ lagAll g k = true ∧ Below w.heap.size w wr
theorem gas_rel {l G : List (Int × Int)} {g : Nat → Int} {k q : Nat} {w W : World} {o i : Value} (hk : k ≤ l.length) (hi : i = .int .i64 k) (hG : gasP l g k = G) (hq : G.length = q) (hO : OwnP W w.heap.size 31 o q G) (hl : lagAll g k = true) (hB : Below w.heap.size w W) : GasRel l g w o i W := by
  subst hG
  subst hq
  exact ⟨k, hk, hi, hO, hl, hB⟩
end Go.Proofs.Ytfngdemjlglliaa
