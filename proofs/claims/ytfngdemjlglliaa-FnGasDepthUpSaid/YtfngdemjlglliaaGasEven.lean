/-
  Contracts of GasEven, of the program and of the reference.
-/
import Derived.Test.YtfngdemjlglliaaRepeat
import Derived.Test.YtfngdemjlglliaaGasImpl
import Derived.Test.YtfngdemjlglliaaGasSpec
namespace Go.Proofs.Ytfngdemjlglliaa
open Go.RowKit

theorem OwnP.down {w : World} {base base' n : Nat} {t : TypeId} {v : Value} {l : List (Int × Int)} (h : OwnP w base t v n l) (hb : base' ≤ base) : OwnP w base' t v n l := by
  obtain ⟨⟨h1, h2⟩, hl⟩ := h
  refine ⟨⟨h1, ?_⟩, hl⟩
  rcases h2 with h2 | ⟨g, cap, cur, rfl, hb', hr⟩
  · exact .inl h2
  · exact .inr ⟨g, cap, cur, rfl, by omega, hr⟩
theorem OwnI.rdA {w : World} {base : Nat} {t : TypeId} {A : Option Addr} {n c : Nat} {l : List Int} (h : OwnI w base t (.slice A n c) n l) : RdI w A n l := by
  obtain ⟨_, _, hv, _, _, hrd, _⟩ := h.form
  injection hv with hv1 hv2
  subst hv1
  exact hrd
/-- the lags of GasEven -/
def evG (n : Nat) (x : Int) : Nat → Int := ix (List.replicate n x)
theorem GasPost.up {l : List (Int × Int)} {m : Nat} {g : Nat → Int} {w w2 w' : World} {e : Ending} (h : GasPost l m g w2 e w') (hB : Below w.heap.size w w2) : ∃ A n c, e = .returned (.tuple #[.slice A n c, .bool (okG l m g)]) ∧ n ≤ 12 ∧ OwnP w' w.heap.size 31 (.slice A n c) n (gV l m g) ∧ Below w.heap.size w w' := by
  obtain ⟨A, n, c, he, hn, hO, hb⟩ := h
  exact ⟨A, n, c, he, hn, hO.down hB.size, hB.trans (hb.mono hB.size)⟩
theorem gas_mk {l : List (Int × Int)} {m : Nat} {g : Nat → Int} {w W : World} {A : Option Addr} {n c : Nat} (hn : n ≤ 12) (hO : OwnP W w.heap.size 31 (.slice A n c) n (gV l m g)) (hB : Below w.heap.size w W) : GasPost l m g w (.returned (.tuple #[.slice A n c, .bool (okG l m g)])) W := ⟨A, n, c, rfl, hn, hO, hB⟩
theorem cell_lit1 (w : World) (t : TypeId) (u : Value) : (w.alloc (.cells #[u] t)).cell? ⟨w.heap.size, 0, none⟩ = some u := by
  have hb : Blk (w.alloc (.cells #[u] t)) w.heap.size t #[u] := heap_alloc_new w _
  rw [hb.cell]
  rfl

set_option maxHeartbeats 1000000 in
theorem c_implGasEven (A : Option Addr) (n c : Nat) (l : List (Int × Int)) (x : Int) (w : World) (hn : n ≤ 2000000) (h : RdP w A n l) :
    Calls Try.prog 24 #[.slice A n c, .int .i64 x] w (GasPost l n (evG n x) w) := by
  have HR := Lib.hid h
  clear h
  have hA1 : Below w.heap.size w (w.alloc (.cells #[.int .i64 x] 3)) := (Below.refl _ _).alloc (Nat.le_refl _) _
  go_enter Try.func24, Try.ntmps24
  go_wp2_with fail
  refine (c_Repeat w.heap.size 0 1 x n _ hn (cell_lit1 w 3 (.int .i64 x))).mono ?_
  rintro e w1 ⟨rfl, hR1, hb⟩
  have hL := (show RdI w1 (some ⟨(w.alloc (.cells #[.int .i64 x] 3)).heap.size, 0, none⟩) n (List.replicate n x) from ⟨by simp, fun _ => ⟨_, 0, rfl, Blk.lt hR1, fun i hi => by rw [Nat.zero_add]; exact (hR1.cell (by simpa using hi)).1⟩⟩)
  rw [show (w.alloc (.cells #[.int .i64 x] 3)).heap.size = w.heap.size + 1 by simp] at hL
  have HL := Lib.hid hL
  have hB1 : Below w.heap.size w w1 := hA1.trans (hb.mono (by simp))
  clear hR1 hb hL
  go_wp2_with fail
  refine (c_implGasCurve _ _ _ l _ n _ (List.replicate n x) _ hn hn (HR.out.below hB1) HL.out).mono ?_
  intro e w2 hp
  obtain ⟨A2, n2, c2, rfl, hn2, hO2, hB2⟩ := hp.up hB1
  have HO2 := Lib.hid hO2
  clear hp hO2
  go_wp2
  go_ret2
  exact gas_mk hn2 HO2.out hB2

def EvRel (n : Nat) (x : Int) (w : World) (o i : Value) (wr : World) : Prop :=
  ∃ k : Nat, k ≤ n ∧ i = .int .i64 k ∧ OwnI wr w.heap.size 3 o k (List.replicate k x) ∧ Below w.heap.size w wr
theorem rep_snoc (k : Nat) (x : Int) : List.replicate k x ++ [x] = List.replicate (k + 1) x := by rw [List.replicate_succ']

set_option maxHeartbeats 1000000 in
theorem c_specGasEven (A : Option Addr) (n c : Nat) (l : List (Int × Int)) (x : Int) (w : World) (hn : n ≤ 2000000) (h : RdP w A n l) :
    Calls Try.prog 25 #[.slice A n c, .int .i64 x] w (GasPost l n (evG n x) w) := by
  have HR := Lib.hid h
  clear h
  obtain ⟨j0, hj, hy0, hy1, hy2⟩ := info_parts info_int
  have HJ := Lib.hid hj
  have HY0 := Lib.hid hy0
  have HY1 := Lib.hid hy1
  have HY2 := Lib.hid hy2
  clear hj hy0 hy1 hy2
  go_enter Try.func25, Try.ntmps25
  go_wp2
  go_loopw [6, 7] (fun o i wr => EvRel n x w o i wr) (fun _ i _ => n - (intOf i).toNat)
  case atStart => exact ⟨0, Nat.zero_le _, rfl, OwnI.empty w 3 (Nat.le_refl _), (Below.refl _ _).alloc (Nat.le_refl _) _⟩
  case round =>
    obtain ⟨k, hk, rfl, hO, hB⟩ := hrel
    have HO := Lib.hid hO
    have hsz := hB.size
    clear hO
    by_cases hlt : k < n
    · go_wp2_with (at_builtin; refine wpList_appendI (by rfl) _ _ 46 rfl w.heap.size 3 j0 (.int .i64 0) Try.underlying46 HJ.out HY0.out HY1.out HY2.out rfl _ k (List.replicate k x) rfl (HO.out.alloc _) ⟨wr.heap.size, 0, none⟩ x rfl (cell_1 _ _ _) (by omega) (by simp; omega) ?_; intro v' w5 hO5 hB5)
      rw [rep_snoc] at hO5
      go_roundw
      case rel => exact ⟨k + 1, by omega, by go_num, hO5, (hB.alloc hsz _).trans hB5⟩
      case measure => simp [intOf]; omega
    · obtain rfl : k = n := by omega
      obtain ⟨A3, c3, rfl, _⟩ := HO.out.form
      go_wp2_with fail
      refine (c_specGasCurve _ _ _ l _ k _ (List.replicate k x) _ hn hn (HR.out.below hB) HO.out.rdA).mono ?_
      intro e w2 hp
      obtain ⟨A2, n2, c2, rfl, hn2, hO2, hB2⟩ := hp.up hB
      have HO2 := Lib.hid hO2
      clear hp hO2
      go_wp2
      go_ret2
      exact gas_mk hn2 HO2.out hB2
end Go.Proofs.Ytfngdemjlglliaa
