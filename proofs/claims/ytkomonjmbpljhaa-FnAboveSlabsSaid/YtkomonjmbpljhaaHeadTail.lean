/-
  A list of pairs, its head and its tail, read at any world on the way. No program in sight.
-/
import Derived.Test.YtkomonjmbpljhaaWords
namespace Go.Proofs.Ytkomonjmbpljhaa
open Go.RowKit
/-- the list, its head and its tail, at any world on the way -/
def FT (w : World) (A2 A1 : Option Addr) (m2 k : Nat) (l : List (Int × Int)) (W : World) : Prop :=
  RdP W A1 k (l.take k) ∧ RdP W A2 m2 (l.drop k) ∧ Below w.heap.size w W
section
variable {w : World} {A2 A1 : Option Addr} {m2 k : Nat} {l : List (Int × Int)} {W : World}
theorem FT.drew (h : FT w A2 A1 m2 k l W) : FT w A2 A1 m2 k l W.drew := ⟨h.1.drew, h.2.1.drew, h.2.2.drew⟩
theorem FT.below {W' : World} (h : FT w A2 A1 m2 k l W) (hb : Below W.heap.size W W') : FT w A2 A1 m2 k l W' := ⟨h.1.below hb, h.2.1.below hb, h.2.2.trans (hb.mono h.2.2.size)⟩
theorem FT.tk (h : FT w A2 A1 m2 k l W) : RdP W A1 k (l.take k) := h.1
theorem FT.ct (h : FT w A2 A1 m2 k l W) : RdP W A2 m2 (l.drop k) := h.2.1
end

end Go.Proofs.Ytkomonjmbpljhaa
