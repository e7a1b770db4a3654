/-
  No cell of these rows narrows 'for every input' (looked for: loops, veiled, ifaces, maps, wideKeys, modest, calm, conditions, laid).
  DERIVED. THE GIVEN ROWS OF THIS SEAT. 12 by the template 'for every input the law returns true; each argument reads behind the call as it read before'; 0 by the template 'total and deterministic' (their statements: YtkomonjmbpljhaaTotals.lean).
  GIVEN WITH THE SEED: the statements are not yours to turn. If you find one false, say at which input.
  Laid BY PROGRAM, IN A SANDBOX (cutbox-rows.mjs): the forced cells as the released guide's own fill.sh prints them over the translation 99c4e1549d98d45d… (all of the seat's roots in one cut). By AI agents, Wed Nov 11 2026. No macro, syntax, notation, axiom, sorry.
-/
import Derived.Test.YtkomonjmbpljhaaChecked
import GoSem.Claim
import GoSem.ClaimJoined
import GoSem.ClaimMapViews
import Derived.JoinedTies
import Derived.KernelRfl
namespace Go.Proofs.Ytkomonjmbpljhaa
/- THE CELL 'sum', in the pinned program and in every row, IS THE sha256 OF THE DUMP (.gsa) THAT YtkomonjmbpljhaaProg.lean LOADS. Nothing in Lean hashes anything: it is a label: what it is worth is what the hold of that sum in a sandbox is worth. -/
noncomputable def Try.pinned : Pinned := { name := "ytkomonjmbpljhaa", sum := "99c4e1549d98d45d967d03dec6b443074ba4da73c925165decfc250c72efe57b", checked := Try.checked }
namespace Rows
def none {H : Type} : Left H := { results := [], args := [] }

/-- 'laws.FnSettle': WHATEVER THE INPUT: true; the input reads as it did. -/
def fnSettleSpec : ChangeSpec := { name := "fnSettle", fn := fun _ => fun
  | [d] => { results := [.lit (.bool true)], args := [d] }
  | _ => none }
def fnSettleRow : OpenClaim := { program := "ytkomonjmbpljhaa", sum := "99c4e1549d98d45d967d03dec6b443074ba4da73c925165decfc250c72efe57b", func := "loop.example/icecores/laws.FnSettle", spec := "fnSettle", apart := false }
def FnSettleSaid : Prop := fnSettleRow.holds Try.pinned (OpenSpec.ofChange fnSettleSpec)

/-- ITS FALSE NEIGHBOUR: 'it returns false'. Refute it at one input. -/
def fnSettleWrong : ChangeSpec := { name := "fnSettle", fn := fun _ => fun
  | [d] => { results := [.lit (.bool false)], args := [d] }
  | _ => none }
def FnSettleWrongFalsely : Prop := fnSettleRow.holds Try.pinned (OpenSpec.ofChange fnSettleWrong)

/-- 'laws.FnSettleMass': WHATEVER THE INPUT: true; the input reads as it did. -/
def fnSettleMassSpec : ChangeSpec := { name := "fnSettleMass", fn := fun _ => fun
  | [d] => { results := [.lit (.bool true)], args := [d] }
  | _ => none }
def fnSettleMassRow : OpenClaim := { program := "ytkomonjmbpljhaa", sum := "99c4e1549d98d45d967d03dec6b443074ba4da73c925165decfc250c72efe57b", func := "loop.example/icecores/laws.FnSettleMass", spec := "fnSettleMass", apart := false }
def FnSettleMassSaid : Prop := fnSettleMassRow.holds Try.pinned (OpenSpec.ofChange fnSettleMassSpec)

/-- ITS FALSE NEIGHBOUR: 'it returns false'. Refute it at one input. -/
def fnSettleMassWrong : ChangeSpec := { name := "fnSettleMass", fn := fun _ => fun
  | [d] => { results := [.lit (.bool false)], args := [d] }
  | _ => none }
def FnSettleMassWrongFalsely : Prop := fnSettleMassRow.holds Try.pinned (OpenSpec.ofChange fnSettleMassWrong)

/-- 'laws.FnSettleMore': WHATEVER THE INPUT: true; the input reads as it did. -/
def fnSettleMoreSpec : ChangeSpec := { name := "fnSettleMore", fn := fun _ => fun
  | [d] => { results := [.lit (.bool true)], args := [d] }
  | _ => none }
def fnSettleMoreRow : OpenClaim := { program := "ytkomonjmbpljhaa", sum := "99c4e1549d98d45d967d03dec6b443074ba4da73c925165decfc250c72efe57b", func := "loop.example/icecores/laws.FnSettleMore", spec := "fnSettleMore", apart := false }
def FnSettleMoreSaid : Prop := fnSettleMoreRow.holds Try.pinned (OpenSpec.ofChange fnSettleMoreSpec)

/-- ITS FALSE NEIGHBOUR: 'it returns false'. Refute it at one input. -/
def fnSettleMoreWrong : ChangeSpec := { name := "fnSettleMore", fn := fun _ => fun
  | [d] => { results := [.lit (.bool false)], args := [d] }
  | _ => none }
def FnSettleMoreWrongFalsely : Prop := fnSettleMoreRow.holds Try.pinned (OpenSpec.ofChange fnSettleMoreWrong)

/-- 'laws.FnExactFirnSettle': WHATEVER THE INPUT: true; the input reads as it did. -/
def fnExactFirnSettleSpec : ChangeSpec := { name := "fnExactFirnSettle", fn := fun _ => fun
  | [d1, d2] => { results := [.lit (.bool true)], args := [d1, d2] }
  | _ => none }
def fnExactFirnSettleRow : OpenClaim := { program := "ytkomonjmbpljhaa", sum := "99c4e1549d98d45d967d03dec6b443074ba4da73c925165decfc250c72efe57b", func := "loop.example/icecores/laws.FnExactFirnSettle", spec := "fnExactFirnSettle", apart := false }
def FnExactFirnSettleSaid : Prop := fnExactFirnSettleRow.holds Try.pinned (OpenSpec.ofChange fnExactFirnSettleSpec)

/-- ITS FALSE NEIGHBOUR: 'it returns false'. Refute it at one input. -/
def fnExactFirnSettleWrong : ChangeSpec := { name := "fnExactFirnSettle", fn := fun _ => fun
  | [d1, d2] => { results := [.lit (.bool false)], args := [d1, d2] }
  | _ => none }
def FnExactFirnSettleWrongFalsely : Prop := fnExactFirnSettleRow.holds Try.pinned (OpenSpec.ofChange fnExactFirnSettleWrong)

/-- 'laws.FnAboveAdd': WHATEVER THE INPUT: true; the input reads as it did. -/
def fnAboveAddSpec : ChangeSpec := { name := "fnAboveAdd", fn := fun _ => fun
  | [d] => { results := [.lit (.bool true)], args := [d] }
  | _ => none }
def fnAboveAddRow : OpenClaim := { program := "ytkomonjmbpljhaa", sum := "99c4e1549d98d45d967d03dec6b443074ba4da73c925165decfc250c72efe57b", func := "loop.example/icecores/laws.FnAboveAdd", spec := "fnAboveAdd", apart := false }
def FnAboveAddSaid : Prop := fnAboveAddRow.holds Try.pinned (OpenSpec.ofChange fnAboveAddSpec)

/-- ITS FALSE NEIGHBOUR: 'it returns false'. Refute it at one input. -/
def fnAboveAddWrong : ChangeSpec := { name := "fnAboveAdd", fn := fun _ => fun
  | [d] => { results := [.lit (.bool false)], args := [d] }
  | _ => none }
def FnAboveAddWrongFalsely : Prop := fnAboveAddRow.holds Try.pinned (OpenSpec.ofChange fnAboveAddWrong)

/-- 'laws.FnSettleSolid': WHATEVER THE INPUT: true; the input reads as it did. -/
def fnSettleSolidSpec : ChangeSpec := { name := "fnSettleSolid", fn := fun _ => fun
  | [d] => { results := [.lit (.bool true)], args := [d] }
  | _ => none }
def fnSettleSolidRow : OpenClaim := { program := "ytkomonjmbpljhaa", sum := "99c4e1549d98d45d967d03dec6b443074ba4da73c925165decfc250c72efe57b", func := "loop.example/icecores/laws.FnSettleSolid", spec := "fnSettleSolid", apart := false }
def FnSettleSolidSaid : Prop := fnSettleSolidRow.holds Try.pinned (OpenSpec.ofChange fnSettleSolidSpec)

/-- ITS FALSE NEIGHBOUR: 'it returns false'. Refute it at one input. -/
def fnSettleSolidWrong : ChangeSpec := { name := "fnSettleSolid", fn := fun _ => fun
  | [d] => { results := [.lit (.bool false)], args := [d] }
  | _ => none }
def FnSettleSolidWrongFalsely : Prop := fnSettleSolidRow.holds Try.pinned (OpenSpec.ofChange fnSettleSolidWrong)

/-- 'laws.FnSettleThick': WHATEVER THE INPUT: true; the input reads as it did. -/
def fnSettleThickSpec : ChangeSpec := { name := "fnSettleThick", fn := fun _ => fun
  | [d] => { results := [.lit (.bool true)], args := [d] }
  | _ => none }
def fnSettleThickRow : OpenClaim := { program := "ytkomonjmbpljhaa", sum := "99c4e1549d98d45d967d03dec6b443074ba4da73c925165decfc250c72efe57b", func := "loop.example/icecores/laws.FnSettleThick", spec := "fnSettleThick", apart := false }
def FnSettleThickSaid : Prop := fnSettleThickRow.holds Try.pinned (OpenSpec.ofChange fnSettleThickSpec)

/-- ITS FALSE NEIGHBOUR: 'it returns false'. Refute it at one input. -/
def fnSettleThickWrong : ChangeSpec := { name := "fnSettleThick", fn := fun _ => fun
  | [d] => { results := [.lit (.bool false)], args := [d] }
  | _ => none }
def FnSettleThickWrongFalsely : Prop := fnSettleThickRow.holds Try.pinned (OpenSpec.ofChange fnSettleThickWrong)

/-- 'laws.FnAbove': WHATEVER THE INPUT: true; the input reads as it did. -/
def fnAboveSpec : ChangeSpec := { name := "fnAbove", fn := fun _ => fun
  | [d] => { results := [.lit (.bool true)], args := [d] }
  | _ => none }
def fnAboveRow : OpenClaim := { program := "ytkomonjmbpljhaa", sum := "99c4e1549d98d45d967d03dec6b443074ba4da73c925165decfc250c72efe57b", func := "loop.example/icecores/laws.FnAbove", spec := "fnAbove", apart := false }
def FnAboveSaid : Prop := fnAboveRow.holds Try.pinned (OpenSpec.ofChange fnAboveSpec)

/-- ITS FALSE NEIGHBOUR: 'it returns false'. Refute it at one input. -/
def fnAboveWrong : ChangeSpec := { name := "fnAbove", fn := fun _ => fun
  | [d] => { results := [.lit (.bool false)], args := [d] }
  | _ => none }
def FnAboveWrongFalsely : Prop := fnAboveRow.holds Try.pinned (OpenSpec.ofChange fnAboveWrong)

/-- 'laws.FnAboveSlabs': WHATEVER THE INPUT: true; the input reads as it did. -/
def fnAboveSlabsSpec : ChangeSpec := { name := "fnAboveSlabs", fn := fun _ => fun
  | [d1, d2] => { results := [.lit (.bool true)], args := [d1, d2] }
  | _ => none }
def fnAboveSlabsRow : OpenClaim := { program := "ytkomonjmbpljhaa", sum := "99c4e1549d98d45d967d03dec6b443074ba4da73c925165decfc250c72efe57b", func := "loop.example/icecores/laws.FnAboveSlabs", spec := "fnAboveSlabs", apart := false }
def FnAboveSlabsSaid : Prop := fnAboveSlabsRow.holds Try.pinned (OpenSpec.ofChange fnAboveSlabsSpec)

/-- ITS FALSE NEIGHBOUR: 'it returns false'. Refute it at one input. -/
def fnAboveSlabsWrong : ChangeSpec := { name := "fnAboveSlabs", fn := fun _ => fun
  | [d1, d2] => { results := [.lit (.bool false)], args := [d1, d2] }
  | _ => none }
def FnAboveSlabsWrongFalsely : Prop := fnAboveSlabsRow.holds Try.pinned (OpenSpec.ofChange fnAboveSlabsWrong)

/-- 'laws.FnDepthRises32': WHATEVER THE INPUT: true; the input reads as it did. -/
def fnDepthRises32Spec : ChangeSpec := { name := "fnDepthRises32", fn := fun _ => fun
  | [d] => { results := [.lit (.bool true)], args := [d] }
  | _ => none }
def fnDepthRises32Row : OpenClaim := { program := "ytkomonjmbpljhaa", sum := "99c4e1549d98d45d967d03dec6b443074ba4da73c925165decfc250c72efe57b", func := "loop.example/icecores/laws.FnDepthRises32", spec := "fnDepthRises32", apart := false }
def FnDepthRises32Said : Prop := fnDepthRises32Row.holds Try.pinned (OpenSpec.ofChange fnDepthRises32Spec)

/-- ITS FALSE NEIGHBOUR: 'it returns false'. Refute it at one input. -/
def fnDepthRises32Wrong : ChangeSpec := { name := "fnDepthRises32", fn := fun _ => fun
  | [d] => { results := [.lit (.bool false)], args := [d] }
  | _ => none }
def FnDepthRises32WrongFalsely : Prop := fnDepthRises32Row.holds Try.pinned (OpenSpec.ofChange fnDepthRises32Wrong)

/-- 'laws.FnDepthAbove': WHATEVER THE INPUT: true; the input reads as it did. -/
def fnDepthAboveSpec : ChangeSpec := { name := "fnDepthAbove", fn := fun _ => fun
  | [d] => { results := [.lit (.bool true)], args := [d] }
  | _ => none }
def fnDepthAboveRow : OpenClaim := { program := "ytkomonjmbpljhaa", sum := "99c4e1549d98d45d967d03dec6b443074ba4da73c925165decfc250c72efe57b", func := "loop.example/icecores/laws.FnDepthAbove", spec := "fnDepthAbove", apart := false }
def FnDepthAboveSaid : Prop := fnDepthAboveRow.holds Try.pinned (OpenSpec.ofChange fnDepthAboveSpec)

/-- ITS FALSE NEIGHBOUR: 'it returns false'. Refute it at one input. -/
def fnDepthAboveWrong : ChangeSpec := { name := "fnDepthAbove", fn := fun _ => fun
  | [d] => { results := [.lit (.bool false)], args := [d] }
  | _ => none }
def FnDepthAboveWrongFalsely : Prop := fnDepthAboveRow.holds Try.pinned (OpenSpec.ofChange fnDepthAboveWrong)

/-- 'laws.FnDepthMass': WHATEVER THE INPUT: true; the input reads as it did. -/
def fnDepthMassSpec : ChangeSpec := { name := "fnDepthMass", fn := fun _ => fun
  | [d] => { results := [.lit (.bool true)], args := [d] }
  | _ => none }
def fnDepthMassRow : OpenClaim := { program := "ytkomonjmbpljhaa", sum := "99c4e1549d98d45d967d03dec6b443074ba4da73c925165decfc250c72efe57b", func := "loop.example/icecores/laws.FnDepthMass", spec := "fnDepthMass", apart := false }
def FnDepthMassSaid : Prop := fnDepthMassRow.holds Try.pinned (OpenSpec.ofChange fnDepthMassSpec)

/-- ITS FALSE NEIGHBOUR: 'it returns false'. Refute it at one input. -/
def fnDepthMassWrong : ChangeSpec := { name := "fnDepthMass", fn := fun _ => fun
  | [d] => { results := [.lit (.bool false)], args := [d] }
  | _ => none }
def FnDepthMassWrongFalsely : Prop := fnDepthMassRow.holds Try.pinned (OpenSpec.ofChange fnDepthMassWrong)

/- THE SECOND FORM. 'bulk': how many values and letters a reading holds, each counted each time it is reached (what is shared counts as often as it is met; a slice's spare places count too). A statement '..UptoSaid' is the law's where the arguments, and the package variables that the reading takes, are together of bulk at most 1048576: NARROWER than '..Said'. Prove '..Said' where nothing that the law and all that it calls make is longer than what came in: it says more and counts as full. Else prove '..UptoSaid'. A law counts once. -/
mutual
def uptoBulk {H : Type} : DataW H → Nat
  | .lit (.string bytes) => bytes.length + 1
  | .lit _ => 1
  | .nil => 1
  | .ptr d => uptoBulk d + 1
  | .slice elems spare => uptoBulkAll elems + uptoBulkAll spare + 1
  | .agg parts => uptoBulkAll parts + 1
  | .iface _ d => uptoBulk d + 1
  | .map entries => uptoBulkEntries entries + 1
  | .held _ => 1
def uptoBulkAll {H : Type} : List (DataW H) → Nat
  | [] => 0
  | d :: r => uptoBulk d + uptoBulkAll r
def uptoBulkEntries {H : Type} : List (Lit × DataW H) → Nat
  | [] => 0
  | x :: r => uptoBulkEntry x + uptoBulkEntries r
def uptoBulkEntry {H : Type} : Lit × DataW H → Nat
  | (.string bytes, d) => bytes.length + uptoBulk d + 1
  | (_, d) => uptoBulk d + 1
 end
def uptoSmall : (H : Type) → List (DataW H) → Bool := fun _ ds => decide (uptoBulkAll ds ≤ 1048576)
def OpenSpec.upto (s : _root_.Go.ChangeSpec) : _root_.Go.OpenSpec := { _root_.Go.OpenSpec.ofChange s with cond := some uptoSmall }

/-- 'laws.FnSettle', WHERE WHAT IT READS IS OF BULK AT MOST 1048576: true; the input reads as it did. -/
def fnSettleUptoRow : OpenClaim := { program := "ytkomonjmbpljhaa", sum := "99c4e1549d98d45d967d03dec6b443074ba4da73c925165decfc250c72efe57b", func := "loop.example/icecores/laws.FnSettle", spec := "fnSettle", apart := false, narrowed := true }
def FnSettleUptoSaid : Prop := fnSettleUptoRow.holds Try.pinned (OpenSpec.upto fnSettleSpec)

/-- 'laws.FnSettleMass', WHERE WHAT IT READS IS OF BULK AT MOST 1048576: true; the input reads as it did. -/
def fnSettleMassUptoRow : OpenClaim := { program := "ytkomonjmbpljhaa", sum := "99c4e1549d98d45d967d03dec6b443074ba4da73c925165decfc250c72efe57b", func := "loop.example/icecores/laws.FnSettleMass", spec := "fnSettleMass", apart := false, narrowed := true }
def FnSettleMassUptoSaid : Prop := fnSettleMassUptoRow.holds Try.pinned (OpenSpec.upto fnSettleMassSpec)

/-- 'laws.FnSettleMore', WHERE WHAT IT READS IS OF BULK AT MOST 1048576: true; the input reads as it did. -/
def fnSettleMoreUptoRow : OpenClaim := { program := "ytkomonjmbpljhaa", sum := "99c4e1549d98d45d967d03dec6b443074ba4da73c925165decfc250c72efe57b", func := "loop.example/icecores/laws.FnSettleMore", spec := "fnSettleMore", apart := false, narrowed := true }
def FnSettleMoreUptoSaid : Prop := fnSettleMoreUptoRow.holds Try.pinned (OpenSpec.upto fnSettleMoreSpec)

/-- 'laws.FnExactFirnSettle', WHERE WHAT IT READS IS OF BULK AT MOST 1048576: true; the input reads as it did. -/
def fnExactFirnSettleUptoRow : OpenClaim := { program := "ytkomonjmbpljhaa", sum := "99c4e1549d98d45d967d03dec6b443074ba4da73c925165decfc250c72efe57b", func := "loop.example/icecores/laws.FnExactFirnSettle", spec := "fnExactFirnSettle", apart := false, narrowed := true }
def FnExactFirnSettleUptoSaid : Prop := fnExactFirnSettleUptoRow.holds Try.pinned (OpenSpec.upto fnExactFirnSettleSpec)

/-- 'laws.FnAboveAdd', WHERE WHAT IT READS IS OF BULK AT MOST 1048576: true; the input reads as it did. -/
def fnAboveAddUptoRow : OpenClaim := { program := "ytkomonjmbpljhaa", sum := "99c4e1549d98d45d967d03dec6b443074ba4da73c925165decfc250c72efe57b", func := "loop.example/icecores/laws.FnAboveAdd", spec := "fnAboveAdd", apart := false, narrowed := true }
def FnAboveAddUptoSaid : Prop := fnAboveAddUptoRow.holds Try.pinned (OpenSpec.upto fnAboveAddSpec)

/-- 'laws.FnSettleSolid', WHERE WHAT IT READS IS OF BULK AT MOST 1048576: true; the input reads as it did. -/
def fnSettleSolidUptoRow : OpenClaim := { program := "ytkomonjmbpljhaa", sum := "99c4e1549d98d45d967d03dec6b443074ba4da73c925165decfc250c72efe57b", func := "loop.example/icecores/laws.FnSettleSolid", spec := "fnSettleSolid", apart := false, narrowed := true }
def FnSettleSolidUptoSaid : Prop := fnSettleSolidUptoRow.holds Try.pinned (OpenSpec.upto fnSettleSolidSpec)

/-- 'laws.FnSettleThick', WHERE WHAT IT READS IS OF BULK AT MOST 1048576: true; the input reads as it did. -/
def fnSettleThickUptoRow : OpenClaim := { program := "ytkomonjmbpljhaa", sum := "99c4e1549d98d45d967d03dec6b443074ba4da73c925165decfc250c72efe57b", func := "loop.example/icecores/laws.FnSettleThick", spec := "fnSettleThick", apart := false, narrowed := true }
def FnSettleThickUptoSaid : Prop := fnSettleThickUptoRow.holds Try.pinned (OpenSpec.upto fnSettleThickSpec)

/-- 'laws.FnAbove', WHERE WHAT IT READS IS OF BULK AT MOST 1048576: true; the input reads as it did. -/
def fnAboveUptoRow : OpenClaim := { program := "ytkomonjmbpljhaa", sum := "99c4e1549d98d45d967d03dec6b443074ba4da73c925165decfc250c72efe57b", func := "loop.example/icecores/laws.FnAbove", spec := "fnAbove", apart := false, narrowed := true }
def FnAboveUptoSaid : Prop := fnAboveUptoRow.holds Try.pinned (OpenSpec.upto fnAboveSpec)

/-- 'laws.FnAboveSlabs', WHERE WHAT IT READS IS OF BULK AT MOST 1048576: true; the input reads as it did. -/
def fnAboveSlabsUptoRow : OpenClaim := { program := "ytkomonjmbpljhaa", sum := "99c4e1549d98d45d967d03dec6b443074ba4da73c925165decfc250c72efe57b", func := "loop.example/icecores/laws.FnAboveSlabs", spec := "fnAboveSlabs", apart := false, narrowed := true }
def FnAboveSlabsUptoSaid : Prop := fnAboveSlabsUptoRow.holds Try.pinned (OpenSpec.upto fnAboveSlabsSpec)

/-- 'laws.FnDepthRises32', WHERE WHAT IT READS IS OF BULK AT MOST 1048576: true; the input reads as it did. -/
def fnDepthRises32UptoRow : OpenClaim := { program := "ytkomonjmbpljhaa", sum := "99c4e1549d98d45d967d03dec6b443074ba4da73c925165decfc250c72efe57b", func := "loop.example/icecores/laws.FnDepthRises32", spec := "fnDepthRises32", apart := false, narrowed := true }
def FnDepthRises32UptoSaid : Prop := fnDepthRises32UptoRow.holds Try.pinned (OpenSpec.upto fnDepthRises32Spec)

/-- 'laws.FnDepthAbove', WHERE WHAT IT READS IS OF BULK AT MOST 1048576: true; the input reads as it did. -/
def fnDepthAboveUptoRow : OpenClaim := { program := "ytkomonjmbpljhaa", sum := "99c4e1549d98d45d967d03dec6b443074ba4da73c925165decfc250c72efe57b", func := "loop.example/icecores/laws.FnDepthAbove", spec := "fnDepthAbove", apart := false, narrowed := true }
def FnDepthAboveUptoSaid : Prop := fnDepthAboveUptoRow.holds Try.pinned (OpenSpec.upto fnDepthAboveSpec)

/-- 'laws.FnDepthMass', WHERE WHAT IT READS IS OF BULK AT MOST 1048576: true; the input reads as it did. -/
def fnDepthMassUptoRow : OpenClaim := { program := "ytkomonjmbpljhaa", sum := "99c4e1549d98d45d967d03dec6b443074ba4da73c925165decfc250c72efe57b", func := "loop.example/icecores/laws.FnDepthMass", spec := "fnDepthMass", apart := false, narrowed := true }
def FnDepthMassUptoSaid : Prop := fnDepthMassUptoRow.holds Try.pinned (OpenSpec.upto fnDepthMassSpec)

end Rows
end Go.Proofs.Ytkomonjmbpljhaa
