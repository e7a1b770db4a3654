/-
  No cell of these rows narrows 'for every input' (looked for: loops, veiled, ifaces, maps, wideKeys, modest, calm, conditions, laid).
  DERIVED. THE GIVEN ROWS OF THIS SEAT. 8 by the template 'for every input the law returns true; each argument reads behind the call as it read before'; 0 by the template 'total and deterministic' (their statements: YtbaplcdedijaeaaTotals.lean).
  GIVEN WITH THE SEED: the statements are not yours to turn. If you find one false, say at which input.
  Laid BY PROGRAM, IN A SANDBOX (cutbox-rows.mjs): the forced cells as the released guide's own fill.sh prints them over the translation c8ec646f962720e2… (all of the seat's roots in one cut). By AI agents, Wed Nov 11 2026. No macro, syntax, notation, axiom, sorry.
-/
import Derived.Test.YtbaplcdedijaeaaChecked
import GoSem.Claim
import GoSem.ClaimJoined
import GoSem.ClaimMapViews
import Derived.JoinedTies
import Derived.KernelRfl
namespace Go.Proofs.Ytbaplcdedijaeaa
/- THE CELL 'sum', in the pinned program and in every row, IS THE sha256 OF THE DUMP (.gsa) THAT YtbaplcdedijaeaaProg.lean LOADS. Nothing in Lean hashes anything: it is a label: what it is worth is what the hold of that sum in a sandbox is worth. -/
noncomputable def Try.pinned : Pinned := { name := "ytbaplcdedijaeaa", sum := "c8ec646f962720e21ff19bd239ecfea5d49a49e3808fd9e78c57a7df6268ef95", checked := Try.checked }
namespace Rows
def none {H : Type} : Left H := { results := [], args := [] }

/-- 'laws.FnExactStackValid': WHATEVER THE INPUT: true; the input reads as it did. -/
def fnExactStackValidSpec : ChangeSpec := { name := "fnExactStackValid", fn := fun _ => fun
  | [d] => { results := [.lit (.bool true)], args := [d] }
  | _ => none }
def fnExactStackValidRow : OpenClaim := { program := "ytbaplcdedijaeaa", sum := "c8ec646f962720e21ff19bd239ecfea5d49a49e3808fd9e78c57a7df6268ef95", func := "loop.example/icecores/laws.FnExactStackValid", spec := "fnExactStackValid", apart := false }
def FnExactStackValidSaid : Prop := fnExactStackValidRow.holds Try.pinned (OpenSpec.ofChange fnExactStackValidSpec)

/-- ITS FALSE NEIGHBOUR: 'it returns false'. Refute it at one input. -/
def fnExactStackValidWrong : ChangeSpec := { name := "fnExactStackValid", fn := fun _ => fun
  | [d] => { results := [.lit (.bool false)], args := [d] }
  | _ => none }
def FnExactStackValidWrongFalsely : Prop := fnExactStackValidRow.holds Try.pinned (OpenSpec.ofChange fnExactStackValidWrong)

/-- 'laws.FnStack': WHATEVER THE INPUT: true; the input reads as it did. -/
def fnStackSpec : ChangeSpec := { name := "fnStack", fn := fun _ => fun
  | [d1, d2] => { results := [.lit (.bool true)], args := [d1, d2] }
  | _ => none }
def fnStackRow : OpenClaim := { program := "ytbaplcdedijaeaa", sum := "c8ec646f962720e21ff19bd239ecfea5d49a49e3808fd9e78c57a7df6268ef95", func := "loop.example/icecores/laws.FnStack", spec := "fnStack", apart := false }
def FnStackSaid : Prop := fnStackRow.holds Try.pinned (OpenSpec.ofChange fnStackSpec)

/-- ITS FALSE NEIGHBOUR: 'it returns false'. Refute it at one input. -/
def fnStackWrong : ChangeSpec := { name := "fnStack", fn := fun _ => fun
  | [d1, d2] => { results := [.lit (.bool false)], args := [d1, d2] }
  | _ => none }
def FnStackWrongFalsely : Prop := fnStackRow.holds Try.pinned (OpenSpec.ofChange fnStackWrong)

/-- 'laws.FnStackSum': WHATEVER THE INPUT: true; the input reads as it did. -/
def fnStackSumSpec : ChangeSpec := { name := "fnStackSum", fn := fun _ => fun
  | [d1, d2] => { results := [.lit (.bool true)], args := [d1, d2] }
  | _ => none }
def fnStackSumRow : OpenClaim := { program := "ytbaplcdedijaeaa", sum := "c8ec646f962720e21ff19bd239ecfea5d49a49e3808fd9e78c57a7df6268ef95", func := "loop.example/icecores/laws.FnStackSum", spec := "fnStackSum", apart := false }
def FnStackSumSaid : Prop := fnStackSumRow.holds Try.pinned (OpenSpec.ofChange fnStackSumSpec)

/-- ITS FALSE NEIGHBOUR: 'it returns false'. Refute it at one input. -/
def fnStackSumWrong : ChangeSpec := { name := "fnStackSum", fn := fun _ => fun
  | [d1, d2] => { results := [.lit (.bool false)], args := [d1, d2] }
  | _ => none }
def FnStackSumWrongFalsely : Prop := fnStackSumRow.holds Try.pinned (OpenSpec.ofChange fnStackSumWrong)

/-- 'laws.FnExactStackFar': WHATEVER THE INPUT: true; the input reads as it did. -/
def fnExactStackFarSpec : ChangeSpec := { name := "fnExactStackFar", fn := fun _ => fun
  | [d1, d2] => { results := [.lit (.bool true)], args := [d1, d2] }
  | _ => none }
def fnExactStackFarRow : OpenClaim := { program := "ytbaplcdedijaeaa", sum := "c8ec646f962720e21ff19bd239ecfea5d49a49e3808fd9e78c57a7df6268ef95", func := "loop.example/icecores/laws.FnExactStackFar", spec := "fnExactStackFar", apart := false }
def FnExactStackFarSaid : Prop := fnExactStackFarRow.holds Try.pinned (OpenSpec.ofChange fnExactStackFarSpec)

/-- ITS FALSE NEIGHBOUR: 'it returns false'. Refute it at one input. -/
def fnExactStackFarWrong : ChangeSpec := { name := "fnExactStackFar", fn := fun _ => fun
  | [d1, d2] => { results := [.lit (.bool false)], args := [d1, d2] }
  | _ => none }
def FnExactStackFarWrongFalsely : Prop := fnExactStackFarRow.holds Try.pinned (OpenSpec.ofChange fnExactStackFarWrong)

/-- 'laws.FnFarShift': WHATEVER THE INPUT: true; the input reads as it did. -/
def fnFarShiftSpec : ChangeSpec := { name := "fnFarShift", fn := fun _ => fun
  | [d] => { results := [.lit (.bool true)], args := [d] }
  | _ => none }
def fnFarShiftRow : OpenClaim := { program := "ytbaplcdedijaeaa", sum := "c8ec646f962720e21ff19bd239ecfea5d49a49e3808fd9e78c57a7df6268ef95", func := "loop.example/icecores/laws.FnFarShift", spec := "fnFarShift", apart := false }
def FnFarShiftSaid : Prop := fnFarShiftRow.holds Try.pinned (OpenSpec.ofChange fnFarShiftSpec)

/-- ITS FALSE NEIGHBOUR: 'it returns false'. Refute it at one input. -/
def fnFarShiftWrong : ChangeSpec := { name := "fnFarShift", fn := fun _ => fun
  | [d] => { results := [.lit (.bool false)], args := [d] }
  | _ => none }
def FnFarShiftWrongFalsely : Prop := fnFarShiftRow.holds Try.pinned (OpenSpec.ofChange fnFarShiftWrong)

/-- 'laws.FnExactStackSum': WHATEVER THE INPUT: true; the input reads as it did. -/
def fnExactStackSumSpec : ChangeSpec := { name := "fnExactStackSum", fn := fun _ => fun
  | [d] => { results := [.lit (.bool true)], args := [d] }
  | _ => none }
def fnExactStackSumRow : OpenClaim := { program := "ytbaplcdedijaeaa", sum := "c8ec646f962720e21ff19bd239ecfea5d49a49e3808fd9e78c57a7df6268ef95", func := "loop.example/icecores/laws.FnExactStackSum", spec := "fnExactStackSum", apart := false }
def FnExactStackSumSaid : Prop := fnExactStackSumRow.holds Try.pinned (OpenSpec.ofChange fnExactStackSumSpec)

/-- ITS FALSE NEIGHBOUR: 'it returns false'. Refute it at one input. -/
def fnExactStackSumWrong : ChangeSpec := { name := "fnExactStackSum", fn := fun _ => fun
  | [d] => { results := [.lit (.bool false)], args := [d] }
  | _ => none }
def FnExactStackSumWrongFalsely : Prop := fnExactStackSumRow.holds Try.pinned (OpenSpec.ofChange fnExactStackSumWrong)

/-- 'laws.FnWithoutOrder': WHATEVER THE INPUT: true; the input reads as it did. -/
def fnWithoutOrderSpec : ChangeSpec := { name := "fnWithoutOrder", fn := fun _ => fun
  | [d] => { results := [.lit (.bool true)], args := [d] }
  | _ => none }
def fnWithoutOrderRow : OpenClaim := { program := "ytbaplcdedijaeaa", sum := "c8ec646f962720e21ff19bd239ecfea5d49a49e3808fd9e78c57a7df6268ef95", func := "loop.example/icecores/laws.FnWithoutOrder", spec := "fnWithoutOrder", apart := false }
def FnWithoutOrderSaid : Prop := fnWithoutOrderRow.holds Try.pinned (OpenSpec.ofChange fnWithoutOrderSpec)

/-- ITS FALSE NEIGHBOUR: 'it returns false'. Refute it at one input. -/
def fnWithoutOrderWrong : ChangeSpec := { name := "fnWithoutOrder", fn := fun _ => fun
  | [d] => { results := [.lit (.bool false)], args := [d] }
  | _ => none }
def FnWithoutOrderWrongFalsely : Prop := fnWithoutOrderRow.holds Try.pinned (OpenSpec.ofChange fnWithoutOrderWrong)

/-- 'laws.FnWithoutTwo': WHATEVER THE INPUT: true; the input reads as it did. -/
def fnWithoutTwoSpec : ChangeSpec := { name := "fnWithoutTwo", fn := fun _ => fun
  | [d] => { results := [.lit (.bool true)], args := [d] }
  | _ => none }
def fnWithoutTwoRow : OpenClaim := { program := "ytbaplcdedijaeaa", sum := "c8ec646f962720e21ff19bd239ecfea5d49a49e3808fd9e78c57a7df6268ef95", func := "loop.example/icecores/laws.FnWithoutTwo", spec := "fnWithoutTwo", apart := false }
def FnWithoutTwoSaid : Prop := fnWithoutTwoRow.holds Try.pinned (OpenSpec.ofChange fnWithoutTwoSpec)

/-- ITS FALSE NEIGHBOUR: 'it returns false'. Refute it at one input. -/
def fnWithoutTwoWrong : ChangeSpec := { name := "fnWithoutTwo", fn := fun _ => fun
  | [d] => { results := [.lit (.bool false)], args := [d] }
  | _ => none }
def FnWithoutTwoWrongFalsely : Prop := fnWithoutTwoRow.holds Try.pinned (OpenSpec.ofChange fnWithoutTwoWrong)

/- THE SECOND FORM. 'bulk': how many values and letters a reading holds, each counted each time it is reached (what is shared counts as often as it is met; a slice's spare places count too). A statement '..UptoSaid' is the law's where the arguments, and the package variables that the reading takes, are together of bulk at most 1048576: NARROWER than '..Said'. Prove '..Said' where nothing that the law and all that it calls make is longer than what came in: it says more and counts as full. Else prove '..UptoSaid'. A law counts once. -/
mutual
def uptoBulk {H : Type} : DataW H → Nat
  | .lit (.string bytes) => bytes.length + 1
  | .lit _ => 1
  | .nil => 1
  | .ptr d => uptoBulk d + 1
  | .slice elems spare => uptoBulkAll elems + uptoBulkAll spare + 1
  | .agg parts => uptoBulkAll parts + 1
  | .iface _ d => uptoBulk d + 1
  | .map entries => uptoBulkEntries entries + 1
  | .held _ => 1
def uptoBulkAll {H : Type} : List (DataW H) → Nat
  | [] => 0
  | d :: r => uptoBulk d + uptoBulkAll r
def uptoBulkEntries {H : Type} : List (Lit × DataW H) → Nat
  | [] => 0
  | x :: r => uptoBulkEntry x + uptoBulkEntries r
def uptoBulkEntry {H : Type} : Lit × DataW H → Nat
  | (.string bytes, d) => bytes.length + uptoBulk d + 1
  | (_, d) => uptoBulk d + 1
 end
def uptoSmall : (H : Type) → List (DataW H) → Bool := fun _ ds => decide (uptoBulkAll ds ≤ 1048576)
def OpenSpec.upto (s : _root_.Go.ChangeSpec) : _root_.Go.OpenSpec := { _root_.Go.OpenSpec.ofChange s with cond := some uptoSmall }

/-- 'laws.FnExactStackValid', WHERE WHAT IT READS IS OF BULK AT MOST 1048576: true; the input reads as it did. -/
def fnExactStackValidUptoRow : OpenClaim := { program := "ytbaplcdedijaeaa", sum := "c8ec646f962720e21ff19bd239ecfea5d49a49e3808fd9e78c57a7df6268ef95", func := "loop.example/icecores/laws.FnExactStackValid", spec := "fnExactStackValid", apart := false, narrowed := true }
def FnExactStackValidUptoSaid : Prop := fnExactStackValidUptoRow.holds Try.pinned (OpenSpec.upto fnExactStackValidSpec)

/-- 'laws.FnStack', WHERE WHAT IT READS IS OF BULK AT MOST 1048576: true; the input reads as it did. -/
def fnStackUptoRow : OpenClaim := { program := "ytbaplcdedijaeaa", sum := "c8ec646f962720e21ff19bd239ecfea5d49a49e3808fd9e78c57a7df6268ef95", func := "loop.example/icecores/laws.FnStack", spec := "fnStack", apart := false, narrowed := true }
def FnStackUptoSaid : Prop := fnStackUptoRow.holds Try.pinned (OpenSpec.upto fnStackSpec)

/-- 'laws.FnStackSum', WHERE WHAT IT READS IS OF BULK AT MOST 1048576: true; the input reads as it did. -/
def fnStackSumUptoRow : OpenClaim := { program := "ytbaplcdedijaeaa", sum := "c8ec646f962720e21ff19bd239ecfea5d49a49e3808fd9e78c57a7df6268ef95", func := "loop.example/icecores/laws.FnStackSum", spec := "fnStackSum", apart := false, narrowed := true }
def FnStackSumUptoSaid : Prop := fnStackSumUptoRow.holds Try.pinned (OpenSpec.upto fnStackSumSpec)

/-- 'laws.FnExactStackFar', WHERE WHAT IT READS IS OF BULK AT MOST 1048576: true; the input reads as it did. -/
def fnExactStackFarUptoRow : OpenClaim := { program := "ytbaplcdedijaeaa", sum := "c8ec646f962720e21ff19bd239ecfea5d49a49e3808fd9e78c57a7df6268ef95", func := "loop.example/icecores/laws.FnExactStackFar", spec := "fnExactStackFar", apart := false, narrowed := true }
def FnExactStackFarUptoSaid : Prop := fnExactStackFarUptoRow.holds Try.pinned (OpenSpec.upto fnExactStackFarSpec)

/-- 'laws.FnFarShift', WHERE WHAT IT READS IS OF BULK AT MOST 1048576: true; the input reads as it did. -/
def fnFarShiftUptoRow : OpenClaim := { program := "ytbaplcdedijaeaa", sum := "c8ec646f962720e21ff19bd239ecfea5d49a49e3808fd9e78c57a7df6268ef95", func := "loop.example/icecores/laws.FnFarShift", spec := "fnFarShift", apart := false, narrowed := true }
def FnFarShiftUptoSaid : Prop := fnFarShiftUptoRow.holds Try.pinned (OpenSpec.upto fnFarShiftSpec)

/-- 'laws.FnExactStackSum', WHERE WHAT IT READS IS OF BULK AT MOST 1048576: true; the input reads as it did. -/
def fnExactStackSumUptoRow : OpenClaim := { program := "ytbaplcdedijaeaa", sum := "c8ec646f962720e21ff19bd239ecfea5d49a49e3808fd9e78c57a7df6268ef95", func := "loop.example/icecores/laws.FnExactStackSum", spec := "fnExactStackSum", apart := false, narrowed := true }
def FnExactStackSumUptoSaid : Prop := fnExactStackSumUptoRow.holds Try.pinned (OpenSpec.upto fnExactStackSumSpec)

/-- 'laws.FnWithoutOrder', WHERE WHAT IT READS IS OF BULK AT MOST 1048576: true; the input reads as it did. -/
def fnWithoutOrderUptoRow : OpenClaim := { program := "ytbaplcdedijaeaa", sum := "c8ec646f962720e21ff19bd239ecfea5d49a49e3808fd9e78c57a7df6268ef95", func := "loop.example/icecores/laws.FnWithoutOrder", spec := "fnWithoutOrder", apart := false, narrowed := true }
def FnWithoutOrderUptoSaid : Prop := fnWithoutOrderUptoRow.holds Try.pinned (OpenSpec.upto fnWithoutOrderSpec)

/-- 'laws.FnWithoutTwo', WHERE WHAT IT READS IS OF BULK AT MOST 1048576: true; the input reads as it did. -/
def fnWithoutTwoUptoRow : OpenClaim := { program := "ytbaplcdedijaeaa", sum := "c8ec646f962720e21ff19bd239ecfea5d49a49e3808fd9e78c57a7df6268ef95", func := "loop.example/icecores/laws.FnWithoutTwo", spec := "fnWithoutTwo", apart := false, narrowed := true }
def FnWithoutTwoUptoSaid : Prop := fnWithoutTwoUptoRow.holds Try.pinned (OpenSpec.upto fnWithoutTwoSpec)

end Rows
end Go.Proofs.Ytbaplcdedijaeaa
