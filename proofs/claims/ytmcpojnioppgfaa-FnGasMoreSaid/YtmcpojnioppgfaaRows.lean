/-
  No cell of these rows narrows 'for every input' (looked for: loops, veiled, ifaces, maps, wideKeys, modest, calm, conditions, laid).
  DERIVED. THE GIVEN ROWS OF THIS SEAT. 8 by the template 'for every input the law returns true; each argument reads behind the call as it read before'; 0 by the template 'total and deterministic' (their statements: YtmcpojnioppgfaaTotals.lean).
  GIVEN WITH THE SEED: the statements are not yours to turn. If you find one false, say at which input.
  Laid BY PROGRAM, IN A SANDBOX (cutbox-rows.mjs): the forced cells as the released guide's own fill.sh prints them over the translation a3a5a4a46f31e12a… (all of the seat's roots in one cut). By AI agents, Wed Nov 11 2026. No macro, syntax, notation, axiom, sorry.
-/
import Derived.Test.YtmcpojnioppgfaaChecked
import GoSem.Claim
import GoSem.ClaimJoined
import GoSem.ClaimMapViews
import Derived.JoinedTies
import Derived.KernelRfl
namespace Go.Proofs.Ytmcpojnioppgfaa
/- THE CELL 'sum', in the pinned program and in every row, IS THE sha256 OF THE DUMP (.gsa) THAT YtmcpojnioppgfaaProg.lean LOADS. Nothing in Lean hashes anything: it is a label: what it is worth is what the hold of that sum in a sandbox is worth. -/
noncomputable def Try.pinned : Pinned := { name := "ytmcpojnioppgfaa", sum := "a3a5a4a46f31e12ac1c9612cc5522bac0eea06f6245ec4446eadada36b4caf44", checked := Try.checked }
namespace Rows
def none {H : Type} : Left H := { results := [], args := [] }

/-- 'laws.FnGas': WHATEVER THE INPUT: true; the input reads as it did. -/
def fnGasSpec : ChangeSpec := { name := "fnGas", fn := fun _ => fun
  | [d] => { results := [.lit (.bool true)], args := [d] }
  | _ => none }
def fnGasRow : OpenClaim := { program := "ytmcpojnioppgfaa", sum := "a3a5a4a46f31e12ac1c9612cc5522bac0eea06f6245ec4446eadada36b4caf44", func := "loop.example/icecores/laws.FnGas", spec := "fnGas", apart := false }
def FnGasSaid : Prop := fnGasRow.holds Try.pinned (OpenSpec.ofChange fnGasSpec)

/-- ITS FALSE NEIGHBOUR: 'it returns false'. Refute it at one input. -/
def fnGasWrong : ChangeSpec := { name := "fnGas", fn := fun _ => fun
  | [d] => { results := [.lit (.bool false)], args := [d] }
  | _ => none }
def FnGasWrongFalsely : Prop := fnGasRow.holds Try.pinned (OpenSpec.ofChange fnGasWrong)

/-- 'laws.FnGasMore': WHATEVER THE INPUT: true; the input reads as it did. -/
def fnGasMoreSpec : ChangeSpec := { name := "fnGasMore", fn := fun _ => fun
  | [d] => { results := [.lit (.bool true)], args := [d] }
  | _ => none }
def fnGasMoreRow : OpenClaim := { program := "ytmcpojnioppgfaa", sum := "a3a5a4a46f31e12ac1c9612cc5522bac0eea06f6245ec4446eadada36b4caf44", func := "loop.example/icecores/laws.FnGasMore", spec := "fnGasMore", apart := false }
def FnGasMoreSaid : Prop := fnGasMoreRow.holds Try.pinned (OpenSpec.ofChange fnGasMoreSpec)

/-- ITS FALSE NEIGHBOUR: 'it returns false'. Refute it at one input. -/
def fnGasMoreWrong : ChangeSpec := { name := "fnGasMore", fn := fun _ => fun
  | [d] => { results := [.lit (.bool false)], args := [d] }
  | _ => none }
def FnGasMoreWrongFalsely : Prop := fnGasMoreRow.holds Try.pinned (OpenSpec.ofChange fnGasMoreWrong)

/-- 'laws.FnGasNone': WHATEVER THE INPUT: true; the input reads as it did. -/
def fnGasNoneSpec : ChangeSpec := { name := "fnGasNone", fn := fun _ => fun
  | [d] => { results := [.lit (.bool true)], args := [d] }
  | _ => none }
def fnGasNoneRow : OpenClaim := { program := "ytmcpojnioppgfaa", sum := "a3a5a4a46f31e12ac1c9612cc5522bac0eea06f6245ec4446eadada36b4caf44", func := "loop.example/icecores/laws.FnGasNone", spec := "fnGasNone", apart := false }
def FnGasNoneSaid : Prop := fnGasNoneRow.holds Try.pinned (OpenSpec.ofChange fnGasNoneSpec)

/-- ITS FALSE NEIGHBOUR: 'it returns false'. Refute it at one input. -/
def fnGasNoneWrong : ChangeSpec := { name := "fnGasNone", fn := fun _ => fun
  | [d] => { results := [.lit (.bool false)], args := [d] }
  | _ => none }
def FnGasNoneWrongFalsely : Prop := fnGasNoneRow.holds Try.pinned (OpenSpec.ofChange fnGasNoneWrong)

/-- 'laws.FnGasTop': WHATEVER THE INPUT: true; the input reads as it did. -/
def fnGasTopSpec : ChangeSpec := { name := "fnGasTop", fn := fun _ => fun
  | [d] => { results := [.lit (.bool true)], args := [d] }
  | _ => none }
def fnGasTopRow : OpenClaim := { program := "ytmcpojnioppgfaa", sum := "a3a5a4a46f31e12ac1c9612cc5522bac0eea06f6245ec4446eadada36b4caf44", func := "loop.example/icecores/laws.FnGasTop", spec := "fnGasTop", apart := false }
def FnGasTopSaid : Prop := fnGasTopRow.holds Try.pinned (OpenSpec.ofChange fnGasTopSpec)

/-- ITS FALSE NEIGHBOUR: 'it returns false'. Refute it at one input. -/
def fnGasTopWrong : ChangeSpec := { name := "fnGasTop", fn := fun _ => fun
  | [d] => { results := [.lit (.bool false)], args := [d] }
  | _ => none }
def FnGasTopWrongFalsely : Prop := fnGasTopRow.holds Try.pinned (OpenSpec.ofChange fnGasTopWrong)

/-- 'laws.FnExactGasCurve': WHATEVER THE INPUT: true; the input reads as it did. -/
def fnExactGasCurveSpec : ChangeSpec := { name := "fnExactGasCurve", fn := fun _ => fun
  | [d1, d2] => { results := [.lit (.bool true)], args := [d1, d2] }
  | _ => none }
def fnExactGasCurveRow : OpenClaim := { program := "ytmcpojnioppgfaa", sum := "a3a5a4a46f31e12ac1c9612cc5522bac0eea06f6245ec4446eadada36b4caf44", func := "loop.example/icecores/laws.FnExactGasCurve", spec := "fnExactGasCurve", apart := false }
def FnExactGasCurveSaid : Prop := fnExactGasCurveRow.holds Try.pinned (OpenSpec.ofChange fnExactGasCurveSpec)

/-- ITS FALSE NEIGHBOUR: 'it returns false'. Refute it at one input. -/
def fnExactGasCurveWrong : ChangeSpec := { name := "fnExactGasCurve", fn := fun _ => fun
  | [d1, d2] => { results := [.lit (.bool false)], args := [d1, d2] }
  | _ => none }
def FnExactGasCurveWrongFalsely : Prop := fnExactGasCurveRow.holds Try.pinned (OpenSpec.ofChange fnExactGasCurveWrong)

/-- 'laws.FnExactGasEven': WHATEVER THE INPUT: true; the input reads as it did. -/
def fnExactGasEvenSpec : ChangeSpec := { name := "fnExactGasEven", fn := fun _ => fun
  | [d1, d2] => { results := [.lit (.bool true)], args := [d1, d2] }
  | _ => none }
def fnExactGasEvenRow : OpenClaim := { program := "ytmcpojnioppgfaa", sum := "a3a5a4a46f31e12ac1c9612cc5522bac0eea06f6245ec4446eadada36b4caf44", func := "loop.example/icecores/laws.FnExactGasEven", spec := "fnExactGasEven", apart := false }
def FnExactGasEvenSaid : Prop := fnExactGasEvenRow.holds Try.pinned (OpenSpec.ofChange fnExactGasEvenSpec)

/-- ITS FALSE NEIGHBOUR: 'it returns false'. Refute it at one input. -/
def fnExactGasEvenWrong : ChangeSpec := { name := "fnExactGasEven", fn := fun _ => fun
  | [d1, d2] => { results := [.lit (.bool false)], args := [d1, d2] }
  | _ => none }
def FnExactGasEvenWrongFalsely : Prop := fnExactGasEvenRow.holds Try.pinned (OpenSpec.ofChange fnExactGasEvenWrong)

/-- 'laws.FnEvenNone': WHATEVER THE INPUT: true; the input reads as it did. -/
def fnEvenNoneSpec : ChangeSpec := { name := "fnEvenNone", fn := fun _ => fun
  | [d] => { results := [.lit (.bool true)], args := [d] }
  | _ => none }
def fnEvenNoneRow : OpenClaim := { program := "ytmcpojnioppgfaa", sum := "a3a5a4a46f31e12ac1c9612cc5522bac0eea06f6245ec4446eadada36b4caf44", func := "loop.example/icecores/laws.FnEvenNone", spec := "fnEvenNone", apart := false }
def FnEvenNoneSaid : Prop := fnEvenNoneRow.holds Try.pinned (OpenSpec.ofChange fnEvenNoneSpec)

/-- ITS FALSE NEIGHBOUR: 'it returns false'. Refute it at one input. -/
def fnEvenNoneWrong : ChangeSpec := { name := "fnEvenNone", fn := fun _ => fun
  | [d] => { results := [.lit (.bool false)], args := [d] }
  | _ => none }
def FnEvenNoneWrongFalsely : Prop := fnEvenNoneRow.holds Try.pinned (OpenSpec.ofChange fnEvenNoneWrong)

/-- 'laws.FnEvenShift': WHATEVER THE INPUT: true; the input reads as it did. -/
def fnEvenShiftSpec : ChangeSpec := { name := "fnEvenShift", fn := fun _ => fun
  | [d] => { results := [.lit (.bool true)], args := [d] }
  | _ => none }
def fnEvenShiftRow : OpenClaim := { program := "ytmcpojnioppgfaa", sum := "a3a5a4a46f31e12ac1c9612cc5522bac0eea06f6245ec4446eadada36b4caf44", func := "loop.example/icecores/laws.FnEvenShift", spec := "fnEvenShift", apart := false }
def FnEvenShiftSaid : Prop := fnEvenShiftRow.holds Try.pinned (OpenSpec.ofChange fnEvenShiftSpec)

/-- ITS FALSE NEIGHBOUR: 'it returns false'. Refute it at one input. -/
def fnEvenShiftWrong : ChangeSpec := { name := "fnEvenShift", fn := fun _ => fun
  | [d] => { results := [.lit (.bool false)], args := [d] }
  | _ => none }
def FnEvenShiftWrongFalsely : Prop := fnEvenShiftRow.holds Try.pinned (OpenSpec.ofChange fnEvenShiftWrong)

/- THE SECOND FORM. 'bulk': how many values and letters a reading holds, each counted each time it is reached (what is shared counts as often as it is met; a slice's spare places count too). A statement '..UptoSaid' is the law's where the arguments, and the package variables that the reading takes, are together of bulk at most 1048576: NARROWER than '..Said'. Prove '..Said' where nothing that the law and all that it calls make is longer than what came in: it says more and counts as full. Else prove '..UptoSaid'. A law counts once. -/
mutual
def uptoBulk {H : Type} : DataW H → Nat
  | .lit (.string bytes) => bytes.length + 1
  | .lit _ => 1
  | .nil => 1
  | .ptr d => uptoBulk d + 1
  | .slice elems spare => uptoBulkAll elems + uptoBulkAll spare + 1
  | .agg parts => uptoBulkAll parts + 1
  | .iface _ d => uptoBulk d + 1
  | .map entries => uptoBulkEntries entries + 1
  | .held _ => 1
def uptoBulkAll {H : Type} : List (DataW H) → Nat
  | [] => 0
  | d :: r => uptoBulk d + uptoBulkAll r
def uptoBulkEntries {H : Type} : List (Lit × DataW H) → Nat
  | [] => 0
  | x :: r => uptoBulkEntry x + uptoBulkEntries r
def uptoBulkEntry {H : Type} : Lit × DataW H → Nat
  | (.string bytes, d) => bytes.length + uptoBulk d + 1
  | (_, d) => uptoBulk d + 1
 end
def uptoSmall : (H : Type) → List (DataW H) → Bool := fun _ ds => decide (uptoBulkAll ds ≤ 1048576)
def OpenSpec.upto (s : _root_.Go.ChangeSpec) : _root_.Go.OpenSpec := { _root_.Go.OpenSpec.ofChange s with cond := some uptoSmall }

/-- 'laws.FnGas', WHERE WHAT IT READS IS OF BULK AT MOST 1048576: true; the input reads as it did. -/
def fnGasUptoRow : OpenClaim := { program := "ytmcpojnioppgfaa", sum := "a3a5a4a46f31e12ac1c9612cc5522bac0eea06f6245ec4446eadada36b4caf44", func := "loop.example/icecores/laws.FnGas", spec := "fnGas", apart := false, narrowed := true }
def FnGasUptoSaid : Prop := fnGasUptoRow.holds Try.pinned (OpenSpec.upto fnGasSpec)

/-- 'laws.FnGasMore', WHERE WHAT IT READS IS OF BULK AT MOST 1048576: true; the input reads as it did. -/
def fnGasMoreUptoRow : OpenClaim := { program := "ytmcpojnioppgfaa", sum := "a3a5a4a46f31e12ac1c9612cc5522bac0eea06f6245ec4446eadada36b4caf44", func := "loop.example/icecores/laws.FnGasMore", spec := "fnGasMore", apart := false, narrowed := true }
def FnGasMoreUptoSaid : Prop := fnGasMoreUptoRow.holds Try.pinned (OpenSpec.upto fnGasMoreSpec)

/-- 'laws.FnGasNone', WHERE WHAT IT READS IS OF BULK AT MOST 1048576: true; the input reads as it did. -/
def fnGasNoneUptoRow : OpenClaim := { program := "ytmcpojnioppgfaa", sum := "a3a5a4a46f31e12ac1c9612cc5522bac0eea06f6245ec4446eadada36b4caf44", func := "loop.example/icecores/laws.FnGasNone", spec := "fnGasNone", apart := false, narrowed := true }
def FnGasNoneUptoSaid : Prop := fnGasNoneUptoRow.holds Try.pinned (OpenSpec.upto fnGasNoneSpec)

/-- 'laws.FnGasTop', WHERE WHAT IT READS IS OF BULK AT MOST 1048576: true; the input reads as it did. -/
def fnGasTopUptoRow : OpenClaim := { program := "ytmcpojnioppgfaa", sum := "a3a5a4a46f31e12ac1c9612cc5522bac0eea06f6245ec4446eadada36b4caf44", func := "loop.example/icecores/laws.FnGasTop", spec := "fnGasTop", apart := false, narrowed := true }
def FnGasTopUptoSaid : Prop := fnGasTopUptoRow.holds Try.pinned (OpenSpec.upto fnGasTopSpec)

/-- 'laws.FnExactGasCurve', WHERE WHAT IT READS IS OF BULK AT MOST 1048576: true; the input reads as it did. -/
def fnExactGasCurveUptoRow : OpenClaim := { program := "ytmcpojnioppgfaa", sum := "a3a5a4a46f31e12ac1c9612cc5522bac0eea06f6245ec4446eadada36b4caf44", func := "loop.example/icecores/laws.FnExactGasCurve", spec := "fnExactGasCurve", apart := false, narrowed := true }
def FnExactGasCurveUptoSaid : Prop := fnExactGasCurveUptoRow.holds Try.pinned (OpenSpec.upto fnExactGasCurveSpec)

/-- 'laws.FnExactGasEven', WHERE WHAT IT READS IS OF BULK AT MOST 1048576: true; the input reads as it did. -/
def fnExactGasEvenUptoRow : OpenClaim := { program := "ytmcpojnioppgfaa", sum := "a3a5a4a46f31e12ac1c9612cc5522bac0eea06f6245ec4446eadada36b4caf44", func := "loop.example/icecores/laws.FnExactGasEven", spec := "fnExactGasEven", apart := false, narrowed := true }
def FnExactGasEvenUptoSaid : Prop := fnExactGasEvenUptoRow.holds Try.pinned (OpenSpec.upto fnExactGasEvenSpec)

/-- 'laws.FnEvenNone', WHERE WHAT IT READS IS OF BULK AT MOST 1048576: true; the input reads as it did. -/
def fnEvenNoneUptoRow : OpenClaim := { program := "ytmcpojnioppgfaa", sum := "a3a5a4a46f31e12ac1c9612cc5522bac0eea06f6245ec4446eadada36b4caf44", func := "loop.example/icecores/laws.FnEvenNone", spec := "fnEvenNone", apart := false, narrowed := true }
def FnEvenNoneUptoSaid : Prop := fnEvenNoneUptoRow.holds Try.pinned (OpenSpec.upto fnEvenNoneSpec)

/-- 'laws.FnEvenShift', WHERE WHAT IT READS IS OF BULK AT MOST 1048576: true; the input reads as it did. -/
def fnEvenShiftUptoRow : OpenClaim := { program := "ytmcpojnioppgfaa", sum := "a3a5a4a46f31e12ac1c9612cc5522bac0eea06f6245ec4446eadada36b4caf44", func := "loop.example/icecores/laws.FnEvenShift", spec := "fnEvenShift", apart := false, narrowed := true }
def FnEvenShiftUptoSaid : Prop := fnEvenShiftUptoRow.holds Try.pinned (OpenSpec.upto fnEvenShiftSpec)

end Rows
end Go.Proofs.Ytmcpojnioppgfaa
