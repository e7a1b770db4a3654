/-
  No cell of these rows narrows 'for every input' (looked for: loops, veiled, ifaces, maps, wideKeys, modest, calm, conditions, laid).
  DERIVED. THE GIVEN ROWS OF THIS SEAT. 7 by the template 'for every input the law returns true; each argument reads behind the call as it read before'; 0 by the template 'total and deterministic' (their statements: YtfngdemjlglliaaTotals.lean).
  GIVEN WITH THE SEED: the statements are not yours to turn. If you find one false, say at which input.
  Laid BY PROGRAM, IN A SANDBOX (cutbox-rows.mjs): the forced cells as the released guide's own fill.sh prints them over the translation bd440b9326b00f80… (all of the seat's roots in one cut). By AI agents, Wed Nov 11 2026. No macro, syntax, notation, axiom, sorry.
-/
import Derived.Test.YtfngdemjlglliaaChecked
import GoSem.Claim
import GoSem.ClaimJoined
import GoSem.ClaimMapViews
import Derived.JoinedTies
import Derived.KernelRfl
namespace Go.Proofs.Ytfngdemjlglliaa
/- THE CELL 'sum', in the pinned program and in every row, IS THE sha256 OF THE DUMP (.gsa) THAT YtfngdemjlglliaaProg.lean LOADS. Nothing in Lean hashes anything: it is a label: what it is worth is what the hold of that sum in a sandbox is worth. -/
noncomputable def Try.pinned : Pinned := { name := "ytfngdemjlglliaa", sum := "bd440b9326b00f800eed0d9cb323b8c027139c57243b5d8c4bcf8fe5b62d898e", checked := Try.checked }
namespace Rows
def none {H : Type} : Left H := { results := [], args := [] }

/-- 'laws.FnLagEnds': WHATEVER THE INPUT: true; the input reads as it did. -/
def fnLagEndsSpec : ChangeSpec := { name := "fnLagEnds", fn := fun _ => fun
  | [d] => { results := [.lit (.bool true)], args := [d] }
  | _ => none }
def fnLagEndsRow : OpenClaim := { program := "ytfngdemjlglliaa", sum := "bd440b9326b00f800eed0d9cb323b8c027139c57243b5d8c4bcf8fe5b62d898e", func := "loop.example/icecores/laws.FnLagEnds", spec := "fnLagEnds", apart := false }
def FnLagEndsSaid : Prop := fnLagEndsRow.holds Try.pinned (OpenSpec.ofChange fnLagEndsSpec)

/-- ITS FALSE NEIGHBOUR: 'it returns false'. Refute it at one input. -/
def fnLagEndsWrong : ChangeSpec := { name := "fnLagEnds", fn := fun _ => fun
  | [d] => { results := [.lit (.bool false)], args := [d] }
  | _ => none }
def FnLagEndsWrongFalsely : Prop := fnLagEndsRow.holds Try.pinned (OpenSpec.ofChange fnLagEndsWrong)

/-- 'laws.FnLag': WHATEVER THE INPUT: true; the input reads as it did. -/
def fnLagSpec : ChangeSpec := { name := "fnLag", fn := fun _ => fun
  | [d] => { results := [.lit (.bool true)], args := [d] }
  | _ => none }
def fnLagRow : OpenClaim := { program := "ytfngdemjlglliaa", sum := "bd440b9326b00f800eed0d9cb323b8c027139c57243b5d8c4bcf8fe5b62d898e", func := "loop.example/icecores/laws.FnLag", spec := "fnLag", apart := false }
def FnLagSaid : Prop := fnLagRow.holds Try.pinned (OpenSpec.ofChange fnLagSpec)

/-- ITS FALSE NEIGHBOUR: 'it returns false'. Refute it at one input. -/
def fnLagWrong : ChangeSpec := { name := "fnLag", fn := fun _ => fun
  | [d] => { results := [.lit (.bool false)], args := [d] }
  | _ => none }
def FnLagWrongFalsely : Prop := fnLagRow.holds Try.pinned (OpenSpec.ofChange fnLagWrong)

/-- 'laws.FnGasDepth': WHATEVER THE INPUT: true; the input reads as it did. -/
def fnGasDepthSpec : ChangeSpec := { name := "fnGasDepth", fn := fun _ => fun
  | [d] => { results := [.lit (.bool true)], args := [d] }
  | _ => none }
def fnGasDepthRow : OpenClaim := { program := "ytfngdemjlglliaa", sum := "bd440b9326b00f800eed0d9cb323b8c027139c57243b5d8c4bcf8fe5b62d898e", func := "loop.example/icecores/laws.FnGasDepth", spec := "fnGasDepth", apart := false }
def FnGasDepthSaid : Prop := fnGasDepthRow.holds Try.pinned (OpenSpec.ofChange fnGasDepthSpec)

/-- ITS FALSE NEIGHBOUR: 'it returns false'. Refute it at one input. -/
def fnGasDepthWrong : ChangeSpec := { name := "fnGasDepth", fn := fun _ => fun
  | [d] => { results := [.lit (.bool false)], args := [d] }
  | _ => none }
def FnGasDepthWrongFalsely : Prop := fnGasDepthRow.holds Try.pinned (OpenSpec.ofChange fnGasDepthWrong)

/-- 'laws.FnExactGasLag': WHATEVER THE INPUT: true; the input reads as it did. -/
def fnExactGasLagSpec : ChangeSpec := { name := "fnExactGasLag", fn := fun _ => fun
  | [d1, d2, d3] => { results := [.lit (.bool true)], args := [d1, d2, d3] }
  | _ => none }
def fnExactGasLagRow : OpenClaim := { program := "ytfngdemjlglliaa", sum := "bd440b9326b00f800eed0d9cb323b8c027139c57243b5d8c4bcf8fe5b62d898e", func := "loop.example/icecores/laws.FnExactGasLag", spec := "fnExactGasLag", apart := false }
def FnExactGasLagSaid : Prop := fnExactGasLagRow.holds Try.pinned (OpenSpec.ofChange fnExactGasLagSpec)

/-- ITS FALSE NEIGHBOUR: 'it returns false'. Refute it at one input. -/
def fnExactGasLagWrong : ChangeSpec := { name := "fnExactGasLag", fn := fun _ => fun
  | [d1, d2, d3] => { results := [.lit (.bool false)], args := [d1, d2, d3] }
  | _ => none }
def FnExactGasLagWrongFalsely : Prop := fnExactGasLagRow.holds Try.pinned (OpenSpec.ofChange fnExactGasLagWrong)

/-- 'laws.FnExactGasDepth': WHATEVER THE INPUT: true; the input reads as it did. -/
def fnExactGasDepthSpec : ChangeSpec := { name := "fnExactGasDepth", fn := fun _ => fun
  | [d1, d2, d3] => { results := [.lit (.bool true)], args := [d1, d2, d3] }
  | _ => none }
def fnExactGasDepthRow : OpenClaim := { program := "ytfngdemjlglliaa", sum := "bd440b9326b00f800eed0d9cb323b8c027139c57243b5d8c4bcf8fe5b62d898e", func := "loop.example/icecores/laws.FnExactGasDepth", spec := "fnExactGasDepth", apart := false }
def FnExactGasDepthSaid : Prop := fnExactGasDepthRow.holds Try.pinned (OpenSpec.ofChange fnExactGasDepthSpec)

/-- ITS FALSE NEIGHBOUR: 'it returns false'. Refute it at one input. -/
def fnExactGasDepthWrong : ChangeSpec := { name := "fnExactGasDepth", fn := fun _ => fun
  | [d1, d2, d3] => { results := [.lit (.bool false)], args := [d1, d2, d3] }
  | _ => none }
def FnExactGasDepthWrongFalsely : Prop := fnExactGasDepthRow.holds Try.pinned (OpenSpec.ofChange fnExactGasDepthWrong)

/-- 'laws.FnEven': WHATEVER THE INPUT: true; the input reads as it did. -/
def fnEvenSpec : ChangeSpec := { name := "fnEven", fn := fun _ => fun
  | [d1, d2] => { results := [.lit (.bool true)], args := [d1, d2] }
  | _ => none }
def fnEvenRow : OpenClaim := { program := "ytfngdemjlglliaa", sum := "bd440b9326b00f800eed0d9cb323b8c027139c57243b5d8c4bcf8fe5b62d898e", func := "loop.example/icecores/laws.FnEven", spec := "fnEven", apart := false }
def FnEvenSaid : Prop := fnEvenRow.holds Try.pinned (OpenSpec.ofChange fnEvenSpec)

/-- ITS FALSE NEIGHBOUR: 'it returns false'. Refute it at one input. -/
def fnEvenWrong : ChangeSpec := { name := "fnEven", fn := fun _ => fun
  | [d1, d2] => { results := [.lit (.bool false)], args := [d1, d2] }
  | _ => none }
def FnEvenWrongFalsely : Prop := fnEvenRow.holds Try.pinned (OpenSpec.ofChange fnEvenWrong)

/-- 'laws.FnGasDepthUp': WHATEVER THE INPUT: true; the input reads as it did. -/
def fnGasDepthUpSpec : ChangeSpec := { name := "fnGasDepthUp", fn := fun _ => fun
  | [d1, d2] => { results := [.lit (.bool true)], args := [d1, d2] }
  | _ => none }
def fnGasDepthUpRow : OpenClaim := { program := "ytfngdemjlglliaa", sum := "bd440b9326b00f800eed0d9cb323b8c027139c57243b5d8c4bcf8fe5b62d898e", func := "loop.example/icecores/laws.FnGasDepthUp", spec := "fnGasDepthUp", apart := false }
def FnGasDepthUpSaid : Prop := fnGasDepthUpRow.holds Try.pinned (OpenSpec.ofChange fnGasDepthUpSpec)

/-- ITS FALSE NEIGHBOUR: 'it returns false'. Refute it at one input. -/
def fnGasDepthUpWrong : ChangeSpec := { name := "fnGasDepthUp", fn := fun _ => fun
  | [d1, d2] => { results := [.lit (.bool false)], args := [d1, d2] }
  | _ => none }
def FnGasDepthUpWrongFalsely : Prop := fnGasDepthUpRow.holds Try.pinned (OpenSpec.ofChange fnGasDepthUpWrong)

/- THE SECOND FORM. 'bulk': how many values and letters a reading holds, each counted each time it is reached (what is shared counts as often as it is met; a slice's spare places count too). A statement '..UptoSaid' is the law's where the arguments, and the package variables that the reading takes, are together of bulk at most 1048576: NARROWER than '..Said'. Prove '..Said' where nothing that the law and all that it calls make is longer than what came in: it says more and counts as full. Else prove '..UptoSaid'. A law counts once. -/
mutual
def uptoBulk {H : Type} : DataW H → Nat
  | .lit (.string bytes) => bytes.length + 1
  | .lit _ => 1
  | .nil => 1
  | .ptr d => uptoBulk d + 1
  | .slice elems spare => uptoBulkAll elems + uptoBulkAll spare + 1
  | .agg parts => uptoBulkAll parts + 1
  | .iface _ d => uptoBulk d + 1
  | .map entries => uptoBulkEntries entries + 1
  | .held _ => 1
def uptoBulkAll {H : Type} : List (DataW H) → Nat
  | [] => 0
  | d :: r => uptoBulk d + uptoBulkAll r
def uptoBulkEntries {H : Type} : List (Lit × DataW H) → Nat
  | [] => 0
  | x :: r => uptoBulkEntry x + uptoBulkEntries r
def uptoBulkEntry {H : Type} : Lit × DataW H → Nat
  | (.string bytes, d) => bytes.length + uptoBulk d + 1
  | (_, d) => uptoBulk d + 1
 end
def uptoSmall : (H : Type) → List (DataW H) → Bool := fun _ ds => decide (uptoBulkAll ds ≤ 1048576)
def OpenSpec.upto (s : _root_.Go.ChangeSpec) : _root_.Go.OpenSpec := { _root_.Go.OpenSpec.ofChange s with cond := some uptoSmall }

/-- 'laws.FnLagEnds', WHERE WHAT IT READS IS OF BULK AT MOST 1048576: true; the input reads as it did. -/
def fnLagEndsUptoRow : OpenClaim := { program := "ytfngdemjlglliaa", sum := "bd440b9326b00f800eed0d9cb323b8c027139c57243b5d8c4bcf8fe5b62d898e", func := "loop.example/icecores/laws.FnLagEnds", spec := "fnLagEnds", apart := false, narrowed := true }
def FnLagEndsUptoSaid : Prop := fnLagEndsUptoRow.holds Try.pinned (OpenSpec.upto fnLagEndsSpec)

/-- 'laws.FnLag', WHERE WHAT IT READS IS OF BULK AT MOST 1048576: true; the input reads as it did. -/
def fnLagUptoRow : OpenClaim := { program := "ytfngdemjlglliaa", sum := "bd440b9326b00f800eed0d9cb323b8c027139c57243b5d8c4bcf8fe5b62d898e", func := "loop.example/icecores/laws.FnLag", spec := "fnLag", apart := false, narrowed := true }
def FnLagUptoSaid : Prop := fnLagUptoRow.holds Try.pinned (OpenSpec.upto fnLagSpec)

/-- 'laws.FnGasDepth', WHERE WHAT IT READS IS OF BULK AT MOST 1048576: true; the input reads as it did. -/
def fnGasDepthUptoRow : OpenClaim := { program := "ytfngdemjlglliaa", sum := "bd440b9326b00f800eed0d9cb323b8c027139c57243b5d8c4bcf8fe5b62d898e", func := "loop.example/icecores/laws.FnGasDepth", spec := "fnGasDepth", apart := false, narrowed := true }
def FnGasDepthUptoSaid : Prop := fnGasDepthUptoRow.holds Try.pinned (OpenSpec.upto fnGasDepthSpec)

/-- 'laws.FnExactGasLag', WHERE WHAT IT READS IS OF BULK AT MOST 1048576: true; the input reads as it did. -/
def fnExactGasLagUptoRow : OpenClaim := { program := "ytfngdemjlglliaa", sum := "bd440b9326b00f800eed0d9cb323b8c027139c57243b5d8c4bcf8fe5b62d898e", func := "loop.example/icecores/laws.FnExactGasLag", spec := "fnExactGasLag", apart := false, narrowed := true }
def FnExactGasLagUptoSaid : Prop := fnExactGasLagUptoRow.holds Try.pinned (OpenSpec.upto fnExactGasLagSpec)

/-- 'laws.FnExactGasDepth', WHERE WHAT IT READS IS OF BULK AT MOST 1048576: true; the input reads as it did. -/
def fnExactGasDepthUptoRow : OpenClaim := { program := "ytfngdemjlglliaa", sum := "bd440b9326b00f800eed0d9cb323b8c027139c57243b5d8c4bcf8fe5b62d898e", func := "loop.example/icecores/laws.FnExactGasDepth", spec := "fnExactGasDepth", apart := false, narrowed := true }
def FnExactGasDepthUptoSaid : Prop := fnExactGasDepthUptoRow.holds Try.pinned (OpenSpec.upto fnExactGasDepthSpec)

/-- 'laws.FnEven', WHERE WHAT IT READS IS OF BULK AT MOST 1048576: true; the input reads as it did. -/
def fnEvenUptoRow : OpenClaim := { program := "ytfngdemjlglliaa", sum := "bd440b9326b00f800eed0d9cb323b8c027139c57243b5d8c4bcf8fe5b62d898e", func := "loop.example/icecores/laws.FnEven", spec := "fnEven", apart := false, narrowed := true }
def FnEvenUptoSaid : Prop := fnEvenUptoRow.holds Try.pinned (OpenSpec.upto fnEvenSpec)

/-- 'laws.FnGasDepthUp', WHERE WHAT IT READS IS OF BULK AT MOST 1048576: true; the input reads as it did. -/
def fnGasDepthUpUptoRow : OpenClaim := { program := "ytfngdemjlglliaa", sum := "bd440b9326b00f800eed0d9cb323b8c027139c57243b5d8c4bcf8fe5b62d898e", func := "loop.example/icecores/laws.FnGasDepthUp", spec := "fnGasDepthUp", apart := false, narrowed := true }
def FnGasDepthUpUptoSaid : Prop := fnGasDepthUpUptoRow.holds Try.pinned (OpenSpec.upto fnGasDepthUpSpec)

end Rows
end Go.Proofs.Ytfngdemjlglliaa
