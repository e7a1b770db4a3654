/-
  No cell of these rows narrows 'for every input' (looked for: loops, veiled, ifaces, maps, wideKeys, modest, calm, conditions, laid).
  DERIVED. THE GIVEN ROWS OF THIS SEAT. 12 by the template 'for every input the law returns true; each argument reads behind the call as it read before'; 0 by the template 'total and deterministic' (their statements: YthoeefbddkdbjaaTotals.lean).
  GIVEN WITH THE SEED: the statements are not yours to turn. If you find one false, say at which input.
  Laid BY PROGRAM, IN A SANDBOX (cutbox-rows.mjs): the forced cells as the released guide's own fill.sh prints them over the translation 1ffaecb7e41a9d02… (all of the seat's roots in one cut). By AI agents, Wed Nov 11 2026. No macro, syntax, notation, axiom, sorry.
-/
import Derived.Test.YthoeefbddkdbjaaChecked
import GoSem.Claim
import GoSem.ClaimJoined
import GoSem.ClaimMapViews
import Derived.JoinedTies
import Derived.KernelRfl
namespace Go.Proofs.Ythoeefbddkdbjaa
/- THE CELL 'sum', in the pinned program and in every row, IS THE sha256 OF THE DUMP (.gsa) THAT YthoeefbddkdbjaaProg.lean LOADS. Nothing in Lean hashes anything: it is a label: what it is worth is what the hold of that sum in a sandbox is worth. -/
noncomputable def Try.pinned : Pinned := { name := "ythoeefbddkdbjaa", sum := "1ffaecb7e41a9d02170bbd751ddefe25ba6b23bc9c83d68d0072f87d6b4cf35a", checked := Try.checked }
namespace Rows
def none {H : Type} : Left H := { results := [], args := [] }

/-- 'laws.FnExactFirnValid': WHATEVER THE INPUT: true; the input reads as it did. -/
def fnExactFirnValidSpec : ChangeSpec := { name := "fnExactFirnValid", fn := fun _ => fun
  | [d] => { results := [.lit (.bool true)], args := [d] }
  | _ => none }
def fnExactFirnValidRow : OpenClaim := { program := "ythoeefbddkdbjaa", sum := "1ffaecb7e41a9d02170bbd751ddefe25ba6b23bc9c83d68d0072f87d6b4cf35a", func := "loop.example/icecores/laws.FnExactFirnValid", spec := "fnExactFirnValid", apart := false }
def FnExactFirnValidSaid : Prop := fnExactFirnValidRow.holds Try.pinned (OpenSpec.ofChange fnExactFirnValidSpec)

/-- ITS FALSE NEIGHBOUR: 'it returns false'. Refute it at one input. -/
def fnExactFirnValidWrong : ChangeSpec := { name := "fnExactFirnValid", fn := fun _ => fun
  | [d] => { results := [.lit (.bool false)], args := [d] }
  | _ => none }
def FnExactFirnValidWrongFalsely : Prop := fnExactFirnValidRow.holds Try.pinned (OpenSpec.ofChange fnExactFirnValidWrong)

/-- 'laws.FnFirn': WHATEVER THE INPUT: true; the input reads as it did. -/
def fnFirnSpec : ChangeSpec := { name := "fnFirn", fn := fun _ => fun
  | [d1, d2] => { results := [.lit (.bool true)], args := [d1, d2] }
  | _ => none }
def fnFirnRow : OpenClaim := { program := "ythoeefbddkdbjaa", sum := "1ffaecb7e41a9d02170bbd751ddefe25ba6b23bc9c83d68d0072f87d6b4cf35a", func := "loop.example/icecores/laws.FnFirn", spec := "fnFirn", apart := false }
def FnFirnSaid : Prop := fnFirnRow.holds Try.pinned (OpenSpec.ofChange fnFirnSpec)

/-- ITS FALSE NEIGHBOUR: 'it returns false'. Refute it at one input. -/
def fnFirnWrong : ChangeSpec := { name := "fnFirn", fn := fun _ => fun
  | [d1, d2] => { results := [.lit (.bool false)], args := [d1, d2] }
  | _ => none }
def FnFirnWrongFalsely : Prop := fnFirnRow.holds Try.pinned (OpenSpec.ofChange fnFirnWrong)

/-- 'laws.FnThickFirn': WHATEVER THE INPUT: true; the input reads as it did. -/
def fnThickFirnSpec : ChangeSpec := { name := "fnThickFirn", fn := fun _ => fun
  | [d1, d2] => { results := [.lit (.bool true)], args := [d1, d2] }
  | _ => none }
def fnThickFirnRow : OpenClaim := { program := "ythoeefbddkdbjaa", sum := "1ffaecb7e41a9d02170bbd751ddefe25ba6b23bc9c83d68d0072f87d6b4cf35a", func := "loop.example/icecores/laws.FnThickFirn", spec := "fnThickFirn", apart := false }
def FnThickFirnSaid : Prop := fnThickFirnRow.holds Try.pinned (OpenSpec.ofChange fnThickFirnSpec)

/-- ITS FALSE NEIGHBOUR: 'it returns false'. Refute it at one input. -/
def fnThickFirnWrong : ChangeSpec := { name := "fnThickFirn", fn := fun _ => fun
  | [d1, d2] => { results := [.lit (.bool false)], args := [d1, d2] }
  | _ => none }
def FnThickFirnWrongFalsely : Prop := fnThickFirnRow.holds Try.pinned (OpenSpec.ofChange fnThickFirnWrong)

/-- 'laws.FnSolid': WHATEVER THE INPUT: true; the input reads as it did. -/
def fnSolidSpec : ChangeSpec := { name := "fnSolid", fn := fun _ => fun
  | [d] => { results := [.lit (.bool true)], args := [d] }
  | _ => none }
def fnSolidRow : OpenClaim := { program := "ythoeefbddkdbjaa", sum := "1ffaecb7e41a9d02170bbd751ddefe25ba6b23bc9c83d68d0072f87d6b4cf35a", func := "loop.example/icecores/laws.FnSolid", spec := "fnSolid", apart := false }
def FnSolidSaid : Prop := fnSolidRow.holds Try.pinned (OpenSpec.ofChange fnSolidSpec)

/-- ITS FALSE NEIGHBOUR: 'it returns false'. Refute it at one input. -/
def fnSolidWrong : ChangeSpec := { name := "fnSolid", fn := fun _ => fun
  | [d] => { results := [.lit (.bool false)], args := [d] }
  | _ => none }
def FnSolidWrongFalsely : Prop := fnSolidRow.holds Try.pinned (OpenSpec.ofChange fnSolidWrong)

/-- 'laws.FnSolidNone': WHATEVER THE INPUT: true; the input reads as it did. -/
def fnSolidNoneSpec : ChangeSpec := { name := "fnSolidNone", fn := fun _ => fun
  | [d] => { results := [.lit (.bool true)], args := [d] }
  | _ => none }
def fnSolidNoneRow : OpenClaim := { program := "ythoeefbddkdbjaa", sum := "1ffaecb7e41a9d02170bbd751ddefe25ba6b23bc9c83d68d0072f87d6b4cf35a", func := "loop.example/icecores/laws.FnSolidNone", spec := "fnSolidNone", apart := false }
def FnSolidNoneSaid : Prop := fnSolidNoneRow.holds Try.pinned (OpenSpec.ofChange fnSolidNoneSpec)

/-- ITS FALSE NEIGHBOUR: 'it returns false'. Refute it at one input. -/
def fnSolidNoneWrong : ChangeSpec := { name := "fnSolidNone", fn := fun _ => fun
  | [d] => { results := [.lit (.bool false)], args := [d] }
  | _ => none }
def FnSolidNoneWrongFalsely : Prop := fnSolidNoneRow.holds Try.pinned (OpenSpec.ofChange fnSolidNoneWrong)

/-- 'laws.FnExactFirnSolid': WHATEVER THE INPUT: true; the input reads as it did. -/
def fnExactFirnSolidSpec : ChangeSpec := { name := "fnExactFirnSolid", fn := fun _ => fun
  | [d1, d2] => { results := [.lit (.bool true)], args := [d1, d2] }
  | _ => none }
def fnExactFirnSolidRow : OpenClaim := { program := "ythoeefbddkdbjaa", sum := "1ffaecb7e41a9d02170bbd751ddefe25ba6b23bc9c83d68d0072f87d6b4cf35a", func := "loop.example/icecores/laws.FnExactFirnSolid", spec := "fnExactFirnSolid", apart := false }
def FnExactFirnSolidSaid : Prop := fnExactFirnSolidRow.holds Try.pinned (OpenSpec.ofChange fnExactFirnSolidSpec)

/-- ITS FALSE NEIGHBOUR: 'it returns false'. Refute it at one input. -/
def fnExactFirnSolidWrong : ChangeSpec := { name := "fnExactFirnSolid", fn := fun _ => fun
  | [d1, d2] => { results := [.lit (.bool false)], args := [d1, d2] }
  | _ => none }
def FnExactFirnSolidWrongFalsely : Prop := fnExactFirnSolidRow.holds Try.pinned (OpenSpec.ofChange fnExactFirnSolidWrong)

/-- 'laws.FnExactFirnThick': WHATEVER THE INPUT: true; the input reads as it did. -/
def fnExactFirnThickSpec : ChangeSpec := { name := "fnExactFirnThick", fn := fun _ => fun
  | [d] => { results := [.lit (.bool true)], args := [d] }
  | _ => none }
def fnExactFirnThickRow : OpenClaim := { program := "ythoeefbddkdbjaa", sum := "1ffaecb7e41a9d02170bbd751ddefe25ba6b23bc9c83d68d0072f87d6b4cf35a", func := "loop.example/icecores/laws.FnExactFirnThick", spec := "fnExactFirnThick", apart := false }
def FnExactFirnThickSaid : Prop := fnExactFirnThickRow.holds Try.pinned (OpenSpec.ofChange fnExactFirnThickSpec)

/-- ITS FALSE NEIGHBOUR: 'it returns false'. Refute it at one input. -/
def fnExactFirnThickWrong : ChangeSpec := { name := "fnExactFirnThick", fn := fun _ => fun
  | [d] => { results := [.lit (.bool false)], args := [d] }
  | _ => none }
def FnExactFirnThickWrongFalsely : Prop := fnExactFirnThickRow.holds Try.pinned (OpenSpec.ofChange fnExactFirnThickWrong)

/-- 'laws.FnExactFirnMass': WHATEVER THE INPUT: true; the input reads as it did. -/
def fnExactFirnMassSpec : ChangeSpec := { name := "fnExactFirnMass", fn := fun _ => fun
  | [d] => { results := [.lit (.bool true)], args := [d] }
  | _ => none }
def fnExactFirnMassRow : OpenClaim := { program := "ythoeefbddkdbjaa", sum := "1ffaecb7e41a9d02170bbd751ddefe25ba6b23bc9c83d68d0072f87d6b4cf35a", func := "loop.example/icecores/laws.FnExactFirnMass", spec := "fnExactFirnMass", apart := false }
def FnExactFirnMassSaid : Prop := fnExactFirnMassRow.holds Try.pinned (OpenSpec.ofChange fnExactFirnMassSpec)

/-- ITS FALSE NEIGHBOUR: 'it returns false'. Refute it at one input. -/
def fnExactFirnMassWrong : ChangeSpec := { name := "fnExactFirnMass", fn := fun _ => fun
  | [d] => { results := [.lit (.bool false)], args := [d] }
  | _ => none }
def FnExactFirnMassWrongFalsely : Prop := fnExactFirnMassRow.holds Try.pinned (OpenSpec.ofChange fnExactFirnMassWrong)

/-- 'laws.FnMass': WHATEVER THE INPUT: true; the input reads as it did. -/
def fnMassSpec : ChangeSpec := { name := "fnMass", fn := fun _ => fun
  | [d1, d2] => { results := [.lit (.bool true)], args := [d1, d2] }
  | _ => none }
def fnMassRow : OpenClaim := { program := "ythoeefbddkdbjaa", sum := "1ffaecb7e41a9d02170bbd751ddefe25ba6b23bc9c83d68d0072f87d6b4cf35a", func := "loop.example/icecores/laws.FnMass", spec := "fnMass", apart := false }
def FnMassSaid : Prop := fnMassRow.holds Try.pinned (OpenSpec.ofChange fnMassSpec)

/-- ITS FALSE NEIGHBOUR: 'it returns false'. Refute it at one input. -/
def fnMassWrong : ChangeSpec := { name := "fnMass", fn := fun _ => fun
  | [d1, d2] => { results := [.lit (.bool false)], args := [d1, d2] }
  | _ => none }
def FnMassWrongFalsely : Prop := fnMassRow.holds Try.pinned (OpenSpec.ofChange fnMassWrong)

/-- 'laws.FnMassSlab': WHATEVER THE INPUT: true; the input reads as it did. -/
def fnMassSlabSpec : ChangeSpec := { name := "fnMassSlab", fn := fun _ => fun
  | [d] => { results := [.lit (.bool true)], args := [d] }
  | _ => none }
def fnMassSlabRow : OpenClaim := { program := "ythoeefbddkdbjaa", sum := "1ffaecb7e41a9d02170bbd751ddefe25ba6b23bc9c83d68d0072f87d6b4cf35a", func := "loop.example/icecores/laws.FnMassSlab", spec := "fnMassSlab", apart := false }
def FnMassSlabSaid : Prop := fnMassSlabRow.holds Try.pinned (OpenSpec.ofChange fnMassSlabSpec)

/-- ITS FALSE NEIGHBOUR: 'it returns false'. Refute it at one input. -/
def fnMassSlabWrong : ChangeSpec := { name := "fnMassSlab", fn := fun _ => fun
  | [d] => { results := [.lit (.bool false)], args := [d] }
  | _ => none }
def FnMassSlabWrongFalsely : Prop := fnMassSlabRow.holds Try.pinned (OpenSpec.ofChange fnMassSlabWrong)

/-- 'laws.FnExactFirnAbove': WHATEVER THE INPUT: true; the input reads as it did. -/
def fnExactFirnAboveSpec : ChangeSpec := { name := "fnExactFirnAbove", fn := fun _ => fun
  | [d1, d2] => { results := [.lit (.bool true)], args := [d1, d2] }
  | _ => none }
def fnExactFirnAboveRow : OpenClaim := { program := "ythoeefbddkdbjaa", sum := "1ffaecb7e41a9d02170bbd751ddefe25ba6b23bc9c83d68d0072f87d6b4cf35a", func := "loop.example/icecores/laws.FnExactFirnAbove", spec := "fnExactFirnAbove", apart := false }
def FnExactFirnAboveSaid : Prop := fnExactFirnAboveRow.holds Try.pinned (OpenSpec.ofChange fnExactFirnAboveSpec)

/-- ITS FALSE NEIGHBOUR: 'it returns false'. Refute it at one input. -/
def fnExactFirnAboveWrong : ChangeSpec := { name := "fnExactFirnAbove", fn := fun _ => fun
  | [d1, d2] => { results := [.lit (.bool false)], args := [d1, d2] }
  | _ => none }
def FnExactFirnAboveWrongFalsely : Prop := fnExactFirnAboveRow.holds Try.pinned (OpenSpec.ofChange fnExactFirnAboveWrong)

/-- 'laws.FnExactFirnDepth': WHATEVER THE INPUT: true; the input reads as it did. -/
def fnExactFirnDepthSpec : ChangeSpec := { name := "fnExactFirnDepth", fn := fun _ => fun
  | [d1, d2] => { results := [.lit (.bool true)], args := [d1, d2] }
  | _ => none }
def fnExactFirnDepthRow : OpenClaim := { program := "ythoeefbddkdbjaa", sum := "1ffaecb7e41a9d02170bbd751ddefe25ba6b23bc9c83d68d0072f87d6b4cf35a", func := "loop.example/icecores/laws.FnExactFirnDepth", spec := "fnExactFirnDepth", apart := false }
def FnExactFirnDepthSaid : Prop := fnExactFirnDepthRow.holds Try.pinned (OpenSpec.ofChange fnExactFirnDepthSpec)

/-- ITS FALSE NEIGHBOUR: 'it returns false'. Refute it at one input. -/
def fnExactFirnDepthWrong : ChangeSpec := { name := "fnExactFirnDepth", fn := fun _ => fun
  | [d1, d2] => { results := [.lit (.bool false)], args := [d1, d2] }
  | _ => none }
def FnExactFirnDepthWrongFalsely : Prop := fnExactFirnDepthRow.holds Try.pinned (OpenSpec.ofChange fnExactFirnDepthWrong)

/- THE SECOND FORM. 'bulk': how many values and letters a reading holds, each counted each time it is reached (what is shared counts as often as it is met; a slice's spare places count too). A statement '..UptoSaid' is the law's where the arguments, and the package variables that the reading takes, are together of bulk at most 1048576: NARROWER than '..Said'. Prove '..Said' where nothing that the law and all that it calls make is longer than what came in: it says more and counts as full. Else prove '..UptoSaid'. A law counts once. -/
mutual
def uptoBulk {H : Type} : DataW H → Nat
  | .lit (.string bytes) => bytes.length + 1
  | .lit _ => 1
  | .nil => 1
  | .ptr d => uptoBulk d + 1
  | .slice elems spare => uptoBulkAll elems + uptoBulkAll spare + 1
  | .agg parts => uptoBulkAll parts + 1
  | .iface _ d => uptoBulk d + 1
  | .map entries => uptoBulkEntries entries + 1
  | .held _ => 1
def uptoBulkAll {H : Type} : List (DataW H) → Nat
  | [] => 0
  | d :: r => uptoBulk d + uptoBulkAll r
def uptoBulkEntries {H : Type} : List (Lit × DataW H) → Nat
  | [] => 0
  | x :: r => uptoBulkEntry x + uptoBulkEntries r
def uptoBulkEntry {H : Type} : Lit × DataW H → Nat
  | (.string bytes, d) => bytes.length + uptoBulk d + 1
  | (_, d) => uptoBulk d + 1
 end
def uptoSmall : (H : Type) → List (DataW H) → Bool := fun _ ds => decide (uptoBulkAll ds ≤ 1048576)
def OpenSpec.upto (s : _root_.Go.ChangeSpec) : _root_.Go.OpenSpec := { _root_.Go.OpenSpec.ofChange s with cond := some uptoSmall }

/-- 'laws.FnExactFirnValid', WHERE WHAT IT READS IS OF BULK AT MOST 1048576: true; the input reads as it did. -/
def fnExactFirnValidUptoRow : OpenClaim := { program := "ythoeefbddkdbjaa", sum := "1ffaecb7e41a9d02170bbd751ddefe25ba6b23bc9c83d68d0072f87d6b4cf35a", func := "loop.example/icecores/laws.FnExactFirnValid", spec := "fnExactFirnValid", apart := false, narrowed := true }
def FnExactFirnValidUptoSaid : Prop := fnExactFirnValidUptoRow.holds Try.pinned (OpenSpec.upto fnExactFirnValidSpec)

/-- 'laws.FnFirn', WHERE WHAT IT READS IS OF BULK AT MOST 1048576: true; the input reads as it did. -/
def fnFirnUptoRow : OpenClaim := { program := "ythoeefbddkdbjaa", sum := "1ffaecb7e41a9d02170bbd751ddefe25ba6b23bc9c83d68d0072f87d6b4cf35a", func := "loop.example/icecores/laws.FnFirn", spec := "fnFirn", apart := false, narrowed := true }
def FnFirnUptoSaid : Prop := fnFirnUptoRow.holds Try.pinned (OpenSpec.upto fnFirnSpec)

/-- 'laws.FnThickFirn', WHERE WHAT IT READS IS OF BULK AT MOST 1048576: true; the input reads as it did. -/
def fnThickFirnUptoRow : OpenClaim := { program := "ythoeefbddkdbjaa", sum := "1ffaecb7e41a9d02170bbd751ddefe25ba6b23bc9c83d68d0072f87d6b4cf35a", func := "loop.example/icecores/laws.FnThickFirn", spec := "fnThickFirn", apart := false, narrowed := true }
def FnThickFirnUptoSaid : Prop := fnThickFirnUptoRow.holds Try.pinned (OpenSpec.upto fnThickFirnSpec)

/-- 'laws.FnSolid', WHERE WHAT IT READS IS OF BULK AT MOST 1048576: true; the input reads as it did. -/
def fnSolidUptoRow : OpenClaim := { program := "ythoeefbddkdbjaa", sum := "1ffaecb7e41a9d02170bbd751ddefe25ba6b23bc9c83d68d0072f87d6b4cf35a", func := "loop.example/icecores/laws.FnSolid", spec := "fnSolid", apart := false, narrowed := true }
def FnSolidUptoSaid : Prop := fnSolidUptoRow.holds Try.pinned (OpenSpec.upto fnSolidSpec)

/-- 'laws.FnSolidNone', WHERE WHAT IT READS IS OF BULK AT MOST 1048576: true; the input reads as it did. -/
def fnSolidNoneUptoRow : OpenClaim := { program := "ythoeefbddkdbjaa", sum := "1ffaecb7e41a9d02170bbd751ddefe25ba6b23bc9c83d68d0072f87d6b4cf35a", func := "loop.example/icecores/laws.FnSolidNone", spec := "fnSolidNone", apart := false, narrowed := true }
def FnSolidNoneUptoSaid : Prop := fnSolidNoneUptoRow.holds Try.pinned (OpenSpec.upto fnSolidNoneSpec)

/-- 'laws.FnExactFirnSolid', WHERE WHAT IT READS IS OF BULK AT MOST 1048576: true; the input reads as it did. -/
def fnExactFirnSolidUptoRow : OpenClaim := { program := "ythoeefbddkdbjaa", sum := "1ffaecb7e41a9d02170bbd751ddefe25ba6b23bc9c83d68d0072f87d6b4cf35a", func := "loop.example/icecores/laws.FnExactFirnSolid", spec := "fnExactFirnSolid", apart := false, narrowed := true }
def FnExactFirnSolidUptoSaid : Prop := fnExactFirnSolidUptoRow.holds Try.pinned (OpenSpec.upto fnExactFirnSolidSpec)

/-- 'laws.FnExactFirnThick', WHERE WHAT IT READS IS OF BULK AT MOST 1048576: true; the input reads as it did. -/
def fnExactFirnThickUptoRow : OpenClaim := { program := "ythoeefbddkdbjaa", sum := "1ffaecb7e41a9d02170bbd751ddefe25ba6b23bc9c83d68d0072f87d6b4cf35a", func := "loop.example/icecores/laws.FnExactFirnThick", spec := "fnExactFirnThick", apart := false, narrowed := true }
def FnExactFirnThickUptoSaid : Prop := fnExactFirnThickUptoRow.holds Try.pinned (OpenSpec.upto fnExactFirnThickSpec)

/-- 'laws.FnExactFirnMass', WHERE WHAT IT READS IS OF BULK AT MOST 1048576: true; the input reads as it did. -/
def fnExactFirnMassUptoRow : OpenClaim := { program := "ythoeefbddkdbjaa", sum := "1ffaecb7e41a9d02170bbd751ddefe25ba6b23bc9c83d68d0072f87d6b4cf35a", func := "loop.example/icecores/laws.FnExactFirnMass", spec := "fnExactFirnMass", apart := false, narrowed := true }
def FnExactFirnMassUptoSaid : Prop := fnExactFirnMassUptoRow.holds Try.pinned (OpenSpec.upto fnExactFirnMassSpec)

/-- 'laws.FnMass', WHERE WHAT IT READS IS OF BULK AT MOST 1048576: true; the input reads as it did. -/
def fnMassUptoRow : OpenClaim := { program := "ythoeefbddkdbjaa", sum := "1ffaecb7e41a9d02170bbd751ddefe25ba6b23bc9c83d68d0072f87d6b4cf35a", func := "loop.example/icecores/laws.FnMass", spec := "fnMass", apart := false, narrowed := true }
def FnMassUptoSaid : Prop := fnMassUptoRow.holds Try.pinned (OpenSpec.upto fnMassSpec)

/-- 'laws.FnMassSlab', WHERE WHAT IT READS IS OF BULK AT MOST 1048576: true; the input reads as it did. -/
def fnMassSlabUptoRow : OpenClaim := { program := "ythoeefbddkdbjaa", sum := "1ffaecb7e41a9d02170bbd751ddefe25ba6b23bc9c83d68d0072f87d6b4cf35a", func := "loop.example/icecores/laws.FnMassSlab", spec := "fnMassSlab", apart := false, narrowed := true }
def FnMassSlabUptoSaid : Prop := fnMassSlabUptoRow.holds Try.pinned (OpenSpec.upto fnMassSlabSpec)

/-- 'laws.FnExactFirnAbove', WHERE WHAT IT READS IS OF BULK AT MOST 1048576: true; the input reads as it did. -/
def fnExactFirnAboveUptoRow : OpenClaim := { program := "ythoeefbddkdbjaa", sum := "1ffaecb7e41a9d02170bbd751ddefe25ba6b23bc9c83d68d0072f87d6b4cf35a", func := "loop.example/icecores/laws.FnExactFirnAbove", spec := "fnExactFirnAbove", apart := false, narrowed := true }
def FnExactFirnAboveUptoSaid : Prop := fnExactFirnAboveUptoRow.holds Try.pinned (OpenSpec.upto fnExactFirnAboveSpec)

/-- 'laws.FnExactFirnDepth', WHERE WHAT IT READS IS OF BULK AT MOST 1048576: true; the input reads as it did. -/
def fnExactFirnDepthUptoRow : OpenClaim := { program := "ythoeefbddkdbjaa", sum := "1ffaecb7e41a9d02170bbd751ddefe25ba6b23bc9c83d68d0072f87d6b4cf35a", func := "loop.example/icecores/laws.FnExactFirnDepth", spec := "fnExactFirnDepth", apart := false, narrowed := true }
def FnExactFirnDepthUptoSaid : Prop := fnExactFirnDepthUptoRow.holds Try.pinned (OpenSpec.upto fnExactFirnDepthSpec)

end Rows
end Go.Proofs.Ythoeefbddkdbjaa
