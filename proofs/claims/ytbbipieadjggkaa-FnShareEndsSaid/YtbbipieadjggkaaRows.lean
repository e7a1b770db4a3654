/-
  No cell of these rows narrows 'for every input' (looked for: loops, veiled, ifaces, maps, wideKeys, modest, calm, conditions, laid).
  DERIVED. THE GIVEN ROWS OF THIS SEAT. 12 by the template 'for every input the law returns true; each argument reads behind the call as it read before'; 0 by the template 'total and deterministic' (their statements: YtbbipieadjggkaaTotals.lean).
  GIVEN WITH THE SEED: the statements are not yours to turn. If you find one false, say at which input.
  Laid BY PROGRAM, IN A SANDBOX (cutbox-rows.mjs): the forced cells as the released guide's own fill.sh prints them over the translation a99ff602a9344b4c… (all of the seat's roots in one cut). By AI agents, Wed Nov 11 2026. No macro, syntax, notation, axiom, sorry.
-/
import Derived.Test.YtbbipieadjggkaaChecked
import GoSem.Claim
import GoSem.ClaimJoined
import GoSem.ClaimMapViews
import Derived.JoinedTies
import Derived.KernelRfl
namespace Go.Proofs.Ytbbipieadjggkaa
/- THE CELL 'sum', in the pinned program and in every row, IS THE sha256 OF THE DUMP (.gsa) THAT YtbbipieadjggkaaProg.lean LOADS. Nothing in Lean hashes anything: it is a label: what it is worth is what the hold of that sum in a sandbox is worth. -/
noncomputable def Try.pinned : Pinned := { name := "ytbbipieadjggkaa", sum := "a99ff602a9344b4c0334f78d267d67d17f9e9742f93f4471a2ce698991718bee", checked := Try.checked }
namespace Rows
def none {H : Type} : Left H := { results := [], args := [] }

/-- 'laws.FnDeltaMore': WHATEVER THE INPUT: true; the input reads as it did. -/
def fnDeltaMoreSpec : ChangeSpec := { name := "fnDeltaMore", fn := fun _ => fun
  | [d] => { results := [.lit (.bool true)], args := [d] }
  | _ => none }
def fnDeltaMoreRow : OpenClaim := { program := "ytbbipieadjggkaa", sum := "a99ff602a9344b4c0334f78d267d67d17f9e9742f93f4471a2ce698991718bee", func := "loop.example/icecores/laws.FnDeltaMore", spec := "fnDeltaMore", apart := false }
def FnDeltaMoreSaid : Prop := fnDeltaMoreRow.holds Try.pinned (OpenSpec.ofChange fnDeltaMoreSpec)

/-- ITS FALSE NEIGHBOUR: 'it returns false'. Refute it at one input. -/
def fnDeltaMoreWrong : ChangeSpec := { name := "fnDeltaMore", fn := fun _ => fun
  | [d] => { results := [.lit (.bool false)], args := [d] }
  | _ => none }
def FnDeltaMoreWrongFalsely : Prop := fnDeltaMoreRow.holds Try.pinned (OpenSpec.ofChange fnDeltaMoreWrong)

/-- 'laws.FnSteps': WHATEVER THE INPUT: true; the input reads as it did. -/
def fnStepsSpec : ChangeSpec := { name := "fnSteps", fn := fun _ => fun
  | [d] => { results := [.lit (.bool true)], args := [d] }
  | _ => none }
def fnStepsRow : OpenClaim := { program := "ytbbipieadjggkaa", sum := "a99ff602a9344b4c0334f78d267d67d17f9e9742f93f4471a2ce698991718bee", func := "loop.example/icecores/laws.FnSteps", spec := "fnSteps", apart := false }
def FnStepsSaid : Prop := fnStepsRow.holds Try.pinned (OpenSpec.ofChange fnStepsSpec)

/-- ITS FALSE NEIGHBOUR: 'it returns false'. Refute it at one input. -/
def fnStepsWrong : ChangeSpec := { name := "fnSteps", fn := fun _ => fun
  | [d] => { results := [.lit (.bool false)], args := [d] }
  | _ => none }
def FnStepsWrongFalsely : Prop := fnStepsRow.holds Try.pinned (OpenSpec.ofChange fnStepsWrong)

/-- 'laws.FnStepsParts': WHATEVER THE INPUT: true; the input reads as it did. -/
def fnStepsPartsSpec : ChangeSpec := { name := "fnStepsParts", fn := fun _ => fun
  | [d1, d2] => { results := [.lit (.bool true)], args := [d1, d2] }
  | _ => none }
def fnStepsPartsRow : OpenClaim := { program := "ytbbipieadjggkaa", sum := "a99ff602a9344b4c0334f78d267d67d17f9e9742f93f4471a2ce698991718bee", func := "loop.example/icecores/laws.FnStepsParts", spec := "fnStepsParts", apart := false }
def FnStepsPartsSaid : Prop := fnStepsPartsRow.holds Try.pinned (OpenSpec.ofChange fnStepsPartsSpec)

/-- ITS FALSE NEIGHBOUR: 'it returns false'. Refute it at one input. -/
def fnStepsPartsWrong : ChangeSpec := { name := "fnStepsParts", fn := fun _ => fun
  | [d1, d2] => { results := [.lit (.bool false)], args := [d1, d2] }
  | _ => none }
def FnStepsPartsWrongFalsely : Prop := fnStepsPartsRow.holds Try.pinned (OpenSpec.ofChange fnStepsPartsWrong)

/-- 'laws.FnStepsNone': WHATEVER THE INPUT: true; the input reads as it did. -/
def fnStepsNoneSpec : ChangeSpec := { name := "fnStepsNone", fn := fun _ => fun
  | [d] => { results := [.lit (.bool true)], args := [d] }
  | _ => none }
def fnStepsNoneRow : OpenClaim := { program := "ytbbipieadjggkaa", sum := "a99ff602a9344b4c0334f78d267d67d17f9e9742f93f4471a2ce698991718bee", func := "loop.example/icecores/laws.FnStepsNone", spec := "fnStepsNone", apart := false }
def FnStepsNoneSaid : Prop := fnStepsNoneRow.holds Try.pinned (OpenSpec.ofChange fnStepsNoneSpec)

/-- ITS FALSE NEIGHBOUR: 'it returns false'. Refute it at one input. -/
def fnStepsNoneWrong : ChangeSpec := { name := "fnStepsNone", fn := fun _ => fun
  | [d] => { results := [.lit (.bool false)], args := [d] }
  | _ => none }
def FnStepsNoneWrongFalsely : Prop := fnStepsNoneRow.holds Try.pinned (OpenSpec.ofChange fnStepsNoneWrong)

/-- 'laws.FnDelta': WHATEVER THE INPUT: true; the input reads as it did. -/
def fnDeltaSpec : ChangeSpec := { name := "fnDelta", fn := fun _ => fun
  | [d] => { results := [.lit (.bool true)], args := [d] }
  | _ => none }
def fnDeltaRow : OpenClaim := { program := "ytbbipieadjggkaa", sum := "a99ff602a9344b4c0334f78d267d67d17f9e9742f93f4471a2ce698991718bee", func := "loop.example/icecores/laws.FnDelta", spec := "fnDelta", apart := false }
def FnDeltaSaid : Prop := fnDeltaRow.holds Try.pinned (OpenSpec.ofChange fnDeltaSpec)

/-- ITS FALSE NEIGHBOUR: 'it returns false'. Refute it at one input. -/
def fnDeltaWrong : ChangeSpec := { name := "fnDelta", fn := fun _ => fun
  | [d] => { results := [.lit (.bool false)], args := [d] }
  | _ => none }
def FnDeltaWrongFalsely : Prop := fnDeltaRow.holds Try.pinned (OpenSpec.ofChange fnDeltaWrong)

/-- 'laws.FnDeltaStandard': WHATEVER THE INPUT: true; the input reads as it did. -/
def fnDeltaStandardSpec : ChangeSpec := { name := "fnDeltaStandard", fn := fun _ => fun
  | [d] => { results := [.lit (.bool true)], args := [d] }
  | _ => none }
def fnDeltaStandardRow : OpenClaim := { program := "ytbbipieadjggkaa", sum := "a99ff602a9344b4c0334f78d267d67d17f9e9742f93f4471a2ce698991718bee", func := "loop.example/icecores/laws.FnDeltaStandard", spec := "fnDeltaStandard", apart := false }
def FnDeltaStandardSaid : Prop := fnDeltaStandardRow.holds Try.pinned (OpenSpec.ofChange fnDeltaStandardSpec)

/-- ITS FALSE NEIGHBOUR: 'it returns false'. Refute it at one input. -/
def fnDeltaStandardWrong : ChangeSpec := { name := "fnDeltaStandard", fn := fun _ => fun
  | [d] => { results := [.lit (.bool false)], args := [d] }
  | _ => none }
def FnDeltaStandardWrongFalsely : Prop := fnDeltaStandardRow.holds Try.pinned (OpenSpec.ofChange fnDeltaStandardWrong)

/-- 'laws.FnStepsBack': WHATEVER THE INPUT: true; the input reads as it did. -/
def fnStepsBackSpec : ChangeSpec := { name := "fnStepsBack", fn := fun _ => fun
  | [d] => { results := [.lit (.bool true)], args := [d] }
  | _ => none }
def fnStepsBackRow : OpenClaim := { program := "ytbbipieadjggkaa", sum := "a99ff602a9344b4c0334f78d267d67d17f9e9742f93f4471a2ce698991718bee", func := "loop.example/icecores/laws.FnStepsBack", spec := "fnStepsBack", apart := false }
def FnStepsBackSaid : Prop := fnStepsBackRow.holds Try.pinned (OpenSpec.ofChange fnStepsBackSpec)

/-- ITS FALSE NEIGHBOUR: 'it returns false'. Refute it at one input. -/
def fnStepsBackWrong : ChangeSpec := { name := "fnStepsBack", fn := fun _ => fun
  | [d] => { results := [.lit (.bool false)], args := [d] }
  | _ => none }
def FnStepsBackWrongFalsely : Prop := fnStepsBackRow.holds Try.pinned (OpenSpec.ofChange fnStepsBackWrong)

/-- 'laws.FnDeltaBack': WHATEVER THE INPUT: true; the input reads as it did. -/
def fnDeltaBackSpec : ChangeSpec := { name := "fnDeltaBack", fn := fun _ => fun
  | [d] => { results := [.lit (.bool true)], args := [d] }
  | _ => none }
def fnDeltaBackRow : OpenClaim := { program := "ytbbipieadjggkaa", sum := "a99ff602a9344b4c0334f78d267d67d17f9e9742f93f4471a2ce698991718bee", func := "loop.example/icecores/laws.FnDeltaBack", spec := "fnDeltaBack", apart := false }
def FnDeltaBackSaid : Prop := fnDeltaBackRow.holds Try.pinned (OpenSpec.ofChange fnDeltaBackSpec)

/-- ITS FALSE NEIGHBOUR: 'it returns false'. Refute it at one input. -/
def fnDeltaBackWrong : ChangeSpec := { name := "fnDeltaBack", fn := fun _ => fun
  | [d] => { results := [.lit (.bool false)], args := [d] }
  | _ => none }
def FnDeltaBackWrongFalsely : Prop := fnDeltaBackRow.holds Try.pinned (OpenSpec.ofChange fnDeltaBackWrong)

/-- 'laws.FnShareTwice': WHATEVER THE INPUT: true; the input reads as it did. -/
def fnShareTwiceSpec : ChangeSpec := { name := "fnShareTwice", fn := fun _ => fun
  | [d] => { results := [.lit (.bool true)], args := [d] }
  | _ => none }
def fnShareTwiceRow : OpenClaim := { program := "ytbbipieadjggkaa", sum := "a99ff602a9344b4c0334f78d267d67d17f9e9742f93f4471a2ce698991718bee", func := "loop.example/icecores/laws.FnShareTwice", spec := "fnShareTwice", apart := false }
def FnShareTwiceSaid : Prop := fnShareTwiceRow.holds Try.pinned (OpenSpec.ofChange fnShareTwiceSpec)

/-- ITS FALSE NEIGHBOUR: 'it returns false'. Refute it at one input. -/
def fnShareTwiceWrong : ChangeSpec := { name := "fnShareTwice", fn := fun _ => fun
  | [d] => { results := [.lit (.bool false)], args := [d] }
  | _ => none }
def FnShareTwiceWrongFalsely : Prop := fnShareTwiceRow.holds Try.pinned (OpenSpec.ofChange fnShareTwiceWrong)

/-- 'laws.FnShare': WHATEVER THE INPUT: true; the input reads as it did. -/
def fnShareSpec : ChangeSpec := { name := "fnShare", fn := fun _ => fun
  | [d] => { results := [.lit (.bool true)], args := [d] }
  | _ => none }
def fnShareRow : OpenClaim := { program := "ytbbipieadjggkaa", sum := "a99ff602a9344b4c0334f78d267d67d17f9e9742f93f4471a2ce698991718bee", func := "loop.example/icecores/laws.FnShare", spec := "fnShare", apart := false }
def FnShareSaid : Prop := fnShareRow.holds Try.pinned (OpenSpec.ofChange fnShareSpec)

/-- ITS FALSE NEIGHBOUR: 'it returns false'. Refute it at one input. -/
def fnShareWrong : ChangeSpec := { name := "fnShare", fn := fun _ => fun
  | [d] => { results := [.lit (.bool false)], args := [d] }
  | _ => none }
def FnShareWrongFalsely : Prop := fnShareRow.holds Try.pinned (OpenSpec.ofChange fnShareWrong)

/-- 'laws.FnShareEnds': WHATEVER THE INPUT: true; the input reads as it did. -/
def fnShareEndsSpec : ChangeSpec := { name := "fnShareEnds", fn := fun _ => fun
  | [d] => { results := [.lit (.bool true)], args := [d] }
  | _ => none }
def fnShareEndsRow : OpenClaim := { program := "ytbbipieadjggkaa", sum := "a99ff602a9344b4c0334f78d267d67d17f9e9742f93f4471a2ce698991718bee", func := "loop.example/icecores/laws.FnShareEnds", spec := "fnShareEnds", apart := false }
def FnShareEndsSaid : Prop := fnShareEndsRow.holds Try.pinned (OpenSpec.ofChange fnShareEndsSpec)

/-- ITS FALSE NEIGHBOUR: 'it returns false'. Refute it at one input. -/
def fnShareEndsWrong : ChangeSpec := { name := "fnShareEnds", fn := fun _ => fun
  | [d] => { results := [.lit (.bool false)], args := [d] }
  | _ => none }
def FnShareEndsWrongFalsely : Prop := fnShareEndsRow.holds Try.pinned (OpenSpec.ofChange fnShareEndsWrong)

/-- 'laws.FnShareMix': WHATEVER THE INPUT: true; the input reads as it did. -/
def fnShareMixSpec : ChangeSpec := { name := "fnShareMix", fn := fun _ => fun
  | [d] => { results := [.lit (.bool true)], args := [d] }
  | _ => none }
def fnShareMixRow : OpenClaim := { program := "ytbbipieadjggkaa", sum := "a99ff602a9344b4c0334f78d267d67d17f9e9742f93f4471a2ce698991718bee", func := "loop.example/icecores/laws.FnShareMix", spec := "fnShareMix", apart := false }
def FnShareMixSaid : Prop := fnShareMixRow.holds Try.pinned (OpenSpec.ofChange fnShareMixSpec)

/-- ITS FALSE NEIGHBOUR: 'it returns false'. Refute it at one input. -/
def fnShareMixWrong : ChangeSpec := { name := "fnShareMix", fn := fun _ => fun
  | [d] => { results := [.lit (.bool false)], args := [d] }
  | _ => none }
def FnShareMixWrongFalsely : Prop := fnShareMixRow.holds Try.pinned (OpenSpec.ofChange fnShareMixWrong)

/- THE SECOND FORM. 'bulk': how many values and letters a reading holds, each counted each time it is reached (what is shared counts as often as it is met; a slice's spare places count too). A statement '..UptoSaid' is the law's where the arguments, and the package variables that the reading takes, are together of bulk at most 1048576: NARROWER than '..Said'. Prove '..Said' where nothing that the law and all that it calls make is longer than what came in: it says more and counts as full. Else prove '..UptoSaid'. A law counts once. -/
mutual
def uptoBulk {H : Type} : DataW H → Nat
  | .lit (.string bytes) => bytes.length + 1
  | .lit _ => 1
  | .nil => 1
  | .ptr d => uptoBulk d + 1
  | .slice elems spare => uptoBulkAll elems + uptoBulkAll spare + 1
  | .agg parts => uptoBulkAll parts + 1
  | .iface _ d => uptoBulk d + 1
  | .map entries => uptoBulkEntries entries + 1
  | .held _ => 1
def uptoBulkAll {H : Type} : List (DataW H) → Nat
  | [] => 0
  | d :: r => uptoBulk d + uptoBulkAll r
def uptoBulkEntries {H : Type} : List (Lit × DataW H) → Nat
  | [] => 0
  | x :: r => uptoBulkEntry x + uptoBulkEntries r
def uptoBulkEntry {H : Type} : Lit × DataW H → Nat
  | (.string bytes, d) => bytes.length + uptoBulk d + 1
  | (_, d) => uptoBulk d + 1
 end
def uptoSmall : (H : Type) → List (DataW H) → Bool := fun _ ds => decide (uptoBulkAll ds ≤ 1048576)
def OpenSpec.upto (s : _root_.Go.ChangeSpec) : _root_.Go.OpenSpec := { _root_.Go.OpenSpec.ofChange s with cond := some uptoSmall }

/-- 'laws.FnDeltaMore', WHERE WHAT IT READS IS OF BULK AT MOST 1048576: true; the input reads as it did. -/
def fnDeltaMoreUptoRow : OpenClaim := { program := "ytbbipieadjggkaa", sum := "a99ff602a9344b4c0334f78d267d67d17f9e9742f93f4471a2ce698991718bee", func := "loop.example/icecores/laws.FnDeltaMore", spec := "fnDeltaMore", apart := false, narrowed := true }
def FnDeltaMoreUptoSaid : Prop := fnDeltaMoreUptoRow.holds Try.pinned (OpenSpec.upto fnDeltaMoreSpec)

/-- 'laws.FnSteps', WHERE WHAT IT READS IS OF BULK AT MOST 1048576: true; the input reads as it did. -/
def fnStepsUptoRow : OpenClaim := { program := "ytbbipieadjggkaa", sum := "a99ff602a9344b4c0334f78d267d67d17f9e9742f93f4471a2ce698991718bee", func := "loop.example/icecores/laws.FnSteps", spec := "fnSteps", apart := false, narrowed := true }
def FnStepsUptoSaid : Prop := fnStepsUptoRow.holds Try.pinned (OpenSpec.upto fnStepsSpec)

/-- 'laws.FnStepsParts', WHERE WHAT IT READS IS OF BULK AT MOST 1048576: true; the input reads as it did. -/
def fnStepsPartsUptoRow : OpenClaim := { program := "ytbbipieadjggkaa", sum := "a99ff602a9344b4c0334f78d267d67d17f9e9742f93f4471a2ce698991718bee", func := "loop.example/icecores/laws.FnStepsParts", spec := "fnStepsParts", apart := false, narrowed := true }
def FnStepsPartsUptoSaid : Prop := fnStepsPartsUptoRow.holds Try.pinned (OpenSpec.upto fnStepsPartsSpec)

/-- 'laws.FnStepsNone', WHERE WHAT IT READS IS OF BULK AT MOST 1048576: true; the input reads as it did. -/
def fnStepsNoneUptoRow : OpenClaim := { program := "ytbbipieadjggkaa", sum := "a99ff602a9344b4c0334f78d267d67d17f9e9742f93f4471a2ce698991718bee", func := "loop.example/icecores/laws.FnStepsNone", spec := "fnStepsNone", apart := false, narrowed := true }
def FnStepsNoneUptoSaid : Prop := fnStepsNoneUptoRow.holds Try.pinned (OpenSpec.upto fnStepsNoneSpec)

/-- 'laws.FnDelta', WHERE WHAT IT READS IS OF BULK AT MOST 1048576: true; the input reads as it did. -/
def fnDeltaUptoRow : OpenClaim := { program := "ytbbipieadjggkaa", sum := "a99ff602a9344b4c0334f78d267d67d17f9e9742f93f4471a2ce698991718bee", func := "loop.example/icecores/laws.FnDelta", spec := "fnDelta", apart := false, narrowed := true }
def FnDeltaUptoSaid : Prop := fnDeltaUptoRow.holds Try.pinned (OpenSpec.upto fnDeltaSpec)

/-- 'laws.FnDeltaStandard', WHERE WHAT IT READS IS OF BULK AT MOST 1048576: true; the input reads as it did. -/
def fnDeltaStandardUptoRow : OpenClaim := { program := "ytbbipieadjggkaa", sum := "a99ff602a9344b4c0334f78d267d67d17f9e9742f93f4471a2ce698991718bee", func := "loop.example/icecores/laws.FnDeltaStandard", spec := "fnDeltaStandard", apart := false, narrowed := true }
def FnDeltaStandardUptoSaid : Prop := fnDeltaStandardUptoRow.holds Try.pinned (OpenSpec.upto fnDeltaStandardSpec)

/-- 'laws.FnStepsBack', WHERE WHAT IT READS IS OF BULK AT MOST 1048576: true; the input reads as it did. -/
def fnStepsBackUptoRow : OpenClaim := { program := "ytbbipieadjggkaa", sum := "a99ff602a9344b4c0334f78d267d67d17f9e9742f93f4471a2ce698991718bee", func := "loop.example/icecores/laws.FnStepsBack", spec := "fnStepsBack", apart := false, narrowed := true }
def FnStepsBackUptoSaid : Prop := fnStepsBackUptoRow.holds Try.pinned (OpenSpec.upto fnStepsBackSpec)

/-- 'laws.FnDeltaBack', WHERE WHAT IT READS IS OF BULK AT MOST 1048576: true; the input reads as it did. -/
def fnDeltaBackUptoRow : OpenClaim := { program := "ytbbipieadjggkaa", sum := "a99ff602a9344b4c0334f78d267d67d17f9e9742f93f4471a2ce698991718bee", func := "loop.example/icecores/laws.FnDeltaBack", spec := "fnDeltaBack", apart := false, narrowed := true }
def FnDeltaBackUptoSaid : Prop := fnDeltaBackUptoRow.holds Try.pinned (OpenSpec.upto fnDeltaBackSpec)

/-- 'laws.FnShareTwice', WHERE WHAT IT READS IS OF BULK AT MOST 1048576: true; the input reads as it did. -/
def fnShareTwiceUptoRow : OpenClaim := { program := "ytbbipieadjggkaa", sum := "a99ff602a9344b4c0334f78d267d67d17f9e9742f93f4471a2ce698991718bee", func := "loop.example/icecores/laws.FnShareTwice", spec := "fnShareTwice", apart := false, narrowed := true }
def FnShareTwiceUptoSaid : Prop := fnShareTwiceUptoRow.holds Try.pinned (OpenSpec.upto fnShareTwiceSpec)

/-- 'laws.FnShare', WHERE WHAT IT READS IS OF BULK AT MOST 1048576: true; the input reads as it did. -/
def fnShareUptoRow : OpenClaim := { program := "ytbbipieadjggkaa", sum := "a99ff602a9344b4c0334f78d267d67d17f9e9742f93f4471a2ce698991718bee", func := "loop.example/icecores/laws.FnShare", spec := "fnShare", apart := false, narrowed := true }
def FnShareUptoSaid : Prop := fnShareUptoRow.holds Try.pinned (OpenSpec.upto fnShareSpec)

/-- 'laws.FnShareEnds', WHERE WHAT IT READS IS OF BULK AT MOST 1048576: true; the input reads as it did. -/
def fnShareEndsUptoRow : OpenClaim := { program := "ytbbipieadjggkaa", sum := "a99ff602a9344b4c0334f78d267d67d17f9e9742f93f4471a2ce698991718bee", func := "loop.example/icecores/laws.FnShareEnds", spec := "fnShareEnds", apart := false, narrowed := true }
def FnShareEndsUptoSaid : Prop := fnShareEndsUptoRow.holds Try.pinned (OpenSpec.upto fnShareEndsSpec)

/-- 'laws.FnShareMix', WHERE WHAT IT READS IS OF BULK AT MOST 1048576: true; the input reads as it did. -/
def fnShareMixUptoRow : OpenClaim := { program := "ytbbipieadjggkaa", sum := "a99ff602a9344b4c0334f78d267d67d17f9e9742f93f4471a2ce698991718bee", func := "loop.example/icecores/laws.FnShareMix", spec := "fnShareMix", apart := false, narrowed := true }
def FnShareMixUptoSaid : Prop := fnShareMixUptoRow.holds Try.pinned (OpenSpec.upto fnShareMixSpec)

end Rows
end Go.Proofs.Ytbbipieadjggkaa
