/-
  No cell of these rows narrows 'for every input' (looked for: loops, veiled, ifaces, maps, wideKeys, modest, calm, conditions, laid).
  DERIVED. THE GIVEN ROWS OF THIS SEAT. 10 by the template 'for every input the law returns true; each argument reads behind the call as it read before'; 0 by the template 'total and deterministic' (their statements: YtacgoplcebpooaaTotals.lean).
  GIVEN WITH THE SEED: the statements are not yours to turn. If you find one false, say at which input.
  Laid BY PROGRAM, IN A SANDBOX (cutbox-rows.mjs): the forced cells as the released guide's own fill.sh prints them over the translation 56383fdaa33a2c71… (all of the seat's roots in one cut). By AI agents, Wed Nov 11 2026. No macro, syntax, notation, axiom, sorry.
-/
import Derived.Test.YtacgoplcebpooaaChecked
import GoSem.Claim
import GoSem.ClaimJoined
import GoSem.ClaimMapViews
import Derived.JoinedTies
import Derived.KernelRfl
namespace Go.Proofs.Ytacgoplcebpooaa
/- THE CELL 'sum', in the pinned program and in every row, IS THE sha256 OF THE DUMP (.gsa) THAT YtacgoplcebpooaaProg.lean LOADS. Nothing in Lean hashes anything: it is a label: what it is worth is what the hold of that sum in a sandbox is worth. -/
noncomputable def Try.pinned : Pinned := { name := "ytacgoplcebpooaa", sum := "56383fdaa33a2c719d0a2fd02ae2be894fdeac123414451080bf5d113588aacf", checked := Try.checked }
namespace Rows
def none {H : Type} : Left H := { results := [], args := [] }

/-- 'laws.FnExactChoose': WHATEVER THE INPUT: true; the input reads as it did. -/
def fnExactChooseSpec : ChangeSpec := { name := "fnExactChoose", fn := fun _ => fun
  | [d1, d2] => { results := [.lit (.bool true)], args := [d1, d2] }
  | _ => none }
def fnExactChooseRow : OpenClaim := { program := "ytacgoplcebpooaa", sum := "56383fdaa33a2c719d0a2fd02ae2be894fdeac123414451080bf5d113588aacf", func := "loop.example/atomicspectra/laws.FnExactChoose", spec := "fnExactChoose", apart := false }
def FnExactChooseSaid : Prop := fnExactChooseRow.holds Try.pinned (OpenSpec.ofChange fnExactChooseSpec)

/-- ITS FALSE NEIGHBOUR: 'it returns false'. Refute it at one input. -/
def fnExactChooseWrong : ChangeSpec := { name := "fnExactChoose", fn := fun _ => fun
  | [d1, d2] => { results := [.lit (.bool false)], args := [d1, d2] }
  | _ => none }
def FnExactChooseWrongFalsely : Prop := fnExactChooseRow.holds Try.pinned (OpenSpec.ofChange fnExactChooseWrong)

/-- 'laws.FnExactDelta': WHATEVER THE INPUT: true; the input reads as it did. -/
def fnExactDeltaSpec : ChangeSpec := { name := "fnExactDelta", fn := fun _ => fun
  | [d1, d2, d3] => { results := [.lit (.bool true)], args := [d1, d2, d3] }
  | _ => none }
def fnExactDeltaRow : OpenClaim := { program := "ytacgoplcebpooaa", sum := "56383fdaa33a2c719d0a2fd02ae2be894fdeac123414451080bf5d113588aacf", func := "loop.example/atomicspectra/laws.FnExactDelta", spec := "fnExactDelta", apart := false }
def FnExactDeltaSaid : Prop := fnExactDeltaRow.holds Try.pinned (OpenSpec.ofChange fnExactDeltaSpec)

/-- ITS FALSE NEIGHBOUR: 'it returns false'. Refute it at one input. -/
def fnExactDeltaWrong : ChangeSpec := { name := "fnExactDelta", fn := fun _ => fun
  | [d1, d2, d3] => { results := [.lit (.bool false)], args := [d1, d2, d3] }
  | _ => none }
def FnExactDeltaWrongFalsely : Prop := fnExactDeltaRow.holds Try.pinned (OpenSpec.ofChange fnExactDeltaWrong)

/-- 'laws.FnChoose': WHATEVER THE INPUT: true; the input reads as it did. -/
def fnChooseSpec : ChangeSpec := { name := "fnChoose", fn := fun _ => fun
  | [d] => { results := [.lit (.bool true)], args := [d] }
  | _ => none }
def fnChooseRow : OpenClaim := { program := "ytacgoplcebpooaa", sum := "56383fdaa33a2c719d0a2fd02ae2be894fdeac123414451080bf5d113588aacf", func := "loop.example/atomicspectra/laws.FnChoose", spec := "fnChoose", apart := false }
def FnChooseSaid : Prop := fnChooseRow.holds Try.pinned (OpenSpec.ofChange fnChooseSpec)

/-- ITS FALSE NEIGHBOUR: 'it returns false'. Refute it at one input. -/
def fnChooseWrong : ChangeSpec := { name := "fnChoose", fn := fun _ => fun
  | [d] => { results := [.lit (.bool false)], args := [d] }
  | _ => none }
def FnChooseWrongFalsely : Prop := fnChooseRow.holds Try.pinned (OpenSpec.ofChange fnChooseWrong)

/-- 'laws.FnChooseMirror': WHATEVER THE INPUT: true; the input reads as it did. -/
def fnChooseMirrorSpec : ChangeSpec := { name := "fnChooseMirror", fn := fun _ => fun
  | [d] => { results := [.lit (.bool true)], args := [d] }
  | _ => none }
def fnChooseMirrorRow : OpenClaim := { program := "ytacgoplcebpooaa", sum := "56383fdaa33a2c719d0a2fd02ae2be894fdeac123414451080bf5d113588aacf", func := "loop.example/atomicspectra/laws.FnChooseMirror", spec := "fnChooseMirror", apart := false }
def FnChooseMirrorSaid : Prop := fnChooseMirrorRow.holds Try.pinned (OpenSpec.ofChange fnChooseMirrorSpec)

/-- ITS FALSE NEIGHBOUR: 'it returns false'. Refute it at one input. -/
def fnChooseMirrorWrong : ChangeSpec := { name := "fnChooseMirror", fn := fun _ => fun
  | [d] => { results := [.lit (.bool false)], args := [d] }
  | _ => none }
def FnChooseMirrorWrongFalsely : Prop := fnChooseMirrorRow.holds Try.pinned (OpenSpec.ofChange fnChooseMirrorWrong)

/-- 'laws.FnChooseParts': WHATEVER THE INPUT: true; the input reads as it did. -/
def fnChoosePartsSpec : ChangeSpec := { name := "fnChooseParts", fn := fun _ => fun
  | [d1, d2] => { results := [.lit (.bool true)], args := [d1, d2] }
  | _ => none }
def fnChoosePartsRow : OpenClaim := { program := "ytacgoplcebpooaa", sum := "56383fdaa33a2c719d0a2fd02ae2be894fdeac123414451080bf5d113588aacf", func := "loop.example/atomicspectra/laws.FnChooseParts", spec := "fnChooseParts", apart := false }
def FnChoosePartsSaid : Prop := fnChoosePartsRow.holds Try.pinned (OpenSpec.ofChange fnChoosePartsSpec)

/-- ITS FALSE NEIGHBOUR: 'it returns false'. Refute it at one input. -/
def fnChoosePartsWrong : ChangeSpec := { name := "fnChooseParts", fn := fun _ => fun
  | [d1, d2] => { results := [.lit (.bool false)], args := [d1, d2] }
  | _ => none }
def FnChoosePartsWrongFalsely : Prop := fnChoosePartsRow.holds Try.pinned (OpenSpec.ofChange fnChoosePartsWrong)

/-- 'laws.FnChooseRises': WHATEVER THE INPUT: true; the input reads as it did. -/
def fnChooseRisesSpec : ChangeSpec := { name := "fnChooseRises", fn := fun _ => fun
  | [d] => { results := [.lit (.bool true)], args := [d] }
  | _ => none }
def fnChooseRisesRow : OpenClaim := { program := "ytacgoplcebpooaa", sum := "56383fdaa33a2c719d0a2fd02ae2be894fdeac123414451080bf5d113588aacf", func := "loop.example/atomicspectra/laws.FnChooseRises", spec := "fnChooseRises", apart := false }
def FnChooseRisesSaid : Prop := fnChooseRisesRow.holds Try.pinned (OpenSpec.ofChange fnChooseRisesSpec)

/-- ITS FALSE NEIGHBOUR: 'it returns false'. Refute it at one input. -/
def fnChooseRisesWrong : ChangeSpec := { name := "fnChooseRises", fn := fun _ => fun
  | [d] => { results := [.lit (.bool false)], args := [d] }
  | _ => none }
def FnChooseRisesWrongFalsely : Prop := fnChooseRisesRow.holds Try.pinned (OpenSpec.ofChange fnChooseRisesWrong)

/-- 'laws.FnChooseSum': WHATEVER THE INPUT: true; the input reads as it did. -/
def fnChooseSumSpec : ChangeSpec := { name := "fnChooseSum", fn := fun _ => fun
  | [d] => { results := [.lit (.bool true)], args := [d] }
  | _ => none }
def fnChooseSumRow : OpenClaim := { program := "ytacgoplcebpooaa", sum := "56383fdaa33a2c719d0a2fd02ae2be894fdeac123414451080bf5d113588aacf", func := "loop.example/atomicspectra/laws.FnChooseSum", spec := "fnChooseSum", apart := false }
def FnChooseSumSaid : Prop := fnChooseSumRow.holds Try.pinned (OpenSpec.ofChange fnChooseSumSpec)

/-- ITS FALSE NEIGHBOUR: 'it returns false'. Refute it at one input. -/
def fnChooseSumWrong : ChangeSpec := { name := "fnChooseSum", fn := fun _ => fun
  | [d] => { results := [.lit (.bool false)], args := [d] }
  | _ => none }
def FnChooseSumWrongFalsely : Prop := fnChooseSumRow.holds Try.pinned (OpenSpec.ofChange fnChooseSumWrong)

/-- 'laws.FnChooseTimes': WHATEVER THE INPUT: true; the input reads as it did. -/
def fnChooseTimesSpec : ChangeSpec := { name := "fnChooseTimes", fn := fun _ => fun
  | [d] => { results := [.lit (.bool true)], args := [d] }
  | _ => none }
def fnChooseTimesRow : OpenClaim := { program := "ytacgoplcebpooaa", sum := "56383fdaa33a2c719d0a2fd02ae2be894fdeac123414451080bf5d113588aacf", func := "loop.example/atomicspectra/laws.FnChooseTimes", spec := "fnChooseTimes", apart := false }
def FnChooseTimesSaid : Prop := fnChooseTimesRow.holds Try.pinned (OpenSpec.ofChange fnChooseTimesSpec)

/-- ITS FALSE NEIGHBOUR: 'it returns false'. Refute it at one input. -/
def fnChooseTimesWrong : ChangeSpec := { name := "fnChooseTimes", fn := fun _ => fun
  | [d] => { results := [.lit (.bool false)], args := [d] }
  | _ => none }
def FnChooseTimesWrongFalsely : Prop := fnChooseTimesRow.holds Try.pinned (OpenSpec.ofChange fnChooseTimesWrong)

/-- 'laws.FnDelta': WHATEVER THE INPUT: true; the input reads as it did. -/
def fnDeltaSpec : ChangeSpec := { name := "fnDelta", fn := fun _ => fun
  | [d] => { results := [.lit (.bool true)], args := [d] }
  | _ => none }
def fnDeltaRow : OpenClaim := { program := "ytacgoplcebpooaa", sum := "56383fdaa33a2c719d0a2fd02ae2be894fdeac123414451080bf5d113588aacf", func := "loop.example/atomicspectra/laws.FnDelta", spec := "fnDelta", apart := false }
def FnDeltaSaid : Prop := fnDeltaRow.holds Try.pinned (OpenSpec.ofChange fnDeltaSpec)

/-- ITS FALSE NEIGHBOUR: 'it returns false'. Refute it at one input. -/
def fnDeltaWrong : ChangeSpec := { name := "fnDelta", fn := fun _ => fun
  | [d] => { results := [.lit (.bool false)], args := [d] }
  | _ => none }
def FnDeltaWrongFalsely : Prop := fnDeltaRow.holds Try.pinned (OpenSpec.ofChange fnDeltaWrong)

/-- 'laws.FnDeltaSum': WHATEVER THE INPUT: true; the input reads as it did. -/
def fnDeltaSumSpec : ChangeSpec := { name := "fnDeltaSum", fn := fun _ => fun
  | [d] => { results := [.lit (.bool true)], args := [d] }
  | _ => none }
def fnDeltaSumRow : OpenClaim := { program := "ytacgoplcebpooaa", sum := "56383fdaa33a2c719d0a2fd02ae2be894fdeac123414451080bf5d113588aacf", func := "loop.example/atomicspectra/laws.FnDeltaSum", spec := "fnDeltaSum", apart := false }
def FnDeltaSumSaid : Prop := fnDeltaSumRow.holds Try.pinned (OpenSpec.ofChange fnDeltaSumSpec)

/-- ITS FALSE NEIGHBOUR: 'it returns false'. Refute it at one input. -/
def fnDeltaSumWrong : ChangeSpec := { name := "fnDeltaSum", fn := fun _ => fun
  | [d] => { results := [.lit (.bool false)], args := [d] }
  | _ => none }
def FnDeltaSumWrongFalsely : Prop := fnDeltaSumRow.holds Try.pinned (OpenSpec.ofChange fnDeltaSumWrong)

/- THE SECOND FORM. 'bulk': how many values and letters a reading holds, each counted each time it is reached (what is shared counts as often as it is met; a slice's spare places count too). A statement '..UptoSaid' is the law's where the arguments, and the package variables that the reading takes, are together of bulk at most 1048576: NARROWER than '..Said'. Prove '..Said' where nothing that the law and all that it calls make is longer than what came in: it says more and counts as full. Else prove '..UptoSaid'. A law counts once. -/
mutual
def uptoBulk {H : Type} : DataW H → Nat
  | .lit (.string bytes) => bytes.length + 1
  | .lit _ => 1
  | .nil => 1
  | .ptr d => uptoBulk d + 1
  | .slice elems spare => uptoBulkAll elems + uptoBulkAll spare + 1
  | .agg parts => uptoBulkAll parts + 1
  | .iface _ d => uptoBulk d + 1
  | .map entries => uptoBulkEntries entries + 1
  | .held _ => 1
def uptoBulkAll {H : Type} : List (DataW H) → Nat
  | [] => 0
  | d :: r => uptoBulk d + uptoBulkAll r
def uptoBulkEntries {H : Type} : List (Lit × DataW H) → Nat
  | [] => 0
  | x :: r => uptoBulkEntry x + uptoBulkEntries r
def uptoBulkEntry {H : Type} : Lit × DataW H → Nat
  | (.string bytes, d) => bytes.length + uptoBulk d + 1
  | (_, d) => uptoBulk d + 1
 end
def uptoSmall : (H : Type) → List (DataW H) → Bool := fun _ ds => decide (uptoBulkAll ds ≤ 1048576)
def OpenSpec.upto (s : _root_.Go.ChangeSpec) : _root_.Go.OpenSpec := { _root_.Go.OpenSpec.ofChange s with cond := some uptoSmall }

/-- 'laws.FnExactChoose', WHERE WHAT IT READS IS OF BULK AT MOST 1048576: true; the input reads as it did. -/
def fnExactChooseUptoRow : OpenClaim := { program := "ytacgoplcebpooaa", sum := "56383fdaa33a2c719d0a2fd02ae2be894fdeac123414451080bf5d113588aacf", func := "loop.example/atomicspectra/laws.FnExactChoose", spec := "fnExactChoose", apart := false, narrowed := true }
def FnExactChooseUptoSaid : Prop := fnExactChooseUptoRow.holds Try.pinned (OpenSpec.upto fnExactChooseSpec)

/-- 'laws.FnExactDelta', WHERE WHAT IT READS IS OF BULK AT MOST 1048576: true; the input reads as it did. -/
def fnExactDeltaUptoRow : OpenClaim := { program := "ytacgoplcebpooaa", sum := "56383fdaa33a2c719d0a2fd02ae2be894fdeac123414451080bf5d113588aacf", func := "loop.example/atomicspectra/laws.FnExactDelta", spec := "fnExactDelta", apart := false, narrowed := true }
def FnExactDeltaUptoSaid : Prop := fnExactDeltaUptoRow.holds Try.pinned (OpenSpec.upto fnExactDeltaSpec)

/-- 'laws.FnChoose', WHERE WHAT IT READS IS OF BULK AT MOST 1048576: true; the input reads as it did. -/
def fnChooseUptoRow : OpenClaim := { program := "ytacgoplcebpooaa", sum := "56383fdaa33a2c719d0a2fd02ae2be894fdeac123414451080bf5d113588aacf", func := "loop.example/atomicspectra/laws.FnChoose", spec := "fnChoose", apart := false, narrowed := true }
def FnChooseUptoSaid : Prop := fnChooseUptoRow.holds Try.pinned (OpenSpec.upto fnChooseSpec)

/-- 'laws.FnChooseMirror', WHERE WHAT IT READS IS OF BULK AT MOST 1048576: true; the input reads as it did. -/
def fnChooseMirrorUptoRow : OpenClaim := { program := "ytacgoplcebpooaa", sum := "56383fdaa33a2c719d0a2fd02ae2be894fdeac123414451080bf5d113588aacf", func := "loop.example/atomicspectra/laws.FnChooseMirror", spec := "fnChooseMirror", apart := false, narrowed := true }
def FnChooseMirrorUptoSaid : Prop := fnChooseMirrorUptoRow.holds Try.pinned (OpenSpec.upto fnChooseMirrorSpec)

/-- 'laws.FnChooseParts', WHERE WHAT IT READS IS OF BULK AT MOST 1048576: true; the input reads as it did. -/
def fnChoosePartsUptoRow : OpenClaim := { program := "ytacgoplcebpooaa", sum := "56383fdaa33a2c719d0a2fd02ae2be894fdeac123414451080bf5d113588aacf", func := "loop.example/atomicspectra/laws.FnChooseParts", spec := "fnChooseParts", apart := false, narrowed := true }
def FnChoosePartsUptoSaid : Prop := fnChoosePartsUptoRow.holds Try.pinned (OpenSpec.upto fnChoosePartsSpec)

/-- 'laws.FnChooseRises', WHERE WHAT IT READS IS OF BULK AT MOST 1048576: true; the input reads as it did. -/
def fnChooseRisesUptoRow : OpenClaim := { program := "ytacgoplcebpooaa", sum := "56383fdaa33a2c719d0a2fd02ae2be894fdeac123414451080bf5d113588aacf", func := "loop.example/atomicspectra/laws.FnChooseRises", spec := "fnChooseRises", apart := false, narrowed := true }
def FnChooseRisesUptoSaid : Prop := fnChooseRisesUptoRow.holds Try.pinned (OpenSpec.upto fnChooseRisesSpec)

/-- 'laws.FnChooseSum', WHERE WHAT IT READS IS OF BULK AT MOST 1048576: true; the input reads as it did. -/
def fnChooseSumUptoRow : OpenClaim := { program := "ytacgoplcebpooaa", sum := "56383fdaa33a2c719d0a2fd02ae2be894fdeac123414451080bf5d113588aacf", func := "loop.example/atomicspectra/laws.FnChooseSum", spec := "fnChooseSum", apart := false, narrowed := true }
def FnChooseSumUptoSaid : Prop := fnChooseSumUptoRow.holds Try.pinned (OpenSpec.upto fnChooseSumSpec)

/-- 'laws.FnChooseTimes', WHERE WHAT IT READS IS OF BULK AT MOST 1048576: true; the input reads as it did. -/
def fnChooseTimesUptoRow : OpenClaim := { program := "ytacgoplcebpooaa", sum := "56383fdaa33a2c719d0a2fd02ae2be894fdeac123414451080bf5d113588aacf", func := "loop.example/atomicspectra/laws.FnChooseTimes", spec := "fnChooseTimes", apart := false, narrowed := true }
def FnChooseTimesUptoSaid : Prop := fnChooseTimesUptoRow.holds Try.pinned (OpenSpec.upto fnChooseTimesSpec)

/-- 'laws.FnDelta', WHERE WHAT IT READS IS OF BULK AT MOST 1048576: true; the input reads as it did. -/
def fnDeltaUptoRow : OpenClaim := { program := "ytacgoplcebpooaa", sum := "56383fdaa33a2c719d0a2fd02ae2be894fdeac123414451080bf5d113588aacf", func := "loop.example/atomicspectra/laws.FnDelta", spec := "fnDelta", apart := false, narrowed := true }
def FnDeltaUptoSaid : Prop := fnDeltaUptoRow.holds Try.pinned (OpenSpec.upto fnDeltaSpec)

/-- 'laws.FnDeltaSum', WHERE WHAT IT READS IS OF BULK AT MOST 1048576: true; the input reads as it did. -/
def fnDeltaSumUptoRow : OpenClaim := { program := "ytacgoplcebpooaa", sum := "56383fdaa33a2c719d0a2fd02ae2be894fdeac123414451080bf5d113588aacf", func := "loop.example/atomicspectra/laws.FnDeltaSum", spec := "fnDeltaSum", apart := false, narrowed := true }
def FnDeltaSumUptoSaid : Prop := fnDeltaSumUptoRow.holds Try.pinned (OpenSpec.upto fnDeltaSumSpec)

end Rows
end Go.Proofs.Ytacgoplcebpooaa
