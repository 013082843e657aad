/-
  No cell of these rows narrows 'for every input' (looked for: loops, veiled, ifaces, maps, wideKeys, modest, calm, conditions, laid).
  DERIVED. THE GIVEN ROWS OF THIS SEAT. 12 by the template 'for every input the law returns true; each argument reads behind the call as it read before'; 0 by the template 'total and deterministic' (their statements: YtkkmeghadbmcgaaTotals.lean).
  GIVEN WITH THE SEED: the statements are not yours to turn. If you find one false, say at which input.
  Laid BY PROGRAM, IN A SANDBOX (cutbox-rows.mjs): the forced cells as the released guide's own fill.sh prints them over the translation c3707fd2460d61fb… (all of the seat's roots in one cut). By AI agents, Wed Nov 11 2026. No macro, syntax, notation, axiom, sorry.
-/
import Derived.Test.YtkkmeghadbmcgaaChecked
import GoSem.Claim
import GoSem.ClaimJoined
import GoSem.ClaimMapViews
import Derived.JoinedTies
import Derived.KernelRfl
namespace Go.Proofs.Ytkkmeghadbmcgaa
/- THE CELL 'sum', in the pinned program and in every row, IS THE sha256 OF THE DUMP (.gsa) THAT YtkkmeghadbmcgaaProg.lean LOADS. Nothing in Lean hashes anything: it is a label: what it is worth is what the hold of that sum in a sandbox is worth. -/
noncomputable def Try.pinned : Pinned := { name := "ytkkmeghadbmcgaa", sum := "c3707fd2460d61fb20747abc16161b876cafde0ed231b071788c3a0ab331791d", checked := Try.checked }
namespace Rows
def none {H : Type} : Left H := { results := [], args := [] }

/-- 'laws.FnRatAddSwap': WHATEVER THE INPUT: true; the input reads as it did. -/
def fnRatAddSwapSpec : ChangeSpec := { name := "fnRatAddSwap", fn := fun _ => fun
  | [d] => { results := [.lit (.bool true)], args := [d] }
  | _ => none }
def fnRatAddSwapRow : OpenClaim := { program := "ytkkmeghadbmcgaa", sum := "c3707fd2460d61fb20747abc16161b876cafde0ed231b071788c3a0ab331791d", func := "loop.example/atomicspectra/laws.FnRatAddSwap", spec := "fnRatAddSwap", apart := false }
def FnRatAddSwapSaid : Prop := fnRatAddSwapRow.holds Try.pinned (OpenSpec.ofChange fnRatAddSwapSpec)

/-- ITS FALSE NEIGHBOUR: 'it returns false'. Refute it at one input. -/
def fnRatAddSwapWrong : ChangeSpec := { name := "fnRatAddSwap", fn := fun _ => fun
  | [d] => { results := [.lit (.bool false)], args := [d] }
  | _ => none }
def FnRatAddSwapWrongFalsely : Prop := fnRatAddSwapRow.holds Try.pinned (OpenSpec.ofChange fnRatAddSwapWrong)

/-- 'laws.FnRatAddThree': WHATEVER THE INPUT: true; the input reads as it did. -/
def fnRatAddThreeSpec : ChangeSpec := { name := "fnRatAddThree", fn := fun _ => fun
  | [d] => { results := [.lit (.bool true)], args := [d] }
  | _ => none }
def fnRatAddThreeRow : OpenClaim := { program := "ytkkmeghadbmcgaa", sum := "c3707fd2460d61fb20747abc16161b876cafde0ed231b071788c3a0ab331791d", func := "loop.example/atomicspectra/laws.FnRatAddThree", spec := "fnRatAddThree", apart := false }
def FnRatAddThreeSaid : Prop := fnRatAddThreeRow.holds Try.pinned (OpenSpec.ofChange fnRatAddThreeSpec)

/-- ITS FALSE NEIGHBOUR: 'it returns false'. Refute it at one input. -/
def fnRatAddThreeWrong : ChangeSpec := { name := "fnRatAddThree", fn := fun _ => fun
  | [d] => { results := [.lit (.bool false)], args := [d] }
  | _ => none }
def FnRatAddThreeWrongFalsely : Prop := fnRatAddThreeRow.holds Try.pinned (OpenSpec.ofChange fnRatAddThreeWrong)

/-- 'laws.FnRatMulSwap': WHATEVER THE INPUT: true; the input reads as it did. -/
def fnRatMulSwapSpec : ChangeSpec := { name := "fnRatMulSwap", fn := fun _ => fun
  | [d] => { results := [.lit (.bool true)], args := [d] }
  | _ => none }
def fnRatMulSwapRow : OpenClaim := { program := "ytkkmeghadbmcgaa", sum := "c3707fd2460d61fb20747abc16161b876cafde0ed231b071788c3a0ab331791d", func := "loop.example/atomicspectra/laws.FnRatMulSwap", spec := "fnRatMulSwap", apart := false }
def FnRatMulSwapSaid : Prop := fnRatMulSwapRow.holds Try.pinned (OpenSpec.ofChange fnRatMulSwapSpec)

/-- ITS FALSE NEIGHBOUR: 'it returns false'. Refute it at one input. -/
def fnRatMulSwapWrong : ChangeSpec := { name := "fnRatMulSwap", fn := fun _ => fun
  | [d] => { results := [.lit (.bool false)], args := [d] }
  | _ => none }
def FnRatMulSwapWrongFalsely : Prop := fnRatMulSwapRow.holds Try.pinned (OpenSpec.ofChange fnRatMulSwapWrong)

/-- 'laws.FnRatDivSelf': WHATEVER THE INPUT: true; the input reads as it did. -/
def fnRatDivSelfSpec : ChangeSpec := { name := "fnRatDivSelf", fn := fun _ => fun
  | [d] => { results := [.lit (.bool true)], args := [d] }
  | _ => none }
def fnRatDivSelfRow : OpenClaim := { program := "ytkkmeghadbmcgaa", sum := "c3707fd2460d61fb20747abc16161b876cafde0ed231b071788c3a0ab331791d", func := "loop.example/atomicspectra/laws.FnRatDivSelf", spec := "fnRatDivSelf", apart := false }
def FnRatDivSelfSaid : Prop := fnRatDivSelfRow.holds Try.pinned (OpenSpec.ofChange fnRatDivSelfSpec)

/-- ITS FALSE NEIGHBOUR: 'it returns false'. Refute it at one input. -/
def fnRatDivSelfWrong : ChangeSpec := { name := "fnRatDivSelf", fn := fun _ => fun
  | [d] => { results := [.lit (.bool false)], args := [d] }
  | _ => none }
def FnRatDivSelfWrongFalsely : Prop := fnRatDivSelfRow.holds Try.pinned (OpenSpec.ofChange fnRatDivSelfWrong)

/-- 'laws.FnRatMulDiv': WHATEVER THE INPUT: true; the input reads as it did. -/
def fnRatMulDivSpec : ChangeSpec := { name := "fnRatMulDiv", fn := fun _ => fun
  | [d] => { results := [.lit (.bool true)], args := [d] }
  | _ => none }
def fnRatMulDivRow : OpenClaim := { program := "ytkkmeghadbmcgaa", sum := "c3707fd2460d61fb20747abc16161b876cafde0ed231b071788c3a0ab331791d", func := "loop.example/atomicspectra/laws.FnRatMulDiv", spec := "fnRatMulDiv", apart := false }
def FnRatMulDivSaid : Prop := fnRatMulDivRow.holds Try.pinned (OpenSpec.ofChange fnRatMulDivSpec)

/-- ITS FALSE NEIGHBOUR: 'it returns false'. Refute it at one input. -/
def fnRatMulDivWrong : ChangeSpec := { name := "fnRatMulDiv", fn := fun _ => fun
  | [d] => { results := [.lit (.bool false)], args := [d] }
  | _ => none }
def FnRatMulDivWrongFalsely : Prop := fnRatMulDivRow.holds Try.pinned (OpenSpec.ofChange fnRatMulDivWrong)

/-- 'laws.FnRatMulOver': WHATEVER THE INPUT: true; the input reads as it did. -/
def fnRatMulOverSpec : ChangeSpec := { name := "fnRatMulOver", fn := fun _ => fun
  | [d] => { results := [.lit (.bool true)], args := [d] }
  | _ => none }
def fnRatMulOverRow : OpenClaim := { program := "ytkkmeghadbmcgaa", sum := "c3707fd2460d61fb20747abc16161b876cafde0ed231b071788c3a0ab331791d", func := "loop.example/atomicspectra/laws.FnRatMulOver", spec := "fnRatMulOver", apart := false }
def FnRatMulOverSaid : Prop := fnRatMulOverRow.holds Try.pinned (OpenSpec.ofChange fnRatMulOverSpec)

/-- ITS FALSE NEIGHBOUR: 'it returns false'. Refute it at one input. -/
def fnRatMulOverWrong : ChangeSpec := { name := "fnRatMulOver", fn := fun _ => fun
  | [d] => { results := [.lit (.bool false)], args := [d] }
  | _ => none }
def FnRatMulOverWrongFalsely : Prop := fnRatMulOverRow.holds Try.pinned (OpenSpec.ofChange fnRatMulOverWrong)

/-- 'laws.FnRatAddSub': WHATEVER THE INPUT: true; the input reads as it did. -/
def fnRatAddSubSpec : ChangeSpec := { name := "fnRatAddSub", fn := fun _ => fun
  | [d] => { results := [.lit (.bool true)], args := [d] }
  | _ => none }
def fnRatAddSubRow : OpenClaim := { program := "ytkkmeghadbmcgaa", sum := "c3707fd2460d61fb20747abc16161b876cafde0ed231b071788c3a0ab331791d", func := "loop.example/atomicspectra/laws.FnRatAddSub", spec := "fnRatAddSub", apart := false }
def FnRatAddSubSaid : Prop := fnRatAddSubRow.holds Try.pinned (OpenSpec.ofChange fnRatAddSubSpec)

/-- ITS FALSE NEIGHBOUR: 'it returns false'. Refute it at one input. -/
def fnRatAddSubWrong : ChangeSpec := { name := "fnRatAddSub", fn := fun _ => fun
  | [d] => { results := [.lit (.bool false)], args := [d] }
  | _ => none }
def FnRatAddSubWrongFalsely : Prop := fnRatAddSubRow.holds Try.pinned (OpenSpec.ofChange fnRatAddSubWrong)

/-- 'laws.FnRatDiv': WHATEVER THE INPUT: true; the input reads as it did. -/
def fnRatDivSpec : ChangeSpec := { name := "fnRatDiv", fn := fun _ => fun
  | [d] => { results := [.lit (.bool true)], args := [d] }
  | _ => none }
def fnRatDivRow : OpenClaim := { program := "ytkkmeghadbmcgaa", sum := "c3707fd2460d61fb20747abc16161b876cafde0ed231b071788c3a0ab331791d", func := "loop.example/atomicspectra/laws.FnRatDiv", spec := "fnRatDiv", apart := false }
def FnRatDivSaid : Prop := fnRatDivRow.holds Try.pinned (OpenSpec.ofChange fnRatDivSpec)

/-- ITS FALSE NEIGHBOUR: 'it returns false'. Refute it at one input. -/
def fnRatDivWrong : ChangeSpec := { name := "fnRatDiv", fn := fun _ => fun
  | [d] => { results := [.lit (.bool false)], args := [d] }
  | _ => none }
def FnRatDivWrongFalsely : Prop := fnRatDivRow.holds Try.pinned (OpenSpec.ofChange fnRatDivWrong)

/-- 'laws.FnRatSub': WHATEVER THE INPUT: true; the input reads as it did. -/
def fnRatSubSpec : ChangeSpec := { name := "fnRatSub", fn := fun _ => fun
  | [d] => { results := [.lit (.bool true)], args := [d] }
  | _ => none }
def fnRatSubRow : OpenClaim := { program := "ytkkmeghadbmcgaa", sum := "c3707fd2460d61fb20747abc16161b876cafde0ed231b071788c3a0ab331791d", func := "loop.example/atomicspectra/laws.FnRatSub", spec := "fnRatSub", apart := false }
def FnRatSubSaid : Prop := fnRatSubRow.holds Try.pinned (OpenSpec.ofChange fnRatSubSpec)

/-- ITS FALSE NEIGHBOUR: 'it returns false'. Refute it at one input. -/
def fnRatSubWrong : ChangeSpec := { name := "fnRatSub", fn := fun _ => fun
  | [d] => { results := [.lit (.bool false)], args := [d] }
  | _ => none }
def FnRatSubWrongFalsely : Prop := fnRatSubRow.holds Try.pinned (OpenSpec.ofChange fnRatSubWrong)

/-- 'laws.FnRatLessThree': WHATEVER THE INPUT: true; the input reads as it did. -/
def fnRatLessThreeSpec : ChangeSpec := { name := "fnRatLessThree", fn := fun _ => fun
  | [d] => { results := [.lit (.bool true)], args := [d] }
  | _ => none }
def fnRatLessThreeRow : OpenClaim := { program := "ytkkmeghadbmcgaa", sum := "c3707fd2460d61fb20747abc16161b876cafde0ed231b071788c3a0ab331791d", func := "loop.example/atomicspectra/laws.FnRatLessThree", spec := "fnRatLessThree", apart := false }
def FnRatLessThreeSaid : Prop := fnRatLessThreeRow.holds Try.pinned (OpenSpec.ofChange fnRatLessThreeSpec)

/-- ITS FALSE NEIGHBOUR: 'it returns false'. Refute it at one input. -/
def fnRatLessThreeWrong : ChangeSpec := { name := "fnRatLessThree", fn := fun _ => fun
  | [d] => { results := [.lit (.bool false)], args := [d] }
  | _ => none }
def FnRatLessThreeWrongFalsely : Prop := fnRatLessThreeRow.holds Try.pinned (OpenSpec.ofChange fnRatLessThreeWrong)

/-- 'laws.FnRatLessOne': WHATEVER THE INPUT: true; the input reads as it did. -/
def fnRatLessOneSpec : ChangeSpec := { name := "fnRatLessOne", fn := fun _ => fun
  | [d] => { results := [.lit (.bool true)], args := [d] }
  | _ => none }
def fnRatLessOneRow : OpenClaim := { program := "ytkkmeghadbmcgaa", sum := "c3707fd2460d61fb20747abc16161b876cafde0ed231b071788c3a0ab331791d", func := "loop.example/atomicspectra/laws.FnRatLessOne", spec := "fnRatLessOne", apart := false }
def FnRatLessOneSaid : Prop := fnRatLessOneRow.holds Try.pinned (OpenSpec.ofChange fnRatLessOneSpec)

/-- ITS FALSE NEIGHBOUR: 'it returns false'. Refute it at one input. -/
def fnRatLessOneWrong : ChangeSpec := { name := "fnRatLessOne", fn := fun _ => fun
  | [d] => { results := [.lit (.bool false)], args := [d] }
  | _ => none }
def FnRatLessOneWrongFalsely : Prop := fnRatLessOneRow.holds Try.pinned (OpenSpec.ofChange fnRatLessOneWrong)

/-- 'laws.FnRatLess': WHATEVER THE INPUT: true; the input reads as it did. -/
def fnRatLessSpec : ChangeSpec := { name := "fnRatLess", fn := fun _ => fun
  | [d] => { results := [.lit (.bool true)], args := [d] }
  | _ => none }
def fnRatLessRow : OpenClaim := { program := "ytkkmeghadbmcgaa", sum := "c3707fd2460d61fb20747abc16161b876cafde0ed231b071788c3a0ab331791d", func := "loop.example/atomicspectra/laws.FnRatLess", spec := "fnRatLess", apart := false }
def FnRatLessSaid : Prop := fnRatLessRow.holds Try.pinned (OpenSpec.ofChange fnRatLessSpec)

/-- ITS FALSE NEIGHBOUR: 'it returns false'. Refute it at one input. -/
def fnRatLessWrong : ChangeSpec := { name := "fnRatLess", fn := fun _ => fun
  | [d] => { results := [.lit (.bool false)], args := [d] }
  | _ => none }
def FnRatLessWrongFalsely : Prop := fnRatLessRow.holds Try.pinned (OpenSpec.ofChange fnRatLessWrong)

/- THE SECOND FORM. 'bulk': how many values and letters a reading holds, each counted each time it is reached (what is shared counts as often as it is met; a slice's spare places count too). A statement '..UptoSaid' is the law's where the arguments, and the package variables that the reading takes, are together of bulk at most 1048576: NARROWER than '..Said'. Prove '..Said' where nothing that the law and all that it calls make is longer than what came in: it says more and counts as full. Else prove '..UptoSaid'. A law counts once. -/
mutual
def uptoBulk {H : Type} : DataW H → Nat
  | .lit (.string bytes) => bytes.length + 1
  | .lit _ => 1
  | .nil => 1
  | .ptr d => uptoBulk d + 1
  | .slice elems spare => uptoBulkAll elems + uptoBulkAll spare + 1
  | .agg parts => uptoBulkAll parts + 1
  | .iface _ d => uptoBulk d + 1
  | .map entries => uptoBulkEntries entries + 1
  | .held _ => 1
def uptoBulkAll {H : Type} : List (DataW H) → Nat
  | [] => 0
  | d :: r => uptoBulk d + uptoBulkAll r
def uptoBulkEntries {H : Type} : List (Lit × DataW H) → Nat
  | [] => 0
  | x :: r => uptoBulkEntry x + uptoBulkEntries r
def uptoBulkEntry {H : Type} : Lit × DataW H → Nat
  | (.string bytes, d) => bytes.length + uptoBulk d + 1
  | (_, d) => uptoBulk d + 1
 end
def uptoSmall : (H : Type) → List (DataW H) → Bool := fun _ ds => decide (uptoBulkAll ds ≤ 1048576)
def OpenSpec.upto (s : _root_.Go.ChangeSpec) : _root_.Go.OpenSpec := { _root_.Go.OpenSpec.ofChange s with cond := some uptoSmall }

/-- 'laws.FnRatAddSwap', WHERE WHAT IT READS IS OF BULK AT MOST 1048576: true; the input reads as it did. -/
def fnRatAddSwapUptoRow : OpenClaim := { program := "ytkkmeghadbmcgaa", sum := "c3707fd2460d61fb20747abc16161b876cafde0ed231b071788c3a0ab331791d", func := "loop.example/atomicspectra/laws.FnRatAddSwap", spec := "fnRatAddSwap", apart := false, narrowed := true }
def FnRatAddSwapUptoSaid : Prop := fnRatAddSwapUptoRow.holds Try.pinned (OpenSpec.upto fnRatAddSwapSpec)

/-- 'laws.FnRatAddThree', WHERE WHAT IT READS IS OF BULK AT MOST 1048576: true; the input reads as it did. -/
def fnRatAddThreeUptoRow : OpenClaim := { program := "ytkkmeghadbmcgaa", sum := "c3707fd2460d61fb20747abc16161b876cafde0ed231b071788c3a0ab331791d", func := "loop.example/atomicspectra/laws.FnRatAddThree", spec := "fnRatAddThree", apart := false, narrowed := true }
def FnRatAddThreeUptoSaid : Prop := fnRatAddThreeUptoRow.holds Try.pinned (OpenSpec.upto fnRatAddThreeSpec)

/-- 'laws.FnRatMulSwap', WHERE WHAT IT READS IS OF BULK AT MOST 1048576: true; the input reads as it did. -/
def fnRatMulSwapUptoRow : OpenClaim := { program := "ytkkmeghadbmcgaa", sum := "c3707fd2460d61fb20747abc16161b876cafde0ed231b071788c3a0ab331791d", func := "loop.example/atomicspectra/laws.FnRatMulSwap", spec := "fnRatMulSwap", apart := false, narrowed := true }
def FnRatMulSwapUptoSaid : Prop := fnRatMulSwapUptoRow.holds Try.pinned (OpenSpec.upto fnRatMulSwapSpec)

/-- 'laws.FnRatDivSelf', WHERE WHAT IT READS IS OF BULK AT MOST 1048576: true; the input reads as it did. -/
def fnRatDivSelfUptoRow : OpenClaim := { program := "ytkkmeghadbmcgaa", sum := "c3707fd2460d61fb20747abc16161b876cafde0ed231b071788c3a0ab331791d", func := "loop.example/atomicspectra/laws.FnRatDivSelf", spec := "fnRatDivSelf", apart := false, narrowed := true }
def FnRatDivSelfUptoSaid : Prop := fnRatDivSelfUptoRow.holds Try.pinned (OpenSpec.upto fnRatDivSelfSpec)

/-- 'laws.FnRatMulDiv', WHERE WHAT IT READS IS OF BULK AT MOST 1048576: true; the input reads as it did. -/
def fnRatMulDivUptoRow : OpenClaim := { program := "ytkkmeghadbmcgaa", sum := "c3707fd2460d61fb20747abc16161b876cafde0ed231b071788c3a0ab331791d", func := "loop.example/atomicspectra/laws.FnRatMulDiv", spec := "fnRatMulDiv", apart := false, narrowed := true }
def FnRatMulDivUptoSaid : Prop := fnRatMulDivUptoRow.holds Try.pinned (OpenSpec.upto fnRatMulDivSpec)

/-- 'laws.FnRatMulOver', WHERE WHAT IT READS IS OF BULK AT MOST 1048576: true; the input reads as it did. -/
def fnRatMulOverUptoRow : OpenClaim := { program := "ytkkmeghadbmcgaa", sum := "c3707fd2460d61fb20747abc16161b876cafde0ed231b071788c3a0ab331791d", func := "loop.example/atomicspectra/laws.FnRatMulOver", spec := "fnRatMulOver", apart := false, narrowed := true }
def FnRatMulOverUptoSaid : Prop := fnRatMulOverUptoRow.holds Try.pinned (OpenSpec.upto fnRatMulOverSpec)

/-- 'laws.FnRatAddSub', WHERE WHAT IT READS IS OF BULK AT MOST 1048576: true; the input reads as it did. -/
def fnRatAddSubUptoRow : OpenClaim := { program := "ytkkmeghadbmcgaa", sum := "c3707fd2460d61fb20747abc16161b876cafde0ed231b071788c3a0ab331791d", func := "loop.example/atomicspectra/laws.FnRatAddSub", spec := "fnRatAddSub", apart := false, narrowed := true }
def FnRatAddSubUptoSaid : Prop := fnRatAddSubUptoRow.holds Try.pinned (OpenSpec.upto fnRatAddSubSpec)

/-- 'laws.FnRatDiv', WHERE WHAT IT READS IS OF BULK AT MOST 1048576: true; the input reads as it did. -/
def fnRatDivUptoRow : OpenClaim := { program := "ytkkmeghadbmcgaa", sum := "c3707fd2460d61fb20747abc16161b876cafde0ed231b071788c3a0ab331791d", func := "loop.example/atomicspectra/laws.FnRatDiv", spec := "fnRatDiv", apart := false, narrowed := true }
def FnRatDivUptoSaid : Prop := fnRatDivUptoRow.holds Try.pinned (OpenSpec.upto fnRatDivSpec)

/-- 'laws.FnRatSub', WHERE WHAT IT READS IS OF BULK AT MOST 1048576: true; the input reads as it did. -/
def fnRatSubUptoRow : OpenClaim := { program := "ytkkmeghadbmcgaa", sum := "c3707fd2460d61fb20747abc16161b876cafde0ed231b071788c3a0ab331791d", func := "loop.example/atomicspectra/laws.FnRatSub", spec := "fnRatSub", apart := false, narrowed := true }
def FnRatSubUptoSaid : Prop := fnRatSubUptoRow.holds Try.pinned (OpenSpec.upto fnRatSubSpec)

/-- 'laws.FnRatLessThree', WHERE WHAT IT READS IS OF BULK AT MOST 1048576: true; the input reads as it did. -/
def fnRatLessThreeUptoRow : OpenClaim := { program := "ytkkmeghadbmcgaa", sum := "c3707fd2460d61fb20747abc16161b876cafde0ed231b071788c3a0ab331791d", func := "loop.example/atomicspectra/laws.FnRatLessThree", spec := "fnRatLessThree", apart := false, narrowed := true }
def FnRatLessThreeUptoSaid : Prop := fnRatLessThreeUptoRow.holds Try.pinned (OpenSpec.upto fnRatLessThreeSpec)

/-- 'laws.FnRatLessOne', WHERE WHAT IT READS IS OF BULK AT MOST 1048576: true; the input reads as it did. -/
def fnRatLessOneUptoRow : OpenClaim := { program := "ytkkmeghadbmcgaa", sum := "c3707fd2460d61fb20747abc16161b876cafde0ed231b071788c3a0ab331791d", func := "loop.example/atomicspectra/laws.FnRatLessOne", spec := "fnRatLessOne", apart := false, narrowed := true }
def FnRatLessOneUptoSaid : Prop := fnRatLessOneUptoRow.holds Try.pinned (OpenSpec.upto fnRatLessOneSpec)

/-- 'laws.FnRatLess', WHERE WHAT IT READS IS OF BULK AT MOST 1048576: true; the input reads as it did. -/
def fnRatLessUptoRow : OpenClaim := { program := "ytkkmeghadbmcgaa", sum := "c3707fd2460d61fb20747abc16161b876cafde0ed231b071788c3a0ab331791d", func := "loop.example/atomicspectra/laws.FnRatLess", spec := "fnRatLess", apart := false, narrowed := true }
def FnRatLessUptoSaid : Prop := fnRatLessUptoRow.holds Try.pinned (OpenSpec.upto fnRatLessSpec)

end Rows
end Go.Proofs.Ytkkmeghadbmcgaa
