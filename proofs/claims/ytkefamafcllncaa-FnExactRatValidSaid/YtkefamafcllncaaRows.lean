/-
  No cell of these rows narrows 'for every input' (looked for: loops, veiled, ifaces, maps, wideKeys, modest, calm, conditions, laid).
  DERIVED. THE GIVEN ROWS OF THIS SEAT. 10 by the template 'for every input the law returns true; each argument reads behind the call as it read before'; 0 by the template 'total and deterministic' (their statements: YtkefamafcllncaaTotals.lean).
  GIVEN WITH THE SEED: the statements are not yours to turn. If you find one false, say at which input.
  Laid BY PROGRAM, IN A SANDBOX (cutbox-rows.mjs): the forced cells as the released guide's own fill.sh prints them over the translation 739ca5457bcc2752… (all of the seat's roots in one cut). By AI agents, Wed Nov 11 2026. No macro, syntax, notation, axiom, sorry.
-/
import Derived.Test.YtkefamafcllncaaChecked
import GoSem.Claim
import GoSem.ClaimJoined
import GoSem.ClaimMapViews
import Derived.JoinedTies
import Derived.KernelRfl
namespace Go.Proofs.Ytkefamafcllncaa
/- THE CELL 'sum', in the pinned program and in every row, IS THE sha256 OF THE DUMP (.gsa) THAT YtkefamafcllncaaProg.lean LOADS. Nothing in Lean hashes anything: it is a label: what it is worth is what the hold of that sum in a sandbox is worth. -/
noncomputable def Try.pinned : Pinned := { name := "ytkefamafcllncaa", sum := "739ca5457bcc2752a997a9fac620ad2c0502ce5d03eddfbf73ed33512bda5750", checked := Try.checked }
namespace Rows
def none {H : Type} : Left H := { results := [], args := [] }

/-- 'laws.FnExactRatValid': WHATEVER THE INPUT: true; the input reads as it did. -/
def fnExactRatValidSpec : ChangeSpec := { name := "fnExactRatValid", fn := fun _ => fun
  | [d] => { results := [.lit (.bool true)], args := [d] }
  | _ => none }
def fnExactRatValidRow : OpenClaim := { program := "ytkefamafcllncaa", sum := "739ca5457bcc2752a997a9fac620ad2c0502ce5d03eddfbf73ed33512bda5750", func := "loop.example/atomicspectra/laws.FnExactRatValid", spec := "fnExactRatValid", apart := false }
def FnExactRatValidSaid : Prop := fnExactRatValidRow.holds Try.pinned (OpenSpec.ofChange fnExactRatValidSpec)

/-- ITS FALSE NEIGHBOUR: 'it returns false'. Refute it at one input. -/
def fnExactRatValidWrong : ChangeSpec := { name := "fnExactRatValid", fn := fun _ => fun
  | [d] => { results := [.lit (.bool false)], args := [d] }
  | _ => none }
def FnExactRatValidWrongFalsely : Prop := fnExactRatValidRow.holds Try.pinned (OpenSpec.ofChange fnExactRatValidWrong)

/-- 'laws.FnExactRatOf': WHATEVER THE INPUT: true; the input reads as it did. -/
def fnExactRatOfSpec : ChangeSpec := { name := "fnExactRatOf", fn := fun _ => fun
  | [d1, d2] => { results := [.lit (.bool true)], args := [d1, d2] }
  | _ => none }
def fnExactRatOfRow : OpenClaim := { program := "ytkefamafcllncaa", sum := "739ca5457bcc2752a997a9fac620ad2c0502ce5d03eddfbf73ed33512bda5750", func := "loop.example/atomicspectra/laws.FnExactRatOf", spec := "fnExactRatOf", apart := false }
def FnExactRatOfSaid : Prop := fnExactRatOfRow.holds Try.pinned (OpenSpec.ofChange fnExactRatOfSpec)

/-- ITS FALSE NEIGHBOUR: 'it returns false'. Refute it at one input. -/
def fnExactRatOfWrong : ChangeSpec := { name := "fnExactRatOf", fn := fun _ => fun
  | [d1, d2] => { results := [.lit (.bool false)], args := [d1, d2] }
  | _ => none }
def FnExactRatOfWrongFalsely : Prop := fnExactRatOfRow.holds Try.pinned (OpenSpec.ofChange fnExactRatOfWrong)

/-- 'laws.FnExactRatLess': WHATEVER THE INPUT: true; the input reads as it did. -/
def fnExactRatLessSpec : ChangeSpec := { name := "fnExactRatLess", fn := fun _ => fun
  | [d1, d2] => { results := [.lit (.bool true)], args := [d1, d2] }
  | _ => none }
def fnExactRatLessRow : OpenClaim := { program := "ytkefamafcllncaa", sum := "739ca5457bcc2752a997a9fac620ad2c0502ce5d03eddfbf73ed33512bda5750", func := "loop.example/atomicspectra/laws.FnExactRatLess", spec := "fnExactRatLess", apart := false }
def FnExactRatLessSaid : Prop := fnExactRatLessRow.holds Try.pinned (OpenSpec.ofChange fnExactRatLessSpec)

/-- ITS FALSE NEIGHBOUR: 'it returns false'. Refute it at one input. -/
def fnExactRatLessWrong : ChangeSpec := { name := "fnExactRatLess", fn := fun _ => fun
  | [d1, d2] => { results := [.lit (.bool false)], args := [d1, d2] }
  | _ => none }
def FnExactRatLessWrongFalsely : Prop := fnExactRatLessRow.holds Try.pinned (OpenSpec.ofChange fnExactRatLessWrong)

/-- 'laws.FnExactRatAdd': WHATEVER THE INPUT: true; the input reads as it did. -/
def fnExactRatAddSpec : ChangeSpec := { name := "fnExactRatAdd", fn := fun _ => fun
  | [d1, d2] => { results := [.lit (.bool true)], args := [d1, d2] }
  | _ => none }
def fnExactRatAddRow : OpenClaim := { program := "ytkefamafcllncaa", sum := "739ca5457bcc2752a997a9fac620ad2c0502ce5d03eddfbf73ed33512bda5750", func := "loop.example/atomicspectra/laws.FnExactRatAdd", spec := "fnExactRatAdd", apart := false }
def FnExactRatAddSaid : Prop := fnExactRatAddRow.holds Try.pinned (OpenSpec.ofChange fnExactRatAddSpec)

/-- ITS FALSE NEIGHBOUR: 'it returns false'. Refute it at one input. -/
def fnExactRatAddWrong : ChangeSpec := { name := "fnExactRatAdd", fn := fun _ => fun
  | [d1, d2] => { results := [.lit (.bool false)], args := [d1, d2] }
  | _ => none }
def FnExactRatAddWrongFalsely : Prop := fnExactRatAddRow.holds Try.pinned (OpenSpec.ofChange fnExactRatAddWrong)

/-- 'laws.FnExactRatDiv': WHATEVER THE INPUT: true; the input reads as it did. -/
def fnExactRatDivSpec : ChangeSpec := { name := "fnExactRatDiv", fn := fun _ => fun
  | [d1, d2] => { results := [.lit (.bool true)], args := [d1, d2] }
  | _ => none }
def fnExactRatDivRow : OpenClaim := { program := "ytkefamafcllncaa", sum := "739ca5457bcc2752a997a9fac620ad2c0502ce5d03eddfbf73ed33512bda5750", func := "loop.example/atomicspectra/laws.FnExactRatDiv", spec := "fnExactRatDiv", apart := false }
def FnExactRatDivSaid : Prop := fnExactRatDivRow.holds Try.pinned (OpenSpec.ofChange fnExactRatDivSpec)

/-- ITS FALSE NEIGHBOUR: 'it returns false'. Refute it at one input. -/
def fnExactRatDivWrong : ChangeSpec := { name := "fnExactRatDiv", fn := fun _ => fun
  | [d1, d2] => { results := [.lit (.bool false)], args := [d1, d2] }
  | _ => none }
def FnExactRatDivWrongFalsely : Prop := fnExactRatDivRow.holds Try.pinned (OpenSpec.ofChange fnExactRatDivWrong)

/-- 'laws.FnExactRatMul': WHATEVER THE INPUT: true; the input reads as it did. -/
def fnExactRatMulSpec : ChangeSpec := { name := "fnExactRatMul", fn := fun _ => fun
  | [d1, d2] => { results := [.lit (.bool true)], args := [d1, d2] }
  | _ => none }
def fnExactRatMulRow : OpenClaim := { program := "ytkefamafcllncaa", sum := "739ca5457bcc2752a997a9fac620ad2c0502ce5d03eddfbf73ed33512bda5750", func := "loop.example/atomicspectra/laws.FnExactRatMul", spec := "fnExactRatMul", apart := false }
def FnExactRatMulSaid : Prop := fnExactRatMulRow.holds Try.pinned (OpenSpec.ofChange fnExactRatMulSpec)

/-- ITS FALSE NEIGHBOUR: 'it returns false'. Refute it at one input. -/
def fnExactRatMulWrong : ChangeSpec := { name := "fnExactRatMul", fn := fun _ => fun
  | [d1, d2] => { results := [.lit (.bool false)], args := [d1, d2] }
  | _ => none }
def FnExactRatMulWrongFalsely : Prop := fnExactRatMulRow.holds Try.pinned (OpenSpec.ofChange fnExactRatMulWrong)

/-- 'laws.FnExactRatSub': WHATEVER THE INPUT: true; the input reads as it did. -/
def fnExactRatSubSpec : ChangeSpec := { name := "fnExactRatSub", fn := fun _ => fun
  | [d1, d2] => { results := [.lit (.bool true)], args := [d1, d2] }
  | _ => none }
def fnExactRatSubRow : OpenClaim := { program := "ytkefamafcllncaa", sum := "739ca5457bcc2752a997a9fac620ad2c0502ce5d03eddfbf73ed33512bda5750", func := "loop.example/atomicspectra/laws.FnExactRatSub", spec := "fnExactRatSub", apart := false }
def FnExactRatSubSaid : Prop := fnExactRatSubRow.holds Try.pinned (OpenSpec.ofChange fnExactRatSubSpec)

/-- ITS FALSE NEIGHBOUR: 'it returns false'. Refute it at one input. -/
def fnExactRatSubWrong : ChangeSpec := { name := "fnExactRatSub", fn := fun _ => fun
  | [d1, d2] => { results := [.lit (.bool false)], args := [d1, d2] }
  | _ => none }
def FnExactRatSubWrongFalsely : Prop := fnExactRatSubRow.holds Try.pinned (OpenSpec.ofChange fnExactRatSubWrong)

/-- 'laws.FnRatOf': WHATEVER THE INPUT: true; the input reads as it did. -/
def fnRatOfSpec : ChangeSpec := { name := "fnRatOf", fn := fun _ => fun
  | [d] => { results := [.lit (.bool true)], args := [d] }
  | _ => none }
def fnRatOfRow : OpenClaim := { program := "ytkefamafcllncaa", sum := "739ca5457bcc2752a997a9fac620ad2c0502ce5d03eddfbf73ed33512bda5750", func := "loop.example/atomicspectra/laws.FnRatOf", spec := "fnRatOf", apart := false }
def FnRatOfSaid : Prop := fnRatOfRow.holds Try.pinned (OpenSpec.ofChange fnRatOfSpec)

/-- ITS FALSE NEIGHBOUR: 'it returns false'. Refute it at one input. -/
def fnRatOfWrong : ChangeSpec := { name := "fnRatOf", fn := fun _ => fun
  | [d] => { results := [.lit (.bool false)], args := [d] }
  | _ => none }
def FnRatOfWrongFalsely : Prop := fnRatOfRow.holds Try.pinned (OpenSpec.ofChange fnRatOfWrong)

/-- 'laws.FnRatOfTimes': WHATEVER THE INPUT: true; the input reads as it did. -/
def fnRatOfTimesSpec : ChangeSpec := { name := "fnRatOfTimes", fn := fun _ => fun
  | [d1, d2] => { results := [.lit (.bool true)], args := [d1, d2] }
  | _ => none }
def fnRatOfTimesRow : OpenClaim := { program := "ytkefamafcllncaa", sum := "739ca5457bcc2752a997a9fac620ad2c0502ce5d03eddfbf73ed33512bda5750", func := "loop.example/atomicspectra/laws.FnRatOfTimes", spec := "fnRatOfTimes", apart := false }
def FnRatOfTimesSaid : Prop := fnRatOfTimesRow.holds Try.pinned (OpenSpec.ofChange fnRatOfTimesSpec)

/-- ITS FALSE NEIGHBOUR: 'it returns false'. Refute it at one input. -/
def fnRatOfTimesWrong : ChangeSpec := { name := "fnRatOfTimes", fn := fun _ => fun
  | [d1, d2] => { results := [.lit (.bool false)], args := [d1, d2] }
  | _ => none }
def FnRatOfTimesWrongFalsely : Prop := fnRatOfTimesRow.holds Try.pinned (OpenSpec.ofChange fnRatOfTimesWrong)

/-- 'laws.FnRat': WHATEVER THE INPUT: true; the input reads as it did. -/
def fnRatSpec : ChangeSpec := { name := "fnRat", fn := fun _ => fun
  | [d] => { results := [.lit (.bool true)], args := [d] }
  | _ => none }
def fnRatRow : OpenClaim := { program := "ytkefamafcllncaa", sum := "739ca5457bcc2752a997a9fac620ad2c0502ce5d03eddfbf73ed33512bda5750", func := "loop.example/atomicspectra/laws.FnRat", spec := "fnRat", apart := false }
def FnRatSaid : Prop := fnRatRow.holds Try.pinned (OpenSpec.ofChange fnRatSpec)

/-- ITS FALSE NEIGHBOUR: 'it returns false'. Refute it at one input. -/
def fnRatWrong : ChangeSpec := { name := "fnRat", fn := fun _ => fun
  | [d] => { results := [.lit (.bool false)], args := [d] }
  | _ => none }
def FnRatWrongFalsely : Prop := fnRatRow.holds Try.pinned (OpenSpec.ofChange fnRatWrong)

/- THE SECOND FORM. 'bulk': how many values and letters a reading holds, each counted each time it is reached (what is shared counts as often as it is met; a slice's spare places count too). A statement '..UptoSaid' is the law's where the arguments, and the package variables that the reading takes, are together of bulk at most 1048576: NARROWER than '..Said'. Prove '..Said' where nothing that the law and all that it calls make is longer than what came in: it says more and counts as full. Else prove '..UptoSaid'. A law counts once. -/
mutual
def uptoBulk {H : Type} : DataW H → Nat
  | .lit (.string bytes) => bytes.length + 1
  | .lit _ => 1
  | .nil => 1
  | .ptr d => uptoBulk d + 1
  | .slice elems spare => uptoBulkAll elems + uptoBulkAll spare + 1
  | .agg parts => uptoBulkAll parts + 1
  | .iface _ d => uptoBulk d + 1
  | .map entries => uptoBulkEntries entries + 1
  | .held _ => 1
def uptoBulkAll {H : Type} : List (DataW H) → Nat
  | [] => 0
  | d :: r => uptoBulk d + uptoBulkAll r
def uptoBulkEntries {H : Type} : List (Lit × DataW H) → Nat
  | [] => 0
  | x :: r => uptoBulkEntry x + uptoBulkEntries r
def uptoBulkEntry {H : Type} : Lit × DataW H → Nat
  | (.string bytes, d) => bytes.length + uptoBulk d + 1
  | (_, d) => uptoBulk d + 1
 end
def uptoSmall : (H : Type) → List (DataW H) → Bool := fun _ ds => decide (uptoBulkAll ds ≤ 1048576)
def OpenSpec.upto (s : _root_.Go.ChangeSpec) : _root_.Go.OpenSpec := { _root_.Go.OpenSpec.ofChange s with cond := some uptoSmall }

/-- 'laws.FnExactRatValid', WHERE WHAT IT READS IS OF BULK AT MOST 1048576: true; the input reads as it did. -/
def fnExactRatValidUptoRow : OpenClaim := { program := "ytkefamafcllncaa", sum := "739ca5457bcc2752a997a9fac620ad2c0502ce5d03eddfbf73ed33512bda5750", func := "loop.example/atomicspectra/laws.FnExactRatValid", spec := "fnExactRatValid", apart := false, narrowed := true }
def FnExactRatValidUptoSaid : Prop := fnExactRatValidUptoRow.holds Try.pinned (OpenSpec.upto fnExactRatValidSpec)

/-- 'laws.FnExactRatOf', WHERE WHAT IT READS IS OF BULK AT MOST 1048576: true; the input reads as it did. -/
def fnExactRatOfUptoRow : OpenClaim := { program := "ytkefamafcllncaa", sum := "739ca5457bcc2752a997a9fac620ad2c0502ce5d03eddfbf73ed33512bda5750", func := "loop.example/atomicspectra/laws.FnExactRatOf", spec := "fnExactRatOf", apart := false, narrowed := true }
def FnExactRatOfUptoSaid : Prop := fnExactRatOfUptoRow.holds Try.pinned (OpenSpec.upto fnExactRatOfSpec)

/-- 'laws.FnExactRatLess', WHERE WHAT IT READS IS OF BULK AT MOST 1048576: true; the input reads as it did. -/
def fnExactRatLessUptoRow : OpenClaim := { program := "ytkefamafcllncaa", sum := "739ca5457bcc2752a997a9fac620ad2c0502ce5d03eddfbf73ed33512bda5750", func := "loop.example/atomicspectra/laws.FnExactRatLess", spec := "fnExactRatLess", apart := false, narrowed := true }
def FnExactRatLessUptoSaid : Prop := fnExactRatLessUptoRow.holds Try.pinned (OpenSpec.upto fnExactRatLessSpec)

/-- 'laws.FnExactRatAdd', WHERE WHAT IT READS IS OF BULK AT MOST 1048576: true; the input reads as it did. -/
def fnExactRatAddUptoRow : OpenClaim := { program := "ytkefamafcllncaa", sum := "739ca5457bcc2752a997a9fac620ad2c0502ce5d03eddfbf73ed33512bda5750", func := "loop.example/atomicspectra/laws.FnExactRatAdd", spec := "fnExactRatAdd", apart := false, narrowed := true }
def FnExactRatAddUptoSaid : Prop := fnExactRatAddUptoRow.holds Try.pinned (OpenSpec.upto fnExactRatAddSpec)

/-- 'laws.FnExactRatDiv', WHERE WHAT IT READS IS OF BULK AT MOST 1048576: true; the input reads as it did. -/
def fnExactRatDivUptoRow : OpenClaim := { program := "ytkefamafcllncaa", sum := "739ca5457bcc2752a997a9fac620ad2c0502ce5d03eddfbf73ed33512bda5750", func := "loop.example/atomicspectra/laws.FnExactRatDiv", spec := "fnExactRatDiv", apart := false, narrowed := true }
def FnExactRatDivUptoSaid : Prop := fnExactRatDivUptoRow.holds Try.pinned (OpenSpec.upto fnExactRatDivSpec)

/-- 'laws.FnExactRatMul', WHERE WHAT IT READS IS OF BULK AT MOST 1048576: true; the input reads as it did. -/
def fnExactRatMulUptoRow : OpenClaim := { program := "ytkefamafcllncaa", sum := "739ca5457bcc2752a997a9fac620ad2c0502ce5d03eddfbf73ed33512bda5750", func := "loop.example/atomicspectra/laws.FnExactRatMul", spec := "fnExactRatMul", apart := false, narrowed := true }
def FnExactRatMulUptoSaid : Prop := fnExactRatMulUptoRow.holds Try.pinned (OpenSpec.upto fnExactRatMulSpec)

/-- 'laws.FnExactRatSub', WHERE WHAT IT READS IS OF BULK AT MOST 1048576: true; the input reads as it did. -/
def fnExactRatSubUptoRow : OpenClaim := { program := "ytkefamafcllncaa", sum := "739ca5457bcc2752a997a9fac620ad2c0502ce5d03eddfbf73ed33512bda5750", func := "loop.example/atomicspectra/laws.FnExactRatSub", spec := "fnExactRatSub", apart := false, narrowed := true }
def FnExactRatSubUptoSaid : Prop := fnExactRatSubUptoRow.holds Try.pinned (OpenSpec.upto fnExactRatSubSpec)

/-- 'laws.FnRatOf', WHERE WHAT IT READS IS OF BULK AT MOST 1048576: true; the input reads as it did. -/
def fnRatOfUptoRow : OpenClaim := { program := "ytkefamafcllncaa", sum := "739ca5457bcc2752a997a9fac620ad2c0502ce5d03eddfbf73ed33512bda5750", func := "loop.example/atomicspectra/laws.FnRatOf", spec := "fnRatOf", apart := false, narrowed := true }
def FnRatOfUptoSaid : Prop := fnRatOfUptoRow.holds Try.pinned (OpenSpec.upto fnRatOfSpec)

/-- 'laws.FnRatOfTimes', WHERE WHAT IT READS IS OF BULK AT MOST 1048576: true; the input reads as it did. -/
def fnRatOfTimesUptoRow : OpenClaim := { program := "ytkefamafcllncaa", sum := "739ca5457bcc2752a997a9fac620ad2c0502ce5d03eddfbf73ed33512bda5750", func := "loop.example/atomicspectra/laws.FnRatOfTimes", spec := "fnRatOfTimes", apart := false, narrowed := true }
def FnRatOfTimesUptoSaid : Prop := fnRatOfTimesUptoRow.holds Try.pinned (OpenSpec.upto fnRatOfTimesSpec)

/-- 'laws.FnRat', WHERE WHAT IT READS IS OF BULK AT MOST 1048576: true; the input reads as it did. -/
def fnRatUptoRow : OpenClaim := { program := "ytkefamafcllncaa", sum := "739ca5457bcc2752a997a9fac620ad2c0502ce5d03eddfbf73ed33512bda5750", func := "loop.example/atomicspectra/laws.FnRat", spec := "fnRat", apart := false, narrowed := true }
def FnRatUptoSaid : Prop := fnRatUptoRow.holds Try.pinned (OpenSpec.upto fnRatSpec)

end Rows
end Go.Proofs.Ytkefamafcllncaa
