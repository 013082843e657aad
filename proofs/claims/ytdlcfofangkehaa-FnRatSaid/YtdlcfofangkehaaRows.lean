/-
  No cell of these rows narrows 'for every input' (looked for: loops, veiled, ifaces, maps, wideKeys, modest, calm, conditions, laid).
  DERIVED. THE GIVEN ROWS OF THIS SEAT. 11 by the template 'for every input the law returns true; each argument reads behind the call as it read before'; 0 by the template 'total and deterministic' (their statements: YtdlcfofangkehaaTotals.lean).
  GIVEN WITH THE SEED: the statements are not yours to turn. If you find one false, say at which input.
  Laid BY PROGRAM, IN A SANDBOX (cutbox-rows.mjs): the forced cells as the released guide's own fill.sh prints them over the translation 0f2dc1e0d65f5e9a… (all of the seat's roots in one cut). By AI agents, Wed Nov 11 2026. No macro, syntax, notation, axiom, sorry.
-/
import Derived.Test.YtdlcfofangkehaaChecked
import GoSem.Claim
import GoSem.ClaimJoined
import GoSem.ClaimMapViews
import Derived.JoinedTies
import Derived.KernelRfl
namespace Go.Proofs.Ytdlcfofangkehaa
/- THE CELL 'sum', in the pinned program and in every row, IS THE sha256 OF THE DUMP (.gsa) THAT YtdlcfofangkehaaProg.lean LOADS. Nothing in Lean hashes anything: it is a label: what it is worth is what the hold of that sum in a sandbox is worth. -/
noncomputable def Try.pinned : Pinned := { name := "ytdlcfofangkehaa", sum := "0f2dc1e0d65f5e9ab9d63b15f206c3feefc66cce697e7ad5677ac75cf4280993", checked := Try.checked }
namespace Rows
def none {H : Type} : Left H := { results := [], args := [] }

/-- 'laws.FnRatDivSelf': WHATEVER THE INPUT: true; the input reads as it did. -/
def fnRatDivSelfSpec : ChangeSpec := { name := "fnRatDivSelf", fn := fun _ => fun
  | [d] => { results := [.lit (.bool true)], args := [d] }
  | _ => none }
def fnRatDivSelfRow : OpenClaim := { program := "ytdlcfofangkehaa", sum := "0f2dc1e0d65f5e9ab9d63b15f206c3feefc66cce697e7ad5677ac75cf4280993", func := "loop.example/atomicspectra/laws.FnRatDivSelf", spec := "fnRatDivSelf", apart := false }
def FnRatDivSelfSaid : Prop := fnRatDivSelfRow.holds Try.pinned (OpenSpec.ofChange fnRatDivSelfSpec)

/-- ITS FALSE NEIGHBOUR: 'it returns false'. Refute it at one input. -/
def fnRatDivSelfWrong : ChangeSpec := { name := "fnRatDivSelf", fn := fun _ => fun
  | [d] => { results := [.lit (.bool false)], args := [d] }
  | _ => none }
def FnRatDivSelfWrongFalsely : Prop := fnRatDivSelfRow.holds Try.pinned (OpenSpec.ofChange fnRatDivSelfWrong)

/-- 'laws.FnRatDiv': WHATEVER THE INPUT: true; the input reads as it did. -/
def fnRatDivSpec : ChangeSpec := { name := "fnRatDiv", fn := fun _ => fun
  | [d] => { results := [.lit (.bool true)], args := [d] }
  | _ => none }
def fnRatDivRow : OpenClaim := { program := "ytdlcfofangkehaa", sum := "0f2dc1e0d65f5e9ab9d63b15f206c3feefc66cce697e7ad5677ac75cf4280993", func := "loop.example/atomicspectra/laws.FnRatDiv", spec := "fnRatDiv", apart := false }
def FnRatDivSaid : Prop := fnRatDivRow.holds Try.pinned (OpenSpec.ofChange fnRatDivSpec)

/-- ITS FALSE NEIGHBOUR: 'it returns false'. Refute it at one input. -/
def fnRatDivWrong : ChangeSpec := { name := "fnRatDiv", fn := fun _ => fun
  | [d] => { results := [.lit (.bool false)], args := [d] }
  | _ => none }
def FnRatDivWrongFalsely : Prop := fnRatDivRow.holds Try.pinned (OpenSpec.ofChange fnRatDivWrong)

/-- 'laws.FnRatSub': WHATEVER THE INPUT: true; the input reads as it did. -/
def fnRatSubSpec : ChangeSpec := { name := "fnRatSub", fn := fun _ => fun
  | [d] => { results := [.lit (.bool true)], args := [d] }
  | _ => none }
def fnRatSubRow : OpenClaim := { program := "ytdlcfofangkehaa", sum := "0f2dc1e0d65f5e9ab9d63b15f206c3feefc66cce697e7ad5677ac75cf4280993", func := "loop.example/atomicspectra/laws.FnRatSub", spec := "fnRatSub", apart := false }
def FnRatSubSaid : Prop := fnRatSubRow.holds Try.pinned (OpenSpec.ofChange fnRatSubSpec)

/-- ITS FALSE NEIGHBOUR: 'it returns false'. Refute it at one input. -/
def fnRatSubWrong : ChangeSpec := { name := "fnRatSub", fn := fun _ => fun
  | [d] => { results := [.lit (.bool false)], args := [d] }
  | _ => none }
def FnRatSubWrongFalsely : Prop := fnRatSubRow.holds Try.pinned (OpenSpec.ofChange fnRatSubWrong)

/-- 'laws.FnExactRatLess': WHATEVER THE INPUT: true; the input reads as it did. -/
def fnExactRatLessSpec : ChangeSpec := { name := "fnExactRatLess", fn := fun _ => fun
  | [d1, d2] => { results := [.lit (.bool true)], args := [d1, d2] }
  | _ => none }
def fnExactRatLessRow : OpenClaim := { program := "ytdlcfofangkehaa", sum := "0f2dc1e0d65f5e9ab9d63b15f206c3feefc66cce697e7ad5677ac75cf4280993", func := "loop.example/atomicspectra/laws.FnExactRatLess", spec := "fnExactRatLess", apart := false }
def FnExactRatLessSaid : Prop := fnExactRatLessRow.holds Try.pinned (OpenSpec.ofChange fnExactRatLessSpec)

/-- ITS FALSE NEIGHBOUR: 'it returns false'. Refute it at one input. -/
def fnExactRatLessWrong : ChangeSpec := { name := "fnExactRatLess", fn := fun _ => fun
  | [d1, d2] => { results := [.lit (.bool false)], args := [d1, d2] }
  | _ => none }
def FnExactRatLessWrongFalsely : Prop := fnExactRatLessRow.holds Try.pinned (OpenSpec.ofChange fnExactRatLessWrong)

/-- 'laws.FnExactRatAdd': WHATEVER THE INPUT: true; the input reads as it did. -/
def fnExactRatAddSpec : ChangeSpec := { name := "fnExactRatAdd", fn := fun _ => fun
  | [d1, d2] => { results := [.lit (.bool true)], args := [d1, d2] }
  | _ => none }
def fnExactRatAddRow : OpenClaim := { program := "ytdlcfofangkehaa", sum := "0f2dc1e0d65f5e9ab9d63b15f206c3feefc66cce697e7ad5677ac75cf4280993", func := "loop.example/atomicspectra/laws.FnExactRatAdd", spec := "fnExactRatAdd", apart := false }
def FnExactRatAddSaid : Prop := fnExactRatAddRow.holds Try.pinned (OpenSpec.ofChange fnExactRatAddSpec)

/-- ITS FALSE NEIGHBOUR: 'it returns false'. Refute it at one input. -/
def fnExactRatAddWrong : ChangeSpec := { name := "fnExactRatAdd", fn := fun _ => fun
  | [d1, d2] => { results := [.lit (.bool false)], args := [d1, d2] }
  | _ => none }
def FnExactRatAddWrongFalsely : Prop := fnExactRatAddRow.holds Try.pinned (OpenSpec.ofChange fnExactRatAddWrong)

/-- 'laws.FnExactRatDiv': WHATEVER THE INPUT: true; the input reads as it did. -/
def fnExactRatDivSpec : ChangeSpec := { name := "fnExactRatDiv", fn := fun _ => fun
  | [d1, d2] => { results := [.lit (.bool true)], args := [d1, d2] }
  | _ => none }
def fnExactRatDivRow : OpenClaim := { program := "ytdlcfofangkehaa", sum := "0f2dc1e0d65f5e9ab9d63b15f206c3feefc66cce697e7ad5677ac75cf4280993", func := "loop.example/atomicspectra/laws.FnExactRatDiv", spec := "fnExactRatDiv", apart := false }
def FnExactRatDivSaid : Prop := fnExactRatDivRow.holds Try.pinned (OpenSpec.ofChange fnExactRatDivSpec)

/-- ITS FALSE NEIGHBOUR: 'it returns false'. Refute it at one input. -/
def fnExactRatDivWrong : ChangeSpec := { name := "fnExactRatDiv", fn := fun _ => fun
  | [d1, d2] => { results := [.lit (.bool false)], args := [d1, d2] }
  | _ => none }
def FnExactRatDivWrongFalsely : Prop := fnExactRatDivRow.holds Try.pinned (OpenSpec.ofChange fnExactRatDivWrong)

/-- 'laws.FnExactRatMul': WHATEVER THE INPUT: true; the input reads as it did. -/
def fnExactRatMulSpec : ChangeSpec := { name := "fnExactRatMul", fn := fun _ => fun
  | [d1, d2] => { results := [.lit (.bool true)], args := [d1, d2] }
  | _ => none }
def fnExactRatMulRow : OpenClaim := { program := "ytdlcfofangkehaa", sum := "0f2dc1e0d65f5e9ab9d63b15f206c3feefc66cce697e7ad5677ac75cf4280993", func := "loop.example/atomicspectra/laws.FnExactRatMul", spec := "fnExactRatMul", apart := false }
def FnExactRatMulSaid : Prop := fnExactRatMulRow.holds Try.pinned (OpenSpec.ofChange fnExactRatMulSpec)

/-- ITS FALSE NEIGHBOUR: 'it returns false'. Refute it at one input. -/
def fnExactRatMulWrong : ChangeSpec := { name := "fnExactRatMul", fn := fun _ => fun
  | [d1, d2] => { results := [.lit (.bool false)], args := [d1, d2] }
  | _ => none }
def FnExactRatMulWrongFalsely : Prop := fnExactRatMulRow.holds Try.pinned (OpenSpec.ofChange fnExactRatMulWrong)

/-- 'laws.FnExactRatSub': WHATEVER THE INPUT: true; the input reads as it did. -/
def fnExactRatSubSpec : ChangeSpec := { name := "fnExactRatSub", fn := fun _ => fun
  | [d1, d2] => { results := [.lit (.bool true)], args := [d1, d2] }
  | _ => none }
def fnExactRatSubRow : OpenClaim := { program := "ytdlcfofangkehaa", sum := "0f2dc1e0d65f5e9ab9d63b15f206c3feefc66cce697e7ad5677ac75cf4280993", func := "loop.example/atomicspectra/laws.FnExactRatSub", spec := "fnExactRatSub", apart := false }
def FnExactRatSubSaid : Prop := fnExactRatSubRow.holds Try.pinned (OpenSpec.ofChange fnExactRatSubSpec)

/-- ITS FALSE NEIGHBOUR: 'it returns false'. Refute it at one input. -/
def fnExactRatSubWrong : ChangeSpec := { name := "fnExactRatSub", fn := fun _ => fun
  | [d1, d2] => { results := [.lit (.bool false)], args := [d1, d2] }
  | _ => none }
def FnExactRatSubWrongFalsely : Prop := fnExactRatSubRow.holds Try.pinned (OpenSpec.ofChange fnExactRatSubWrong)

/-- 'laws.FnRatOf': WHATEVER THE INPUT: true; the input reads as it did. -/
def fnRatOfSpec : ChangeSpec := { name := "fnRatOf", fn := fun _ => fun
  | [d] => { results := [.lit (.bool true)], args := [d] }
  | _ => none }
def fnRatOfRow : OpenClaim := { program := "ytdlcfofangkehaa", sum := "0f2dc1e0d65f5e9ab9d63b15f206c3feefc66cce697e7ad5677ac75cf4280993", func := "loop.example/atomicspectra/laws.FnRatOf", spec := "fnRatOf", apart := false }
def FnRatOfSaid : Prop := fnRatOfRow.holds Try.pinned (OpenSpec.ofChange fnRatOfSpec)

/-- ITS FALSE NEIGHBOUR: 'it returns false'. Refute it at one input. -/
def fnRatOfWrong : ChangeSpec := { name := "fnRatOf", fn := fun _ => fun
  | [d] => { results := [.lit (.bool false)], args := [d] }
  | _ => none }
def FnRatOfWrongFalsely : Prop := fnRatOfRow.holds Try.pinned (OpenSpec.ofChange fnRatOfWrong)

/-- 'laws.FnRatOfTimes': WHATEVER THE INPUT: true; the input reads as it did. -/
def fnRatOfTimesSpec : ChangeSpec := { name := "fnRatOfTimes", fn := fun _ => fun
  | [d1, d2] => { results := [.lit (.bool true)], args := [d1, d2] }
  | _ => none }
def fnRatOfTimesRow : OpenClaim := { program := "ytdlcfofangkehaa", sum := "0f2dc1e0d65f5e9ab9d63b15f206c3feefc66cce697e7ad5677ac75cf4280993", func := "loop.example/atomicspectra/laws.FnRatOfTimes", spec := "fnRatOfTimes", apart := false }
def FnRatOfTimesSaid : Prop := fnRatOfTimesRow.holds Try.pinned (OpenSpec.ofChange fnRatOfTimesSpec)

/-- ITS FALSE NEIGHBOUR: 'it returns false'. Refute it at one input. -/
def fnRatOfTimesWrong : ChangeSpec := { name := "fnRatOfTimes", fn := fun _ => fun
  | [d1, d2] => { results := [.lit (.bool false)], args := [d1, d2] }
  | _ => none }
def FnRatOfTimesWrongFalsely : Prop := fnRatOfTimesRow.holds Try.pinned (OpenSpec.ofChange fnRatOfTimesWrong)

/-- 'laws.FnRat': WHATEVER THE INPUT: true; the input reads as it did. -/
def fnRatSpec : ChangeSpec := { name := "fnRat", fn := fun _ => fun
  | [d] => { results := [.lit (.bool true)], args := [d] }
  | _ => none }
def fnRatRow : OpenClaim := { program := "ytdlcfofangkehaa", sum := "0f2dc1e0d65f5e9ab9d63b15f206c3feefc66cce697e7ad5677ac75cf4280993", func := "loop.example/atomicspectra/laws.FnRat", spec := "fnRat", apart := false }
def FnRatSaid : Prop := fnRatRow.holds Try.pinned (OpenSpec.ofChange fnRatSpec)

/-- ITS FALSE NEIGHBOUR: 'it returns false'. Refute it at one input. -/
def fnRatWrong : ChangeSpec := { name := "fnRat", fn := fun _ => fun
  | [d] => { results := [.lit (.bool false)], args := [d] }
  | _ => none }
def FnRatWrongFalsely : Prop := fnRatRow.holds Try.pinned (OpenSpec.ofChange fnRatWrong)

/- THE SECOND FORM. 'bulk': how many values and letters a reading holds, each counted each time it is reached (what is shared counts as often as it is met; a slice's spare places count too). A statement '..UptoSaid' is the law's where the arguments, and the package variables that the reading takes, are together of bulk at most 1048576: NARROWER than '..Said'. Prove '..Said' where nothing that the law and all that it calls make is longer than what came in: it says more and counts as full. Else prove '..UptoSaid'. A law counts once. -/
mutual
def uptoBulk {H : Type} : DataW H → Nat
  | .lit (.string bytes) => bytes.length + 1
  | .lit _ => 1
  | .nil => 1
  | .ptr d => uptoBulk d + 1
  | .slice elems spare => uptoBulkAll elems + uptoBulkAll spare + 1
  | .agg parts => uptoBulkAll parts + 1
  | .iface _ d => uptoBulk d + 1
  | .map entries => uptoBulkEntries entries + 1
  | .held _ => 1
def uptoBulkAll {H : Type} : List (DataW H) → Nat
  | [] => 0
  | d :: r => uptoBulk d + uptoBulkAll r
def uptoBulkEntries {H : Type} : List (Lit × DataW H) → Nat
  | [] => 0
  | x :: r => uptoBulkEntry x + uptoBulkEntries r
def uptoBulkEntry {H : Type} : Lit × DataW H → Nat
  | (.string bytes, d) => bytes.length + uptoBulk d + 1
  | (_, d) => uptoBulk d + 1
 end
def uptoSmall : (H : Type) → List (DataW H) → Bool := fun _ ds => decide (uptoBulkAll ds ≤ 1048576)
def OpenSpec.upto (s : _root_.Go.ChangeSpec) : _root_.Go.OpenSpec := { _root_.Go.OpenSpec.ofChange s with cond := some uptoSmall }

/-- 'laws.FnRatDivSelf', WHERE WHAT IT READS IS OF BULK AT MOST 1048576: true; the input reads as it did. -/
def fnRatDivSelfUptoRow : OpenClaim := { program := "ytdlcfofangkehaa", sum := "0f2dc1e0d65f5e9ab9d63b15f206c3feefc66cce697e7ad5677ac75cf4280993", func := "loop.example/atomicspectra/laws.FnRatDivSelf", spec := "fnRatDivSelf", apart := false, narrowed := true }
def FnRatDivSelfUptoSaid : Prop := fnRatDivSelfUptoRow.holds Try.pinned (OpenSpec.upto fnRatDivSelfSpec)

/-- 'laws.FnRatDiv', WHERE WHAT IT READS IS OF BULK AT MOST 1048576: true; the input reads as it did. -/
def fnRatDivUptoRow : OpenClaim := { program := "ytdlcfofangkehaa", sum := "0f2dc1e0d65f5e9ab9d63b15f206c3feefc66cce697e7ad5677ac75cf4280993", func := "loop.example/atomicspectra/laws.FnRatDiv", spec := "fnRatDiv", apart := false, narrowed := true }
def FnRatDivUptoSaid : Prop := fnRatDivUptoRow.holds Try.pinned (OpenSpec.upto fnRatDivSpec)

/-- 'laws.FnRatSub', WHERE WHAT IT READS IS OF BULK AT MOST 1048576: true; the input reads as it did. -/
def fnRatSubUptoRow : OpenClaim := { program := "ytdlcfofangkehaa", sum := "0f2dc1e0d65f5e9ab9d63b15f206c3feefc66cce697e7ad5677ac75cf4280993", func := "loop.example/atomicspectra/laws.FnRatSub", spec := "fnRatSub", apart := false, narrowed := true }
def FnRatSubUptoSaid : Prop := fnRatSubUptoRow.holds Try.pinned (OpenSpec.upto fnRatSubSpec)

/-- 'laws.FnExactRatLess', WHERE WHAT IT READS IS OF BULK AT MOST 1048576: true; the input reads as it did. -/
def fnExactRatLessUptoRow : OpenClaim := { program := "ytdlcfofangkehaa", sum := "0f2dc1e0d65f5e9ab9d63b15f206c3feefc66cce697e7ad5677ac75cf4280993", func := "loop.example/atomicspectra/laws.FnExactRatLess", spec := "fnExactRatLess", apart := false, narrowed := true }
def FnExactRatLessUptoSaid : Prop := fnExactRatLessUptoRow.holds Try.pinned (OpenSpec.upto fnExactRatLessSpec)

/-- 'laws.FnExactRatAdd', WHERE WHAT IT READS IS OF BULK AT MOST 1048576: true; the input reads as it did. -/
def fnExactRatAddUptoRow : OpenClaim := { program := "ytdlcfofangkehaa", sum := "0f2dc1e0d65f5e9ab9d63b15f206c3feefc66cce697e7ad5677ac75cf4280993", func := "loop.example/atomicspectra/laws.FnExactRatAdd", spec := "fnExactRatAdd", apart := false, narrowed := true }
def FnExactRatAddUptoSaid : Prop := fnExactRatAddUptoRow.holds Try.pinned (OpenSpec.upto fnExactRatAddSpec)

/-- 'laws.FnExactRatDiv', WHERE WHAT IT READS IS OF BULK AT MOST 1048576: true; the input reads as it did. -/
def fnExactRatDivUptoRow : OpenClaim := { program := "ytdlcfofangkehaa", sum := "0f2dc1e0d65f5e9ab9d63b15f206c3feefc66cce697e7ad5677ac75cf4280993", func := "loop.example/atomicspectra/laws.FnExactRatDiv", spec := "fnExactRatDiv", apart := false, narrowed := true }
def FnExactRatDivUptoSaid : Prop := fnExactRatDivUptoRow.holds Try.pinned (OpenSpec.upto fnExactRatDivSpec)

/-- 'laws.FnExactRatMul', WHERE WHAT IT READS IS OF BULK AT MOST 1048576: true; the input reads as it did. -/
def fnExactRatMulUptoRow : OpenClaim := { program := "ytdlcfofangkehaa", sum := "0f2dc1e0d65f5e9ab9d63b15f206c3feefc66cce697e7ad5677ac75cf4280993", func := "loop.example/atomicspectra/laws.FnExactRatMul", spec := "fnExactRatMul", apart := false, narrowed := true }
def FnExactRatMulUptoSaid : Prop := fnExactRatMulUptoRow.holds Try.pinned (OpenSpec.upto fnExactRatMulSpec)

/-- 'laws.FnExactRatSub', WHERE WHAT IT READS IS OF BULK AT MOST 1048576: true; the input reads as it did. -/
def fnExactRatSubUptoRow : OpenClaim := { program := "ytdlcfofangkehaa", sum := "0f2dc1e0d65f5e9ab9d63b15f206c3feefc66cce697e7ad5677ac75cf4280993", func := "loop.example/atomicspectra/laws.FnExactRatSub", spec := "fnExactRatSub", apart := false, narrowed := true }
def FnExactRatSubUptoSaid : Prop := fnExactRatSubUptoRow.holds Try.pinned (OpenSpec.upto fnExactRatSubSpec)

/-- 'laws.FnRatOf', WHERE WHAT IT READS IS OF BULK AT MOST 1048576: true; the input reads as it did. -/
def fnRatOfUptoRow : OpenClaim := { program := "ytdlcfofangkehaa", sum := "0f2dc1e0d65f5e9ab9d63b15f206c3feefc66cce697e7ad5677ac75cf4280993", func := "loop.example/atomicspectra/laws.FnRatOf", spec := "fnRatOf", apart := false, narrowed := true }
def FnRatOfUptoSaid : Prop := fnRatOfUptoRow.holds Try.pinned (OpenSpec.upto fnRatOfSpec)

/-- 'laws.FnRatOfTimes', WHERE WHAT IT READS IS OF BULK AT MOST 1048576: true; the input reads as it did. -/
def fnRatOfTimesUptoRow : OpenClaim := { program := "ytdlcfofangkehaa", sum := "0f2dc1e0d65f5e9ab9d63b15f206c3feefc66cce697e7ad5677ac75cf4280993", func := "loop.example/atomicspectra/laws.FnRatOfTimes", spec := "fnRatOfTimes", apart := false, narrowed := true }
def FnRatOfTimesUptoSaid : Prop := fnRatOfTimesUptoRow.holds Try.pinned (OpenSpec.upto fnRatOfTimesSpec)

/-- 'laws.FnRat', WHERE WHAT IT READS IS OF BULK AT MOST 1048576: true; the input reads as it did. -/
def fnRatUptoRow : OpenClaim := { program := "ytdlcfofangkehaa", sum := "0f2dc1e0d65f5e9ab9d63b15f206c3feefc66cce697e7ad5677ac75cf4280993", func := "loop.example/atomicspectra/laws.FnRat", spec := "fnRat", apart := false, narrowed := true }
def FnRatUptoSaid : Prop := fnRatUptoRow.holds Try.pinned (OpenSpec.upto fnRatSpec)

end Rows
end Go.Proofs.Ytdlcfofangkehaa
