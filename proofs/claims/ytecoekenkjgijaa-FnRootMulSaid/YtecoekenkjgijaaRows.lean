/-
  No cell of these rows narrows 'for every input' (looked for: loops, veiled, ifaces, maps, wideKeys, modest, calm, conditions, laid).
  DERIVED. THE GIVEN ROWS OF THIS SEAT. 9 by the template 'for every input the law returns true; each argument reads behind the call as it read before'; 0 by the template 'total and deterministic' (their statements: YtecoekenkjgijaaTotals.lean).
  GIVEN WITH THE SEED: the statements are not yours to turn. If you find one false, say at which input.
  Laid BY PROGRAM, IN A SANDBOX (cutbox-rows.mjs): the forced cells as the released guide's own fill.sh prints them over the translation 0381b7581e7a64a1… (all of the seat's roots in one cut). By AI agents, Wed Nov 11 2026. No macro, syntax, notation, axiom, sorry.
-/
import Derived.Test.YtecoekenkjgijaaChecked
import GoSem.Claim
import GoSem.ClaimJoined
import GoSem.ClaimMapViews
import Derived.JoinedTies
import Derived.KernelRfl
namespace Go.Proofs.Ytecoekenkjgijaa
/- THE CELL 'sum', in the pinned program and in every row, IS THE sha256 OF THE DUMP (.gsa) THAT YtecoekenkjgijaaProg.lean LOADS. Nothing in Lean hashes anything: it is a label: what it is worth is what the hold of that sum in a sandbox is worth. -/
noncomputable def Try.pinned : Pinned := { name := "ytecoekenkjgijaa", sum := "0381b7581e7a64a1b794d6a6a4fa1334ad8de562a0e59ed6f653529784077095", checked := Try.checked }
namespace Rows
def none {H : Type} : Left H := { results := [], args := [] }

/-- 'laws.FnExactRootValid': WHATEVER THE INPUT: true; the input reads as it did. -/
def fnExactRootValidSpec : ChangeSpec := { name := "fnExactRootValid", fn := fun _ => fun
  | [d] => { results := [.lit (.bool true)], args := [d] }
  | _ => none }
def fnExactRootValidRow : OpenClaim := { program := "ytecoekenkjgijaa", sum := "0381b7581e7a64a1b794d6a6a4fa1334ad8de562a0e59ed6f653529784077095", func := "loop.example/atomicspectra/laws.FnExactRootValid", spec := "fnExactRootValid", apart := false }
def FnExactRootValidSaid : Prop := fnExactRootValidRow.holds Try.pinned (OpenSpec.ofChange fnExactRootValidSpec)

/-- ITS FALSE NEIGHBOUR: 'it returns false'. Refute it at one input. -/
def fnExactRootValidWrong : ChangeSpec := { name := "fnExactRootValid", fn := fun _ => fun
  | [d] => { results := [.lit (.bool false)], args := [d] }
  | _ => none }
def FnExactRootValidWrongFalsely : Prop := fnExactRootValidRow.holds Try.pinned (OpenSpec.ofChange fnExactRootValidWrong)

/-- 'laws.FnExactRootNeg': WHATEVER THE INPUT: true; the input reads as it did. -/
def fnExactRootNegSpec : ChangeSpec := { name := "fnExactRootNeg", fn := fun _ => fun
  | [d] => { results := [.lit (.bool true)], args := [d] }
  | _ => none }
def fnExactRootNegRow : OpenClaim := { program := "ytecoekenkjgijaa", sum := "0381b7581e7a64a1b794d6a6a4fa1334ad8de562a0e59ed6f653529784077095", func := "loop.example/atomicspectra/laws.FnExactRootNeg", spec := "fnExactRootNeg", apart := false }
def FnExactRootNegSaid : Prop := fnExactRootNegRow.holds Try.pinned (OpenSpec.ofChange fnExactRootNegSpec)

/-- ITS FALSE NEIGHBOUR: 'it returns false'. Refute it at one input. -/
def fnExactRootNegWrong : ChangeSpec := { name := "fnExactRootNeg", fn := fun _ => fun
  | [d] => { results := [.lit (.bool false)], args := [d] }
  | _ => none }
def FnExactRootNegWrongFalsely : Prop := fnExactRootNegRow.holds Try.pinned (OpenSpec.ofChange fnExactRootNegWrong)

/-- 'laws.FnExactRootMul': WHATEVER THE INPUT: true; the input reads as it did. -/
def fnExactRootMulSpec : ChangeSpec := { name := "fnExactRootMul", fn := fun _ => fun
  | [d1, d2] => { results := [.lit (.bool true)], args := [d1, d2] }
  | _ => none }
def fnExactRootMulRow : OpenClaim := { program := "ytecoekenkjgijaa", sum := "0381b7581e7a64a1b794d6a6a4fa1334ad8de562a0e59ed6f653529784077095", func := "loop.example/atomicspectra/laws.FnExactRootMul", spec := "fnExactRootMul", apart := false }
def FnExactRootMulSaid : Prop := fnExactRootMulRow.holds Try.pinned (OpenSpec.ofChange fnExactRootMulSpec)

/-- ITS FALSE NEIGHBOUR: 'it returns false'. Refute it at one input. -/
def fnExactRootMulWrong : ChangeSpec := { name := "fnExactRootMul", fn := fun _ => fun
  | [d1, d2] => { results := [.lit (.bool false)], args := [d1, d2] }
  | _ => none }
def FnExactRootMulWrongFalsely : Prop := fnExactRootMulRow.holds Try.pinned (OpenSpec.ofChange fnExactRootMulWrong)

/-- 'laws.FnExactRootOf': WHATEVER THE INPUT: true; the input reads as it did. -/
def fnExactRootOfSpec : ChangeSpec := { name := "fnExactRootOf", fn := fun _ => fun
  | [d1, d2, d3] => { results := [.lit (.bool true)], args := [d1, d2, d3] }
  | _ => none }
def fnExactRootOfRow : OpenClaim := { program := "ytecoekenkjgijaa", sum := "0381b7581e7a64a1b794d6a6a4fa1334ad8de562a0e59ed6f653529784077095", func := "loop.example/atomicspectra/laws.FnExactRootOf", spec := "fnExactRootOf", apart := false }
def FnExactRootOfSaid : Prop := fnExactRootOfRow.holds Try.pinned (OpenSpec.ofChange fnExactRootOfSpec)

/-- ITS FALSE NEIGHBOUR: 'it returns false'. Refute it at one input. -/
def fnExactRootOfWrong : ChangeSpec := { name := "fnExactRootOf", fn := fun _ => fun
  | [d1, d2, d3] => { results := [.lit (.bool false)], args := [d1, d2, d3] }
  | _ => none }
def FnExactRootOfWrongFalsely : Prop := fnExactRootOfRow.holds Try.pinned (OpenSpec.ofChange fnExactRootOfWrong)

/-- 'laws.FnRoot': WHATEVER THE INPUT: true; the input reads as it did. -/
def fnRootSpec : ChangeSpec := { name := "fnRoot", fn := fun _ => fun
  | [d] => { results := [.lit (.bool true)], args := [d] }
  | _ => none }
def fnRootRow : OpenClaim := { program := "ytecoekenkjgijaa", sum := "0381b7581e7a64a1b794d6a6a4fa1334ad8de562a0e59ed6f653529784077095", func := "loop.example/atomicspectra/laws.FnRoot", spec := "fnRoot", apart := false }
def FnRootSaid : Prop := fnRootRow.holds Try.pinned (OpenSpec.ofChange fnRootSpec)

/-- ITS FALSE NEIGHBOUR: 'it returns false'. Refute it at one input. -/
def fnRootWrong : ChangeSpec := { name := "fnRoot", fn := fun _ => fun
  | [d] => { results := [.lit (.bool false)], args := [d] }
  | _ => none }
def FnRootWrongFalsely : Prop := fnRootRow.holds Try.pinned (OpenSpec.ofChange fnRootWrong)

/-- 'laws.FnRootNeg': WHATEVER THE INPUT: true; the input reads as it did. -/
def fnRootNegSpec : ChangeSpec := { name := "fnRootNeg", fn := fun _ => fun
  | [d] => { results := [.lit (.bool true)], args := [d] }
  | _ => none }
def fnRootNegRow : OpenClaim := { program := "ytecoekenkjgijaa", sum := "0381b7581e7a64a1b794d6a6a4fa1334ad8de562a0e59ed6f653529784077095", func := "loop.example/atomicspectra/laws.FnRootNeg", spec := "fnRootNeg", apart := false }
def FnRootNegSaid : Prop := fnRootNegRow.holds Try.pinned (OpenSpec.ofChange fnRootNegSpec)

/-- ITS FALSE NEIGHBOUR: 'it returns false'. Refute it at one input. -/
def fnRootNegWrong : ChangeSpec := { name := "fnRootNeg", fn := fun _ => fun
  | [d] => { results := [.lit (.bool false)], args := [d] }
  | _ => none }
def FnRootNegWrongFalsely : Prop := fnRootNegRow.holds Try.pinned (OpenSpec.ofChange fnRootNegWrong)

/-- 'laws.FnRootOf': WHATEVER THE INPUT: true; the input reads as it did. -/
def fnRootOfSpec : ChangeSpec := { name := "fnRootOf", fn := fun _ => fun
  | [d] => { results := [.lit (.bool true)], args := [d] }
  | _ => none }
def fnRootOfRow : OpenClaim := { program := "ytecoekenkjgijaa", sum := "0381b7581e7a64a1b794d6a6a4fa1334ad8de562a0e59ed6f653529784077095", func := "loop.example/atomicspectra/laws.FnRootOf", spec := "fnRootOf", apart := false }
def FnRootOfSaid : Prop := fnRootOfRow.holds Try.pinned (OpenSpec.ofChange fnRootOfSpec)

/-- ITS FALSE NEIGHBOUR: 'it returns false'. Refute it at one input. -/
def fnRootOfWrong : ChangeSpec := { name := "fnRootOf", fn := fun _ => fun
  | [d] => { results := [.lit (.bool false)], args := [d] }
  | _ => none }
def FnRootOfWrongFalsely : Prop := fnRootOfRow.holds Try.pinned (OpenSpec.ofChange fnRootOfWrong)

/-- 'laws.FnRootOfNeg': WHATEVER THE INPUT: true; the input reads as it did. -/
def fnRootOfNegSpec : ChangeSpec := { name := "fnRootOfNeg", fn := fun _ => fun
  | [d] => { results := [.lit (.bool true)], args := [d] }
  | _ => none }
def fnRootOfNegRow : OpenClaim := { program := "ytecoekenkjgijaa", sum := "0381b7581e7a64a1b794d6a6a4fa1334ad8de562a0e59ed6f653529784077095", func := "loop.example/atomicspectra/laws.FnRootOfNeg", spec := "fnRootOfNeg", apart := false }
def FnRootOfNegSaid : Prop := fnRootOfNegRow.holds Try.pinned (OpenSpec.ofChange fnRootOfNegSpec)

/-- ITS FALSE NEIGHBOUR: 'it returns false'. Refute it at one input. -/
def fnRootOfNegWrong : ChangeSpec := { name := "fnRootOfNeg", fn := fun _ => fun
  | [d] => { results := [.lit (.bool false)], args := [d] }
  | _ => none }
def FnRootOfNegWrongFalsely : Prop := fnRootOfNegRow.holds Try.pinned (OpenSpec.ofChange fnRootOfNegWrong)

/-- 'laws.FnRootMul': WHATEVER THE INPUT: true; the input reads as it did. -/
def fnRootMulSpec : ChangeSpec := { name := "fnRootMul", fn := fun _ => fun
  | [d] => { results := [.lit (.bool true)], args := [d] }
  | _ => none }
def fnRootMulRow : OpenClaim := { program := "ytecoekenkjgijaa", sum := "0381b7581e7a64a1b794d6a6a4fa1334ad8de562a0e59ed6f653529784077095", func := "loop.example/atomicspectra/laws.FnRootMul", spec := "fnRootMul", apart := false }
def FnRootMulSaid : Prop := fnRootMulRow.holds Try.pinned (OpenSpec.ofChange fnRootMulSpec)

/-- ITS FALSE NEIGHBOUR: 'it returns false'. Refute it at one input. -/
def fnRootMulWrong : ChangeSpec := { name := "fnRootMul", fn := fun _ => fun
  | [d] => { results := [.lit (.bool false)], args := [d] }
  | _ => none }
def FnRootMulWrongFalsely : Prop := fnRootMulRow.holds Try.pinned (OpenSpec.ofChange fnRootMulWrong)

/- THE SECOND FORM. 'bulk': how many values and letters a reading holds, each counted each time it is reached (what is shared counts as often as it is met; a slice's spare places count too). A statement '..UptoSaid' is the law's where the arguments, and the package variables that the reading takes, are together of bulk at most 1048576: NARROWER than '..Said'. Prove '..Said' where nothing that the law and all that it calls make is longer than what came in: it says more and counts as full. Else prove '..UptoSaid'. A law counts once. -/
mutual
def uptoBulk {H : Type} : DataW H → Nat
  | .lit (.string bytes) => bytes.length + 1
  | .lit _ => 1
  | .nil => 1
  | .ptr d => uptoBulk d + 1
  | .slice elems spare => uptoBulkAll elems + uptoBulkAll spare + 1
  | .agg parts => uptoBulkAll parts + 1
  | .iface _ d => uptoBulk d + 1
  | .map entries => uptoBulkEntries entries + 1
  | .held _ => 1
def uptoBulkAll {H : Type} : List (DataW H) → Nat
  | [] => 0
  | d :: r => uptoBulk d + uptoBulkAll r
def uptoBulkEntries {H : Type} : List (Lit × DataW H) → Nat
  | [] => 0
  | x :: r => uptoBulkEntry x + uptoBulkEntries r
def uptoBulkEntry {H : Type} : Lit × DataW H → Nat
  | (.string bytes, d) => bytes.length + uptoBulk d + 1
  | (_, d) => uptoBulk d + 1
 end
def uptoSmall : (H : Type) → List (DataW H) → Bool := fun _ ds => decide (uptoBulkAll ds ≤ 1048576)
def OpenSpec.upto (s : _root_.Go.ChangeSpec) : _root_.Go.OpenSpec := { _root_.Go.OpenSpec.ofChange s with cond := some uptoSmall }

/-- 'laws.FnExactRootValid', WHERE WHAT IT READS IS OF BULK AT MOST 1048576: true; the input reads as it did. -/
def fnExactRootValidUptoRow : OpenClaim := { program := "ytecoekenkjgijaa", sum := "0381b7581e7a64a1b794d6a6a4fa1334ad8de562a0e59ed6f653529784077095", func := "loop.example/atomicspectra/laws.FnExactRootValid", spec := "fnExactRootValid", apart := false, narrowed := true }
def FnExactRootValidUptoSaid : Prop := fnExactRootValidUptoRow.holds Try.pinned (OpenSpec.upto fnExactRootValidSpec)

/-- 'laws.FnExactRootNeg', WHERE WHAT IT READS IS OF BULK AT MOST 1048576: true; the input reads as it did. -/
def fnExactRootNegUptoRow : OpenClaim := { program := "ytecoekenkjgijaa", sum := "0381b7581e7a64a1b794d6a6a4fa1334ad8de562a0e59ed6f653529784077095", func := "loop.example/atomicspectra/laws.FnExactRootNeg", spec := "fnExactRootNeg", apart := false, narrowed := true }
def FnExactRootNegUptoSaid : Prop := fnExactRootNegUptoRow.holds Try.pinned (OpenSpec.upto fnExactRootNegSpec)

/-- 'laws.FnExactRootMul', WHERE WHAT IT READS IS OF BULK AT MOST 1048576: true; the input reads as it did. -/
def fnExactRootMulUptoRow : OpenClaim := { program := "ytecoekenkjgijaa", sum := "0381b7581e7a64a1b794d6a6a4fa1334ad8de562a0e59ed6f653529784077095", func := "loop.example/atomicspectra/laws.FnExactRootMul", spec := "fnExactRootMul", apart := false, narrowed := true }
def FnExactRootMulUptoSaid : Prop := fnExactRootMulUptoRow.holds Try.pinned (OpenSpec.upto fnExactRootMulSpec)

/-- 'laws.FnExactRootOf', WHERE WHAT IT READS IS OF BULK AT MOST 1048576: true; the input reads as it did. -/
def fnExactRootOfUptoRow : OpenClaim := { program := "ytecoekenkjgijaa", sum := "0381b7581e7a64a1b794d6a6a4fa1334ad8de562a0e59ed6f653529784077095", func := "loop.example/atomicspectra/laws.FnExactRootOf", spec := "fnExactRootOf", apart := false, narrowed := true }
def FnExactRootOfUptoSaid : Prop := fnExactRootOfUptoRow.holds Try.pinned (OpenSpec.upto fnExactRootOfSpec)

/-- 'laws.FnRoot', WHERE WHAT IT READS IS OF BULK AT MOST 1048576: true; the input reads as it did. -/
def fnRootUptoRow : OpenClaim := { program := "ytecoekenkjgijaa", sum := "0381b7581e7a64a1b794d6a6a4fa1334ad8de562a0e59ed6f653529784077095", func := "loop.example/atomicspectra/laws.FnRoot", spec := "fnRoot", apart := false, narrowed := true }
def FnRootUptoSaid : Prop := fnRootUptoRow.holds Try.pinned (OpenSpec.upto fnRootSpec)

/-- 'laws.FnRootNeg', WHERE WHAT IT READS IS OF BULK AT MOST 1048576: true; the input reads as it did. -/
def fnRootNegUptoRow : OpenClaim := { program := "ytecoekenkjgijaa", sum := "0381b7581e7a64a1b794d6a6a4fa1334ad8de562a0e59ed6f653529784077095", func := "loop.example/atomicspectra/laws.FnRootNeg", spec := "fnRootNeg", apart := false, narrowed := true }
def FnRootNegUptoSaid : Prop := fnRootNegUptoRow.holds Try.pinned (OpenSpec.upto fnRootNegSpec)

/-- 'laws.FnRootOf', WHERE WHAT IT READS IS OF BULK AT MOST 1048576: true; the input reads as it did. -/
def fnRootOfUptoRow : OpenClaim := { program := "ytecoekenkjgijaa", sum := "0381b7581e7a64a1b794d6a6a4fa1334ad8de562a0e59ed6f653529784077095", func := "loop.example/atomicspectra/laws.FnRootOf", spec := "fnRootOf", apart := false, narrowed := true }
def FnRootOfUptoSaid : Prop := fnRootOfUptoRow.holds Try.pinned (OpenSpec.upto fnRootOfSpec)

/-- 'laws.FnRootOfNeg', WHERE WHAT IT READS IS OF BULK AT MOST 1048576: true; the input reads as it did. -/
def fnRootOfNegUptoRow : OpenClaim := { program := "ytecoekenkjgijaa", sum := "0381b7581e7a64a1b794d6a6a4fa1334ad8de562a0e59ed6f653529784077095", func := "loop.example/atomicspectra/laws.FnRootOfNeg", spec := "fnRootOfNeg", apart := false, narrowed := true }
def FnRootOfNegUptoSaid : Prop := fnRootOfNegUptoRow.holds Try.pinned (OpenSpec.upto fnRootOfNegSpec)

/-- 'laws.FnRootMul', WHERE WHAT IT READS IS OF BULK AT MOST 1048576: true; the input reads as it did. -/
def fnRootMulUptoRow : OpenClaim := { program := "ytecoekenkjgijaa", sum := "0381b7581e7a64a1b794d6a6a4fa1334ad8de562a0e59ed6f653529784077095", func := "loop.example/atomicspectra/laws.FnRootMul", spec := "fnRootMul", apart := false, narrowed := true }
def FnRootMulUptoSaid : Prop := fnRootMulUptoRow.holds Try.pinned (OpenSpec.upto fnRootMulSpec)

end Rows
end Go.Proofs.Ytecoekenkjgijaa
