/-
  No cell of these rows narrows 'for every input' (looked for: loops, veiled, ifaces, maps, wideKeys, modest, calm, conditions, laid).
  DERIVED. THE GIVEN ROWS OF THIS SEAT. 14 by the template 'for every input the law returns true; each argument reads behind the call as it read before'; 0 by the template 'total and deterministic' (their statements: YtfmlejliphjeoaaTotals.lean).
  GIVEN WITH THE SEED: the statements are not yours to turn. If you find one false, say at which input.
  Laid BY PROGRAM, IN A SANDBOX (cutbox-rows.mjs): the forced cells as the released guide's own fill.sh prints them over the translation 610b58ab7e5dffc7… (all of the seat's roots in one cut). By AI agents, Wed Nov 11 2026. No macro, syntax, notation, axiom, sorry.
-/
import Derived.Test.YtfmlejliphjeoaaChecked
import GoSem.Claim
import GoSem.ClaimJoined
import GoSem.ClaimMapViews
import Derived.JoinedTies
import Derived.KernelRfl
namespace Go.Proofs.Ytfmlejliphjeoaa
/- THE CELL 'sum', in the pinned program and in every row, IS THE sha256 OF THE DUMP (.gsa) THAT YtfmlejliphjeoaaProg.lean LOADS. Nothing in Lean hashes anything: it is a label: what it is worth is what the hold of that sum in a sandbox is worth. -/
noncomputable def Try.pinned : Pinned := { name := "ytfmlejliphjeoaa", sum := "610b58ab7e5dffc743a6f0f50e2b0592ec8a25d5ca728ed8b9fce0439cb24e4c", checked := Try.checked }
namespace Rows
def none {H : Type} : Left H := { results := [], args := [] }

/-- 'laws.FnExactConstants': WHATEVER THE INPUT: true; the input reads as it did. -/
def fnExactConstantsSpec : ChangeSpec := { name := "fnExactConstants", fn := fun _ => fun
  | [] => { results := [.lit (.bool true)], args := [] }
  | _ => none }
def fnExactConstantsRow : OpenClaim := { program := "ytfmlejliphjeoaa", sum := "610b58ab7e5dffc743a6f0f50e2b0592ec8a25d5ca728ed8b9fce0439cb24e4c", func := "loop.example/atomicspectra/laws.FnExactConstants", spec := "fnExactConstants", apart := false }
def FnExactConstantsSaid : Prop := fnExactConstantsRow.holds Try.pinned (OpenSpec.ofChange fnExactConstantsSpec)

/-- ITS FALSE NEIGHBOUR: 'it returns false'. Refute it at one input. -/
def fnExactConstantsWrong : ChangeSpec := { name := "fnExactConstants", fn := fun _ => fun
  | [] => { results := [.lit (.bool false)], args := [] }
  | _ => none }
def FnExactConstantsWrongFalsely : Prop := fnExactConstantsRow.holds Try.pinned (OpenSpec.ofChange fnExactConstantsWrong)

/-- 'laws.FnExactSpinValid': WHATEVER THE INPUT: true; the input reads as it did. -/
def fnExactSpinValidSpec : ChangeSpec := { name := "fnExactSpinValid", fn := fun _ => fun
  | [d] => { results := [.lit (.bool true)], args := [d] }
  | _ => none }
def fnExactSpinValidRow : OpenClaim := { program := "ytfmlejliphjeoaa", sum := "610b58ab7e5dffc743a6f0f50e2b0592ec8a25d5ca728ed8b9fce0439cb24e4c", func := "loop.example/atomicspectra/laws.FnExactSpinValid", spec := "fnExactSpinValid", apart := false }
def FnExactSpinValidSaid : Prop := fnExactSpinValidRow.holds Try.pinned (OpenSpec.ofChange fnExactSpinValidSpec)

/-- ITS FALSE NEIGHBOUR: 'it returns false'. Refute it at one input. -/
def fnExactSpinValidWrong : ChangeSpec := { name := "fnExactSpinValid", fn := fun _ => fun
  | [d] => { results := [.lit (.bool false)], args := [d] }
  | _ => none }
def FnExactSpinValidWrongFalsely : Prop := fnExactSpinValidRow.holds Try.pinned (OpenSpec.ofChange fnExactSpinValidWrong)

/-- 'laws.FnExactSpinHas': WHATEVER THE INPUT: true; the input reads as it did. -/
def fnExactSpinHasSpec : ChangeSpec := { name := "fnExactSpinHas", fn := fun _ => fun
  | [d1, d2] => { results := [.lit (.bool true)], args := [d1, d2] }
  | _ => none }
def fnExactSpinHasRow : OpenClaim := { program := "ytfmlejliphjeoaa", sum := "610b58ab7e5dffc743a6f0f50e2b0592ec8a25d5ca728ed8b9fce0439cb24e4c", func := "loop.example/atomicspectra/laws.FnExactSpinHas", spec := "fnExactSpinHas", apart := false }
def FnExactSpinHasSaid : Prop := fnExactSpinHasRow.holds Try.pinned (OpenSpec.ofChange fnExactSpinHasSpec)

/-- ITS FALSE NEIGHBOUR: 'it returns false'. Refute it at one input. -/
def fnExactSpinHasWrong : ChangeSpec := { name := "fnExactSpinHas", fn := fun _ => fun
  | [d1, d2] => { results := [.lit (.bool false)], args := [d1, d2] }
  | _ => none }
def FnExactSpinHasWrongFalsely : Prop := fnExactSpinHasRow.holds Try.pinned (OpenSpec.ofChange fnExactSpinHasWrong)

/-- 'laws.FnExactSpinTriangle': WHATEVER THE INPUT: true; the input reads as it did. -/
def fnExactSpinTriangleSpec : ChangeSpec := { name := "fnExactSpinTriangle", fn := fun _ => fun
  | [d1, d2, d3] => { results := [.lit (.bool true)], args := [d1, d2, d3] }
  | _ => none }
def fnExactSpinTriangleRow : OpenClaim := { program := "ytfmlejliphjeoaa", sum := "610b58ab7e5dffc743a6f0f50e2b0592ec8a25d5ca728ed8b9fce0439cb24e4c", func := "loop.example/atomicspectra/laws.FnExactSpinTriangle", spec := "fnExactSpinTriangle", apart := false }
def FnExactSpinTriangleSaid : Prop := fnExactSpinTriangleRow.holds Try.pinned (OpenSpec.ofChange fnExactSpinTriangleSpec)

/-- ITS FALSE NEIGHBOUR: 'it returns false'. Refute it at one input. -/
def fnExactSpinTriangleWrong : ChangeSpec := { name := "fnExactSpinTriangle", fn := fun _ => fun
  | [d1, d2, d3] => { results := [.lit (.bool false)], args := [d1, d2, d3] }
  | _ => none }
def FnExactSpinTriangleWrongFalsely : Prop := fnExactSpinTriangleRow.holds Try.pinned (OpenSpec.ofChange fnExactSpinTriangleWrong)

/-- 'laws.FnSpin': WHATEVER THE INPUT: true; the input reads as it did. -/
def fnSpinSpec : ChangeSpec := { name := "fnSpin", fn := fun _ => fun
  | [d] => { results := [.lit (.bool true)], args := [d] }
  | _ => none }
def fnSpinRow : OpenClaim := { program := "ytfmlejliphjeoaa", sum := "610b58ab7e5dffc743a6f0f50e2b0592ec8a25d5ca728ed8b9fce0439cb24e4c", func := "loop.example/atomicspectra/laws.FnSpin", spec := "fnSpin", apart := false }
def FnSpinSaid : Prop := fnSpinRow.holds Try.pinned (OpenSpec.ofChange fnSpinSpec)

/-- ITS FALSE NEIGHBOUR: 'it returns false'. Refute it at one input. -/
def fnSpinWrong : ChangeSpec := { name := "fnSpin", fn := fun _ => fun
  | [d] => { results := [.lit (.bool false)], args := [d] }
  | _ => none }
def FnSpinWrongFalsely : Prop := fnSpinRow.holds Try.pinned (OpenSpec.ofChange fnSpinWrong)

/-- 'laws.FnSpinTriangle': WHATEVER THE INPUT: true; the input reads as it did. -/
def fnSpinTriangleSpec : ChangeSpec := { name := "fnSpinTriangle", fn := fun _ => fun
  | [d] => { results := [.lit (.bool true)], args := [d] }
  | _ => none }
def fnSpinTriangleRow : OpenClaim := { program := "ytfmlejliphjeoaa", sum := "610b58ab7e5dffc743a6f0f50e2b0592ec8a25d5ca728ed8b9fce0439cb24e4c", func := "loop.example/atomicspectra/laws.FnSpinTriangle", spec := "fnSpinTriangle", apart := false }
def FnSpinTriangleSaid : Prop := fnSpinTriangleRow.holds Try.pinned (OpenSpec.ofChange fnSpinTriangleSpec)

/-- ITS FALSE NEIGHBOUR: 'it returns false'. Refute it at one input. -/
def fnSpinTriangleWrong : ChangeSpec := { name := "fnSpinTriangle", fn := fun _ => fun
  | [d] => { results := [.lit (.bool false)], args := [d] }
  | _ => none }
def FnSpinTriangleWrongFalsely : Prop := fnSpinTriangleRow.holds Try.pinned (OpenSpec.ofChange fnSpinTriangleWrong)

/-- 'laws.FnSpinTriangleSum': WHATEVER THE INPUT: true; the input reads as it did. -/
def fnSpinTriangleSumSpec : ChangeSpec := { name := "fnSpinTriangleSum", fn := fun _ => fun
  | [d] => { results := [.lit (.bool true)], args := [d] }
  | _ => none }
def fnSpinTriangleSumRow : OpenClaim := { program := "ytfmlejliphjeoaa", sum := "610b58ab7e5dffc743a6f0f50e2b0592ec8a25d5ca728ed8b9fce0439cb24e4c", func := "loop.example/atomicspectra/laws.FnSpinTriangleSum", spec := "fnSpinTriangleSum", apart := false }
def FnSpinTriangleSumSaid : Prop := fnSpinTriangleSumRow.holds Try.pinned (OpenSpec.ofChange fnSpinTriangleSumSpec)

/-- ITS FALSE NEIGHBOUR: 'it returns false'. Refute it at one input. -/
def fnSpinTriangleSumWrong : ChangeSpec := { name := "fnSpinTriangleSum", fn := fun _ => fun
  | [d] => { results := [.lit (.bool false)], args := [d] }
  | _ => none }
def FnSpinTriangleSumWrongFalsely : Prop := fnSpinTriangleSumRow.holds Try.pinned (OpenSpec.ofChange fnSpinTriangleSumWrong)

/-- 'laws.FnExactSpinCoupled': WHATEVER THE INPUT: true; the input reads as it did. -/
def fnExactSpinCoupledSpec : ChangeSpec := { name := "fnExactSpinCoupled", fn := fun _ => fun
  | [d1, d2] => { results := [.lit (.bool true)], args := [d1, d2] }
  | _ => none }
def fnExactSpinCoupledRow : OpenClaim := { program := "ytfmlejliphjeoaa", sum := "610b58ab7e5dffc743a6f0f50e2b0592ec8a25d5ca728ed8b9fce0439cb24e4c", func := "loop.example/atomicspectra/laws.FnExactSpinCoupled", spec := "fnExactSpinCoupled", apart := false }
def FnExactSpinCoupledSaid : Prop := fnExactSpinCoupledRow.holds Try.pinned (OpenSpec.ofChange fnExactSpinCoupledSpec)

/-- ITS FALSE NEIGHBOUR: 'it returns false'. Refute it at one input. -/
def fnExactSpinCoupledWrong : ChangeSpec := { name := "fnExactSpinCoupled", fn := fun _ => fun
  | [d1, d2] => { results := [.lit (.bool false)], args := [d1, d2] }
  | _ => none }
def FnExactSpinCoupledWrongFalsely : Prop := fnExactSpinCoupledRow.holds Try.pinned (OpenSpec.ofChange fnExactSpinCoupledWrong)

/-- 'laws.FnExactSpinProjections': WHATEVER THE INPUT: true; the input reads as it did. -/
def fnExactSpinProjectionsSpec : ChangeSpec := { name := "fnExactSpinProjections", fn := fun _ => fun
  | [d] => { results := [.lit (.bool true)], args := [d] }
  | _ => none }
def fnExactSpinProjectionsRow : OpenClaim := { program := "ytfmlejliphjeoaa", sum := "610b58ab7e5dffc743a6f0f50e2b0592ec8a25d5ca728ed8b9fce0439cb24e4c", func := "loop.example/atomicspectra/laws.FnExactSpinProjections", spec := "fnExactSpinProjections", unfollowed := true, recurses := true, apart := false }
def FnExactSpinProjectionsSaid : Prop := fnExactSpinProjectionsRow.holds Try.pinned (OpenSpec.ofChange fnExactSpinProjectionsSpec)

/-- ITS FALSE NEIGHBOUR: 'it returns false'. Refute it at one input. -/
def fnExactSpinProjectionsWrong : ChangeSpec := { name := "fnExactSpinProjections", fn := fun _ => fun
  | [d] => { results := [.lit (.bool false)], args := [d] }
  | _ => none }
def FnExactSpinProjectionsWrongFalsely : Prop := fnExactSpinProjectionsRow.holds Try.pinned (OpenSpec.ofChange fnExactSpinProjectionsWrong)

/-- 'laws.FnSpinCoupledMany': WHATEVER THE INPUT: true; the input reads as it did. -/
def fnSpinCoupledManySpec : ChangeSpec := { name := "fnSpinCoupledMany", fn := fun _ => fun
  | [d] => { results := [.lit (.bool true)], args := [d] }
  | _ => none }
def fnSpinCoupledManyRow : OpenClaim := { program := "ytfmlejliphjeoaa", sum := "610b58ab7e5dffc743a6f0f50e2b0592ec8a25d5ca728ed8b9fce0439cb24e4c", func := "loop.example/atomicspectra/laws.FnSpinCoupledMany", spec := "fnSpinCoupledMany", apart := false }
def FnSpinCoupledManySaid : Prop := fnSpinCoupledManyRow.holds Try.pinned (OpenSpec.ofChange fnSpinCoupledManySpec)

/-- ITS FALSE NEIGHBOUR: 'it returns false'. Refute it at one input. -/
def fnSpinCoupledManyWrong : ChangeSpec := { name := "fnSpinCoupledMany", fn := fun _ => fun
  | [d] => { results := [.lit (.bool false)], args := [d] }
  | _ => none }
def FnSpinCoupledManyWrongFalsely : Prop := fnSpinCoupledManyRow.holds Try.pinned (OpenSpec.ofChange fnSpinCoupledManyWrong)

/-- 'laws.FnSpinCoupledSquare': WHATEVER THE INPUT: true; the input reads as it did. -/
def fnSpinCoupledSquareSpec : ChangeSpec := { name := "fnSpinCoupledSquare", fn := fun _ => fun
  | [d] => { results := [.lit (.bool true)], args := [d] }
  | _ => none }
def fnSpinCoupledSquareRow : OpenClaim := { program := "ytfmlejliphjeoaa", sum := "610b58ab7e5dffc743a6f0f50e2b0592ec8a25d5ca728ed8b9fce0439cb24e4c", func := "loop.example/atomicspectra/laws.FnSpinCoupledSquare", spec := "fnSpinCoupledSquare", apart := false }
def FnSpinCoupledSquareSaid : Prop := fnSpinCoupledSquareRow.holds Try.pinned (OpenSpec.ofChange fnSpinCoupledSquareSpec)

/-- ITS FALSE NEIGHBOUR: 'it returns false'. Refute it at one input. -/
def fnSpinCoupledSquareWrong : ChangeSpec := { name := "fnSpinCoupledSquare", fn := fun _ => fun
  | [d] => { results := [.lit (.bool false)], args := [d] }
  | _ => none }
def FnSpinCoupledSquareWrongFalsely : Prop := fnSpinCoupledSquareRow.holds Try.pinned (OpenSpec.ofChange fnSpinCoupledSquareWrong)

/-- 'laws.FnSpinCoupled': WHATEVER THE INPUT: true; the input reads as it did. -/
def fnSpinCoupledSpec : ChangeSpec := { name := "fnSpinCoupled", fn := fun _ => fun
  | [d] => { results := [.lit (.bool true)], args := [d] }
  | _ => none }
def fnSpinCoupledRow : OpenClaim := { program := "ytfmlejliphjeoaa", sum := "610b58ab7e5dffc743a6f0f50e2b0592ec8a25d5ca728ed8b9fce0439cb24e4c", func := "loop.example/atomicspectra/laws.FnSpinCoupled", spec := "fnSpinCoupled", apart := false }
def FnSpinCoupledSaid : Prop := fnSpinCoupledRow.holds Try.pinned (OpenSpec.ofChange fnSpinCoupledSpec)

/-- ITS FALSE NEIGHBOUR: 'it returns false'. Refute it at one input. -/
def fnSpinCoupledWrong : ChangeSpec := { name := "fnSpinCoupled", fn := fun _ => fun
  | [d] => { results := [.lit (.bool false)], args := [d] }
  | _ => none }
def FnSpinCoupledWrongFalsely : Prop := fnSpinCoupledRow.holds Try.pinned (OpenSpec.ofChange fnSpinCoupledWrong)

/-- 'laws.FnSpinThree': WHATEVER THE INPUT: true; the input reads as it did. -/
def fnSpinThreeSpec : ChangeSpec := { name := "fnSpinThree", fn := fun _ => fun
  | [d] => { results := [.lit (.bool true)], args := [d] }
  | _ => none }
def fnSpinThreeRow : OpenClaim := { program := "ytfmlejliphjeoaa", sum := "610b58ab7e5dffc743a6f0f50e2b0592ec8a25d5ca728ed8b9fce0439cb24e4c", func := "loop.example/atomicspectra/laws.FnSpinThree", spec := "fnSpinThree", apart := false }
def FnSpinThreeSaid : Prop := fnSpinThreeRow.holds Try.pinned (OpenSpec.ofChange fnSpinThreeSpec)

/-- ITS FALSE NEIGHBOUR: 'it returns false'. Refute it at one input. -/
def fnSpinThreeWrong : ChangeSpec := { name := "fnSpinThree", fn := fun _ => fun
  | [d] => { results := [.lit (.bool false)], args := [d] }
  | _ => none }
def FnSpinThreeWrongFalsely : Prop := fnSpinThreeRow.holds Try.pinned (OpenSpec.ofChange fnSpinThreeWrong)

/-- 'laws.FnSpinProjections': WHATEVER THE INPUT: true; the input reads as it did. -/
def fnSpinProjectionsSpec : ChangeSpec := { name := "fnSpinProjections", fn := fun _ => fun
  | [d] => { results := [.lit (.bool true)], args := [d] }
  | _ => none }
def fnSpinProjectionsRow : OpenClaim := { program := "ytfmlejliphjeoaa", sum := "610b58ab7e5dffc743a6f0f50e2b0592ec8a25d5ca728ed8b9fce0439cb24e4c", func := "loop.example/atomicspectra/laws.FnSpinProjections", spec := "fnSpinProjections", unfollowed := true, recurses := true, apart := false }
def FnSpinProjectionsSaid : Prop := fnSpinProjectionsRow.holds Try.pinned (OpenSpec.ofChange fnSpinProjectionsSpec)

/-- ITS FALSE NEIGHBOUR: 'it returns false'. Refute it at one input. -/
def fnSpinProjectionsWrong : ChangeSpec := { name := "fnSpinProjections", fn := fun _ => fun
  | [d] => { results := [.lit (.bool false)], args := [d] }
  | _ => none }
def FnSpinProjectionsWrongFalsely : Prop := fnSpinProjectionsRow.holds Try.pinned (OpenSpec.ofChange fnSpinProjectionsWrong)

/- THE SECOND FORM. 'bulk': how many values and letters a reading holds, each counted each time it is reached (what is shared counts as often as it is met; a slice's spare places count too). A statement '..UptoSaid' is the law's where the arguments, and the package variables that the reading takes, are together of bulk at most 1048576: NARROWER than '..Said'. Prove '..Said' where nothing that the law and all that it calls make is longer than what came in: it says more and counts as full. Else prove '..UptoSaid'. A law counts once. -/
mutual
def uptoBulk {H : Type} : DataW H → Nat
  | .lit (.string bytes) => bytes.length + 1
  | .lit _ => 1
  | .nil => 1
  | .ptr d => uptoBulk d + 1
  | .slice elems spare => uptoBulkAll elems + uptoBulkAll spare + 1
  | .agg parts => uptoBulkAll parts + 1
  | .iface _ d => uptoBulk d + 1
  | .map entries => uptoBulkEntries entries + 1
  | .held _ => 1
def uptoBulkAll {H : Type} : List (DataW H) → Nat
  | [] => 0
  | d :: r => uptoBulk d + uptoBulkAll r
def uptoBulkEntries {H : Type} : List (Lit × DataW H) → Nat
  | [] => 0
  | x :: r => uptoBulkEntry x + uptoBulkEntries r
def uptoBulkEntry {H : Type} : Lit × DataW H → Nat
  | (.string bytes, d) => bytes.length + uptoBulk d + 1
  | (_, d) => uptoBulk d + 1
 end
def uptoSmall : (H : Type) → List (DataW H) → Bool := fun _ ds => decide (uptoBulkAll ds ≤ 1048576)
def OpenSpec.upto (s : _root_.Go.ChangeSpec) : _root_.Go.OpenSpec := { _root_.Go.OpenSpec.ofChange s with cond := some uptoSmall }

/-- 'laws.FnExactConstants', WHERE WHAT IT READS IS OF BULK AT MOST 1048576: true; the input reads as it did. -/
def fnExactConstantsUptoRow : OpenClaim := { program := "ytfmlejliphjeoaa", sum := "610b58ab7e5dffc743a6f0f50e2b0592ec8a25d5ca728ed8b9fce0439cb24e4c", func := "loop.example/atomicspectra/laws.FnExactConstants", spec := "fnExactConstants", apart := false, narrowed := true }
def FnExactConstantsUptoSaid : Prop := fnExactConstantsUptoRow.holds Try.pinned (OpenSpec.upto fnExactConstantsSpec)

/-- 'laws.FnExactSpinValid', WHERE WHAT IT READS IS OF BULK AT MOST 1048576: true; the input reads as it did. -/
def fnExactSpinValidUptoRow : OpenClaim := { program := "ytfmlejliphjeoaa", sum := "610b58ab7e5dffc743a6f0f50e2b0592ec8a25d5ca728ed8b9fce0439cb24e4c", func := "loop.example/atomicspectra/laws.FnExactSpinValid", spec := "fnExactSpinValid", apart := false, narrowed := true }
def FnExactSpinValidUptoSaid : Prop := fnExactSpinValidUptoRow.holds Try.pinned (OpenSpec.upto fnExactSpinValidSpec)

/-- 'laws.FnExactSpinHas', WHERE WHAT IT READS IS OF BULK AT MOST 1048576: true; the input reads as it did. -/
def fnExactSpinHasUptoRow : OpenClaim := { program := "ytfmlejliphjeoaa", sum := "610b58ab7e5dffc743a6f0f50e2b0592ec8a25d5ca728ed8b9fce0439cb24e4c", func := "loop.example/atomicspectra/laws.FnExactSpinHas", spec := "fnExactSpinHas", apart := false, narrowed := true }
def FnExactSpinHasUptoSaid : Prop := fnExactSpinHasUptoRow.holds Try.pinned (OpenSpec.upto fnExactSpinHasSpec)

/-- 'laws.FnExactSpinTriangle', WHERE WHAT IT READS IS OF BULK AT MOST 1048576: true; the input reads as it did. -/
def fnExactSpinTriangleUptoRow : OpenClaim := { program := "ytfmlejliphjeoaa", sum := "610b58ab7e5dffc743a6f0f50e2b0592ec8a25d5ca728ed8b9fce0439cb24e4c", func := "loop.example/atomicspectra/laws.FnExactSpinTriangle", spec := "fnExactSpinTriangle", apart := false, narrowed := true }
def FnExactSpinTriangleUptoSaid : Prop := fnExactSpinTriangleUptoRow.holds Try.pinned (OpenSpec.upto fnExactSpinTriangleSpec)

/-- 'laws.FnSpin', WHERE WHAT IT READS IS OF BULK AT MOST 1048576: true; the input reads as it did. -/
def fnSpinUptoRow : OpenClaim := { program := "ytfmlejliphjeoaa", sum := "610b58ab7e5dffc743a6f0f50e2b0592ec8a25d5ca728ed8b9fce0439cb24e4c", func := "loop.example/atomicspectra/laws.FnSpin", spec := "fnSpin", apart := false, narrowed := true }
def FnSpinUptoSaid : Prop := fnSpinUptoRow.holds Try.pinned (OpenSpec.upto fnSpinSpec)

/-- 'laws.FnSpinTriangle', WHERE WHAT IT READS IS OF BULK AT MOST 1048576: true; the input reads as it did. -/
def fnSpinTriangleUptoRow : OpenClaim := { program := "ytfmlejliphjeoaa", sum := "610b58ab7e5dffc743a6f0f50e2b0592ec8a25d5ca728ed8b9fce0439cb24e4c", func := "loop.example/atomicspectra/laws.FnSpinTriangle", spec := "fnSpinTriangle", apart := false, narrowed := true }
def FnSpinTriangleUptoSaid : Prop := fnSpinTriangleUptoRow.holds Try.pinned (OpenSpec.upto fnSpinTriangleSpec)

/-- 'laws.FnSpinTriangleSum', WHERE WHAT IT READS IS OF BULK AT MOST 1048576: true; the input reads as it did. -/
def fnSpinTriangleSumUptoRow : OpenClaim := { program := "ytfmlejliphjeoaa", sum := "610b58ab7e5dffc743a6f0f50e2b0592ec8a25d5ca728ed8b9fce0439cb24e4c", func := "loop.example/atomicspectra/laws.FnSpinTriangleSum", spec := "fnSpinTriangleSum", apart := false, narrowed := true }
def FnSpinTriangleSumUptoSaid : Prop := fnSpinTriangleSumUptoRow.holds Try.pinned (OpenSpec.upto fnSpinTriangleSumSpec)

/-- 'laws.FnExactSpinCoupled', WHERE WHAT IT READS IS OF BULK AT MOST 1048576: true; the input reads as it did. -/
def fnExactSpinCoupledUptoRow : OpenClaim := { program := "ytfmlejliphjeoaa", sum := "610b58ab7e5dffc743a6f0f50e2b0592ec8a25d5ca728ed8b9fce0439cb24e4c", func := "loop.example/atomicspectra/laws.FnExactSpinCoupled", spec := "fnExactSpinCoupled", apart := false, narrowed := true }
def FnExactSpinCoupledUptoSaid : Prop := fnExactSpinCoupledUptoRow.holds Try.pinned (OpenSpec.upto fnExactSpinCoupledSpec)

/-- 'laws.FnExactSpinProjections', WHERE WHAT IT READS IS OF BULK AT MOST 1048576: true; the input reads as it did. -/
def fnExactSpinProjectionsUptoRow : OpenClaim := { program := "ytfmlejliphjeoaa", sum := "610b58ab7e5dffc743a6f0f50e2b0592ec8a25d5ca728ed8b9fce0439cb24e4c", func := "loop.example/atomicspectra/laws.FnExactSpinProjections", spec := "fnExactSpinProjections", unfollowed := true, recurses := true, apart := false, narrowed := true }
def FnExactSpinProjectionsUptoSaid : Prop := fnExactSpinProjectionsUptoRow.holds Try.pinned (OpenSpec.upto fnExactSpinProjectionsSpec)

/-- 'laws.FnSpinCoupledMany', WHERE WHAT IT READS IS OF BULK AT MOST 1048576: true; the input reads as it did. -/
def fnSpinCoupledManyUptoRow : OpenClaim := { program := "ytfmlejliphjeoaa", sum := "610b58ab7e5dffc743a6f0f50e2b0592ec8a25d5ca728ed8b9fce0439cb24e4c", func := "loop.example/atomicspectra/laws.FnSpinCoupledMany", spec := "fnSpinCoupledMany", apart := false, narrowed := true }
def FnSpinCoupledManyUptoSaid : Prop := fnSpinCoupledManyUptoRow.holds Try.pinned (OpenSpec.upto fnSpinCoupledManySpec)

/-- 'laws.FnSpinCoupledSquare', WHERE WHAT IT READS IS OF BULK AT MOST 1048576: true; the input reads as it did. -/
def fnSpinCoupledSquareUptoRow : OpenClaim := { program := "ytfmlejliphjeoaa", sum := "610b58ab7e5dffc743a6f0f50e2b0592ec8a25d5ca728ed8b9fce0439cb24e4c", func := "loop.example/atomicspectra/laws.FnSpinCoupledSquare", spec := "fnSpinCoupledSquare", apart := false, narrowed := true }
def FnSpinCoupledSquareUptoSaid : Prop := fnSpinCoupledSquareUptoRow.holds Try.pinned (OpenSpec.upto fnSpinCoupledSquareSpec)

/-- 'laws.FnSpinCoupled', WHERE WHAT IT READS IS OF BULK AT MOST 1048576: true; the input reads as it did. -/
def fnSpinCoupledUptoRow : OpenClaim := { program := "ytfmlejliphjeoaa", sum := "610b58ab7e5dffc743a6f0f50e2b0592ec8a25d5ca728ed8b9fce0439cb24e4c", func := "loop.example/atomicspectra/laws.FnSpinCoupled", spec := "fnSpinCoupled", apart := false, narrowed := true }
def FnSpinCoupledUptoSaid : Prop := fnSpinCoupledUptoRow.holds Try.pinned (OpenSpec.upto fnSpinCoupledSpec)

/-- 'laws.FnSpinThree', WHERE WHAT IT READS IS OF BULK AT MOST 1048576: true; the input reads as it did. -/
def fnSpinThreeUptoRow : OpenClaim := { program := "ytfmlejliphjeoaa", sum := "610b58ab7e5dffc743a6f0f50e2b0592ec8a25d5ca728ed8b9fce0439cb24e4c", func := "loop.example/atomicspectra/laws.FnSpinThree", spec := "fnSpinThree", apart := false, narrowed := true }
def FnSpinThreeUptoSaid : Prop := fnSpinThreeUptoRow.holds Try.pinned (OpenSpec.upto fnSpinThreeSpec)

/-- 'laws.FnSpinProjections', WHERE WHAT IT READS IS OF BULK AT MOST 1048576: true; the input reads as it did. -/
def fnSpinProjectionsUptoRow : OpenClaim := { program := "ytfmlejliphjeoaa", sum := "610b58ab7e5dffc743a6f0f50e2b0592ec8a25d5ca728ed8b9fce0439cb24e4c", func := "loop.example/atomicspectra/laws.FnSpinProjections", spec := "fnSpinProjections", unfollowed := true, recurses := true, apart := false, narrowed := true }
def FnSpinProjectionsUptoSaid : Prop := fnSpinProjectionsUptoRow.holds Try.pinned (OpenSpec.upto fnSpinProjectionsSpec)

end Rows
end Go.Proofs.Ytfmlejliphjeoaa
