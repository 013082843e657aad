/-
  The draws of spins: whatever the code, they return numbers, and write nothing that was there.
-/
import Derived.Test.YtacgoplcebpooaaBase
import Derived.Lib.Hide
namespace Go.Proofs.Ytacgoplcebpooaa
open Go.RowKit
set_option linter.unusedSimpArgs false
set_option linter.unusedVariables false

def Drew1 (B : Nat) (w : World) (P : Int → Prop) (e : Ending) (w' : World) : Prop := ∃ a : Int, P a ∧ e = .returned (.int .i64 a) ∧ Below B w w'
def Drew2 (B : Nat) (w : World) (P : Int → Int → Prop) (e : Ending) (w' : World) : Prop := ∃ a b : Int, P a b ∧ e = .returned (.tuple #[.int .i64 a, .int .i64 b]) ∧ Below B w w'
def Drew3 (B : Nat) (w : World) (P : Int → Int → Int → Prop) (e : Ending) (w' : World) : Prop := ∃ a b c : Int, P a b c ∧ e = .returned (.tuple #[.int .i64 a, .int .i64 b, .int .i64 c]) ∧ Below B w w'

theorem abs_spec (n : Int) (w : World) (h : -1000000 ≤ n ∧ n ≤ 1000000) : Calls Try.prog 28 #[.int .i64 n] w fun e w' => e = .returned (.int .i64 (n.natAbs : Int)) ∧ w = w' := by
  obtain ⟨h1, h2⟩ := h
  go_enter Try.func28, Try.ntmps28
  go_wp2
  all_goals
    go_ret
    exact ⟨congrArg (fun z => Ending.returned (Value.int .i64 z)) (by omega), rfl⟩

end Go.Proofs.Ytacgoplcebpooaa
