/-
  What the functions on spins answer, program and reference alike: a validity, a projection, a triangle.
-/
import Derived.Test.YthhaaepebadnnaaBase
import Derived.Lib.Hide
namespace Go.Proofs.Ythhaaepebadnnaa
open Go.RowKit
set_option linter.unusedSimpArgs false
set_option linter.unusedVariables false

/-- What 'SpinValid' answers. -/
def svB (j : Int) : Bool := decide (0 ≤ j) && decide (j ≤ 24)
theorem svB_iff (j : Int) : svB j = true ↔ 0 ≤ j ∧ j ≤ 24 := by unfold svB; simp
theorem svB_not (j : Int) : svB j = false ↔ j < 0 ∨ 24 < j := by
  rw [← Bool.not_eq_true, svB_iff]; omega
/-- What 'SpinHas' answers. -/
def shB (j m : Int) : Bool := svB j && (decide (-j ≤ m) && (decide (m ≤ j) && decide ((j + m) % 2 = 0)))
theorem shB_iff (j m : Int) : shB j m = true ↔ (0 ≤ j ∧ j ≤ 24) ∧ -j ≤ m ∧ m ≤ j ∧ (j + m) % 2 = 0 := by
  unfold shB; simp only [Bool.and_eq_true, decide_eq_true_eq, svB_iff]
theorem shB_not (j m : Int) : shB j m = false ↔ ¬ ((0 ≤ j ∧ j ≤ 24) ∧ -j ≤ m ∧ m ≤ j ∧ (j + m) % 2 = 0) := by
  rw [← Bool.not_eq_true, shB_iff]
/-- What 'SpinTriangle' answers. -/
def triB (a b c : Int) : Bool := svB a && (svB b && (svB c && (decide ((a + b + c) % 2 = 0) && (decide (a ≤ b + c) && (decide (b ≤ a + c) && decide (c ≤ a + b))))))
theorem triB_iff (a b c : Int) : triB a b c = true ↔ (0 ≤ a ∧ a ≤ 24) ∧ (0 ≤ b ∧ b ≤ 24) ∧ (0 ≤ c ∧ c ≤ 24) ∧ (a + b + c) % 2 = 0 ∧ a ≤ b + c ∧ b ≤ a + c ∧ c ≤ a + b := by
  unfold triB; simp only [Bool.and_eq_true, decide_eq_true_eq, svB_iff]
theorem triB_not (a b c : Int) : triB a b c = false ↔ ¬ ((0 ≤ a ∧ a ≤ 24) ∧ (0 ≤ b ∧ b ≤ 24) ∧ (0 ≤ c ∧ c ≤ 24) ∧ (a + b + c) % 2 = 0 ∧ a ≤ b + c ∧ b ≤ a + c ∧ c ≤ a + b) := by
  rw [← Bool.not_eq_true, triB_iff]

theorem ret_bool {a b : Bool} (h : a = b) : Ending.returned (.bool a) = .returned (.bool b) := by rw [h]
theorem ret_int {a b : Int} (h : a = b) : Ending.returned (.int .i64 a) = .returned (.int .i64 b) := by rw [h]

theorem spec_valid (j : Int) (w : World) : Calls Try.prog 13 #[.int .i64 j] w fun e w' => e = .returned (.bool (svB j)) ∧ w = w' := by
  go_enter Try.func13, Try.ntmps13
  go_wp2
  all_goals
    go_ret
    exact ⟨ret_bool (by rw [Bool.eq_iff_iff, svB_iff]; first | omega | (simp only [decide_eq_true_eq, beq_iff_eq, Bool.and_eq_true, Bool.false_eq_true, Bool.not_eq_true', decide_eq_false_iff_not, true_iff, false_iff]; omega)), rfl⟩

theorem impl_valid (j : Int) (w : World) : Calls Try.prog 14 #[.int .i64 j] w fun e w' => e = .returned (.bool (svB j)) ∧ w = w' := by
  go_enter Try.func14, Try.ntmps14
  go_wp2
  all_goals
    go_ret
    exact ⟨ret_bool (by rw [Bool.eq_iff_iff, svB_iff]; first | omega | (simp only [decide_eq_true_eq, beq_iff_eq, Bool.and_eq_true, Bool.false_eq_true, Bool.not_eq_true', decide_eq_false_iff_not, true_iff, false_iff]; omega)), rfl⟩

theorem tmod_two (x : Int) (h : x ≤ 0) : x.tmod 2 = -((-x) % 2) := by
  obtain ⟨y, rfl⟩ : ∃ y : Int, x = -y := ⟨-x, by omega⟩
  rw [Int.neg_tmod, Int.tmod_eq_emod_of_nonneg (by omega), Int.neg_neg]
theorem impl_has (j m : Int) (w : World) : Calls Try.prog 12 #[.int .i64 j, .int .i64 m] w fun e w' => e = .returned (.bool (shB j m)) ∧ w = w' := by
  rcases (by omega : j < 0 ∨ 24 < j ∨ (0 ≤ j ∧ j ≤ 24 ∧ m < -j) ∨ (0 ≤ j ∧ j ≤ 24 ∧ j < m) ∨ (0 ≤ j ∧ j ≤ 24 ∧ -j ≤ m ∧ m ≤ j)) with h | h | ⟨h1, h2, h3⟩ | ⟨h1, h2, h3⟩ | ⟨h1, h2, h3, h4⟩
  case inr.inr.inr.inr =>
    have ht := tmod_two (m - j) (by omega)
    go_enter Try.func12, Try.ntmps12
    go_wp2
    all_goals
      go_ret
      exact ⟨ret_bool (by rw [Bool.eq_iff_iff, shB_iff]; first | omega | (simp only [decide_eq_true_eq, beq_iff_eq, Bool.and_eq_true, Bool.false_eq_true, Bool.not_eq_true', decide_eq_false_iff_not, true_iff, false_iff]; omega)), rfl⟩
  all_goals
    go_enter Try.func12, Try.ntmps12
    go_wp2
    all_goals
      go_ret
      exact ⟨ret_bool (by rw [Bool.eq_iff_iff, shB_iff]; first | omega | (simp only [decide_eq_true_eq, beq_iff_eq, Bool.and_eq_true, Bool.false_eq_true, Bool.not_eq_true', decide_eq_false_iff_not, true_iff, false_iff]; omega)), rfl⟩

end Go.Proofs.Ythhaaepebadnnaa
