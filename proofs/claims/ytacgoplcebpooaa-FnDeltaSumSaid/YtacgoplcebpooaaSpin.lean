/-
  What the functions on spins answer, program and reference alike: a validity, a projection, a triangle.
-/
import Derived.Test.YtacgoplcebpooaaBase
import Derived.Lib.Hide
namespace Go.Proofs.Ytacgoplcebpooaa
open Go.RowKit
set_option linter.unusedSimpArgs false
set_option linter.unusedVariables false

/-- What 'SpinValid' answers. -/
def svB (j : Int) : Bool := decide (0 ≤ j) && decide (j ≤ 24)
theorem svB_iff (j : Int) : svB j = true ↔ 0 ≤ j ∧ j ≤ 24 := by unfold svB; simp
theorem svB_not (j : Int) : svB j = false ↔ j < 0 ∨ 24 < j := by
  rw [← Bool.not_eq_true, svB_iff]; omega
/-- What 'SpinHas' answers. -/
def shB (j m : Int) : Bool := svB j && (decide (-j ≤ m) && (decide (m ≤ j) && decide ((j + m) % 2 = 0)))
theorem shB_iff (j m : Int) : shB j m = true ↔ (0 ≤ j ∧ j ≤ 24) ∧ -j ≤ m ∧ m ≤ j ∧ (j + m) % 2 = 0 := by
  unfold shB; simp only [Bool.and_eq_true, decide_eq_true_eq, svB_iff]
theorem shB_not (j m : Int) : shB j m = false ↔ ¬ ((0 ≤ j ∧ j ≤ 24) ∧ -j ≤ m ∧ m ≤ j ∧ (j + m) % 2 = 0) := by
  rw [← Bool.not_eq_true, shB_iff]
/-- What 'SpinTriangle' answers. -/
def triB (a b c : Int) : Bool := svB a && (svB b && (svB c && (decide ((a + b + c) % 2 = 0) && (decide (a ≤ b + c) && (decide (b ≤ a + c) && decide (c ≤ a + b))))))
theorem triB_iff (a b c : Int) : triB a b c = true ↔ (0 ≤ a ∧ a ≤ 24) ∧ (0 ≤ b ∧ b ≤ 24) ∧ (0 ≤ c ∧ c ≤ 24) ∧ (a + b + c) % 2 = 0 ∧ a ≤ b + c ∧ b ≤ a + c ∧ c ≤ a + b := by
  unfold triB; simp only [Bool.and_eq_true, decide_eq_true_eq, svB_iff]
theorem triB_not (a b c : Int) : triB a b c = false ↔ ¬ ((0 ≤ a ∧ a ≤ 24) ∧ (0 ≤ b ∧ b ≤ 24) ∧ (0 ≤ c ∧ c ≤ 24) ∧ (a + b + c) % 2 = 0 ∧ a ≤ b + c ∧ b ≤ a + c ∧ c ≤ a + b) := by
  rw [← Bool.not_eq_true, triB_iff]

theorem ret_bool {a b : Bool} (h : a = b) : Ending.returned (.bool a) = .returned (.bool b) := by rw [h]
theorem ret_int {a b : Int} (h : a = b) : Ending.returned (.int .i64 a) = .returned (.int .i64 b) := by rw [h]

theorem spec_valid (j : Int) (w : World) : Calls Try.prog 27 #[.int .i64 j] w fun e w' => e = .returned (.bool (svB j)) ∧ w = w' := by
  go_enter Try.func27, Try.ntmps27
  go_wp2
  all_goals
    go_ret
    exact ⟨ret_bool (by rw [Bool.eq_iff_iff, svB_iff]; first | omega | (simp only [decide_eq_true_eq, beq_iff_eq, Bool.and_eq_true, Bool.false_eq_true, Bool.not_eq_true', decide_eq_false_iff_not, true_iff, false_iff]; omega)), rfl⟩

theorem impl_valid (j : Int) (w : World) : Calls Try.prog 26 #[.int .i64 j] w fun e w' => e = .returned (.bool (svB j)) ∧ w = w' := by
  go_enter Try.func26, Try.ntmps26
  go_wp2
  all_goals
    go_ret
    exact ⟨ret_bool (by rw [Bool.eq_iff_iff, svB_iff]; first | omega | (simp only [decide_eq_true_eq, beq_iff_eq, Bool.and_eq_true, Bool.false_eq_true, Bool.not_eq_true', decide_eq_false_iff_not, true_iff, false_iff]; omega)), rfl⟩

theorem tmod_two (x : Int) (h : x ≤ 0) : x.tmod 2 = -((-x) % 2) := by
  obtain ⟨y, rfl⟩ : ∃ y : Int, x = -y := ⟨-x, by omega⟩
  rw [Int.neg_tmod, Int.tmod_eq_emod_of_nonneg (by omega), Int.neg_neg]
theorem spec_tri (a b c : Int) (w : World) : Calls Try.prog 21 #[.int .i64 a, .int .i64 b, .int .i64 c] w fun e w' => e = .returned (.bool (triB a b c)) ∧ w = w' := by
  by_cases ha : svB a = true
  · by_cases hb : svB b = true
    · by_cases hc : svB c = true
      · obtain ⟨a1, a2⟩ := (svB_iff a).1 ha
        obtain ⟨b1, b2⟩ := (svB_iff b).1 hb
        obtain ⟨c1, c2⟩ := (svB_iff c).1 hc
        rcases (by omega : (a + b + c) % 2 = 0 ∨ (a + b + c) % 2 = 1) with hm | hm
        · have h1 : ((a + b + c) % 2 == 0) = true := by rw [hm]; rfl
          have h2 : ((a + b + c) % 2 != 0) = false := by rw [hm]; rfl
          have HM := Lib.hid hm
          clear hm
          go_enter Try.func21, Try.ntmps21
          go_wp2_with (go_at_call 27; refine (spec_valid _ _).mono ?_; rintro e w' ⟨rfl, rfl⟩)
          all_goals
            go_ret
            have hm := HM.out
            exact ⟨ret_bool (by rw [Bool.eq_iff_iff, triB_iff]; first | omega | (simp only [decide_eq_true_eq, beq_iff_eq, Bool.and_eq_true, Bool.false_eq_true, Bool.not_eq_true', decide_eq_false_iff_not, true_iff, false_iff]; omega)), rfl⟩
        · have h1 : ((a + b + c) % 2 == 0) = false := by rw [hm]; rfl
          have h2 : ((a + b + c) % 2 != 0) = true := by rw [hm]; rfl
          have HM := Lib.hid hm
          clear hm
          go_enter Try.func21, Try.ntmps21
          go_wp2_with (go_at_call 27; refine (spec_valid _ _).mono ?_; rintro e w' ⟨rfl, rfl⟩)
          all_goals
            go_ret
            have hm := HM.out
            exact ⟨ret_bool (by rw [Bool.eq_iff_iff, triB_iff]; first | omega | (simp only [decide_eq_true_eq, beq_iff_eq, Bool.and_eq_true, Bool.false_eq_true, Bool.not_eq_true', decide_eq_false_iff_not, true_iff, false_iff]; omega)), rfl⟩
      · have hc : svB c = false := by simpa using hc
        have hn : triB a b c = false := by unfold triB; simp [hc]
        have HN := Lib.hid hn
        clear hn
        go_enter Try.func21, Try.ntmps21
        go_wp2_with (go_at_call 27; refine (spec_valid _ _).mono ?_; rintro e w' ⟨rfl, rfl⟩)
        go_ret
        exact ⟨ret_bool HN.out.symm, rfl⟩
    · have hb : svB b = false := by simpa using hb
      have hn : triB a b c = false := by unfold triB; simp [hb]
      have HN := Lib.hid hn
      clear hn
      go_enter Try.func21, Try.ntmps21
      go_wp2_with (go_at_call 27; refine (spec_valid _ _).mono ?_; rintro e w' ⟨rfl, rfl⟩)
      go_ret
      exact ⟨ret_bool HN.out.symm, rfl⟩
  · have ha : svB a = false := by simpa using ha
    have hn : triB a b c = false := by unfold triB; simp [ha]
    have HN := Lib.hid hn
    clear hn
    go_enter Try.func21, Try.ntmps21
    go_wp2_with (go_at_call 27; refine (spec_valid _ _).mono ?_; rintro e w' ⟨rfl, rfl⟩)
    go_ret
    exact ⟨ret_bool HN.out.symm, rfl⟩

theorem impl_tri (a b c : Int) (w : World) : Calls Try.prog 19 #[.int .i64 a, .int .i64 b, .int .i64 c] w fun e w' => e = .returned (.bool (triB a b c)) ∧ w = w' := by
  by_cases ha : svB a = true
  · by_cases hb : svB b = true
    · by_cases hc : svB c = true
      · obtain ⟨a1, a2⟩ := (svB_iff a).1 ha
        obtain ⟨b1, b2⟩ := (svB_iff b).1 hb
        obtain ⟨c1, c2⟩ := (svB_iff c).1 hc
        rcases (by omega : (a + b + c) % 2 = 0 ∨ (a + b + c) % 2 = 1) with hm | hm
        · have h1 : ((a + b + c) % 2 == 0) = true := by rw [hm]; rfl
          have h2 : ((a + b + c) % 2 != 0) = false := by rw [hm]; rfl
          have HM := Lib.hid hm
          clear hm
          go_enter Try.func19, Try.ntmps19
          go_wp2_with (go_at_call 26; refine (impl_valid _ _).mono ?_; rintro e w' ⟨rfl, rfl⟩)
          all_goals
            go_ret
            have hm := HM.out
            exact ⟨ret_bool (by rw [Bool.eq_iff_iff, triB_iff]; first | omega | (simp only [decide_eq_true_eq, beq_iff_eq, Bool.and_eq_true, Bool.false_eq_true, Bool.not_eq_true', decide_eq_false_iff_not, true_iff, false_iff]; omega)), rfl⟩
        · have h1 : ((a + b + c) % 2 == 0) = false := by rw [hm]; rfl
          have h2 : ((a + b + c) % 2 != 0) = true := by rw [hm]; rfl
          have HM := Lib.hid hm
          clear hm
          go_enter Try.func19, Try.ntmps19
          go_wp2_with (go_at_call 26; refine (impl_valid _ _).mono ?_; rintro e w' ⟨rfl, rfl⟩)
          all_goals
            go_ret
            have hm := HM.out
            exact ⟨ret_bool (by rw [Bool.eq_iff_iff, triB_iff]; first | omega | (simp only [decide_eq_true_eq, beq_iff_eq, Bool.and_eq_true, Bool.false_eq_true, Bool.not_eq_true', decide_eq_false_iff_not, true_iff, false_iff]; omega)), rfl⟩
      · have hc : svB c = false := by simpa using hc
        have hn : triB a b c = false := by unfold triB; simp [hc]
        have HN := Lib.hid hn
        clear hn
        go_enter Try.func19, Try.ntmps19
        go_wp2_with (go_at_call 26; refine (impl_valid _ _).mono ?_; rintro e w' ⟨rfl, rfl⟩)
        go_ret
        exact ⟨ret_bool HN.out.symm, rfl⟩
    · have hb : svB b = false := by simpa using hb
      have hn : triB a b c = false := by unfold triB; simp [hb]
      have HN := Lib.hid hn
      clear hn
      go_enter Try.func19, Try.ntmps19
      go_wp2_with (go_at_call 26; refine (impl_valid _ _).mono ?_; rintro e w' ⟨rfl, rfl⟩)
      go_ret
      exact ⟨ret_bool HN.out.symm, rfl⟩
  · have ha : svB a = false := by simpa using ha
    have hn : triB a b c = false := by unfold triB; simp [ha]
    have HN := Lib.hid hn
    clear hn
    go_enter Try.func19, Try.ntmps19
    go_wp2_with (go_at_call 26; refine (impl_valid _ _).mono ?_; rintro e w' ⟨rfl, rfl⟩)
    go_ret
    exact ⟨ret_bool HN.out.symm, rfl⟩

end Go.Proofs.Ytacgoplcebpooaa
