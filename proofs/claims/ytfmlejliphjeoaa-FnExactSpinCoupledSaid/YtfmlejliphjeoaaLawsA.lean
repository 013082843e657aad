/-
  The first laws of spins: each returns true, whatever its arguments, and writes nothing that was there.
-/
import Derived.Test.YtfmlejliphjeoaaSpin
import Derived.Test.YtfmlejliphjeoaaDraws
namespace Go.Proofs.Ytfmlejliphjeoaa
open Go.RowKit
set_option linter.unusedSimpArgs false
set_option linter.unusedVariables false

/-- A law's walk ends so. -/
def Holds (w : World) (e : Ending) (w' : World) : Prop := e = .returned (.bool true) ∧ Below w.heap.size w w'
theorem holds_same (w : World) : Holds w (.returned (.bool true)) w := ⟨rfl, Below.refl _ _⟩

theorem walk_FnExactConstants (w : World) : Calls Try.prog 3 #[] w (Holds w) := by
  go_enter Try.func3, Try.ntmps3
  go_wp2
  go_ret
  exact holds_same _

theorem walk_FnExactSpinValid (j : Int) (w : World) (_h0 : (Lit.int .i64 j).wf = true) : Calls Try.prog 4 #[.int .i64 j] w (Holds w) := by
  go_enter Try.func4, Try.ntmps4
  go_wp2_with (first | (go_at_call 17; refine (spec_valid _ _).mono ?_; rintro e w' ⟨rfl, rfl⟩) | (go_at_call 18; refine (impl_valid _ _).mono ?_; rintro e w' ⟨rfl, rfl⟩))
  all_goals
    go_ret
    exact holds_same _

theorem walk_FnExactSpinHas (j m : Int) (w : World) (_h0 : (Lit.int .i64 j).wf = true) (_h1 : (Lit.int .i64 m).wf = true) : Calls Try.prog 5 #[.int .i64 j, .int .i64 m] w (Holds w) := by
  go_enter Try.func5, Try.ntmps5
  go_wp2_with (first | (go_at_call 19; refine (spec_has _ _ _).mono ?_; rintro e w' ⟨rfl, rfl⟩) | (go_at_call 20; refine (impl_has _ _ _).mono ?_; rintro e w' ⟨rfl, rfl⟩))
  all_goals
    go_ret
    exact holds_same _

theorem walk_FnExactSpinTriangle (a b c : Int) (w : World) (_h0 : (Lit.int .i64 a).wf = true) (_h1 : (Lit.int .i64 b).wf = true) (_h2 : (Lit.int .i64 c).wf = true) : Calls Try.prog 6 #[.int .i64 a, .int .i64 b, .int .i64 c] w (Holds w) := by
  go_enter Try.func6, Try.ntmps6
  go_wp2_with (first | (go_at_call 21; refine (spec_tri _ _ _ _).mono ?_; rintro e w' ⟨rfl, rfl⟩) | (go_at_call 22; refine (impl_tri _ _ _ _).mono ?_; rintro e w' ⟨rfl, rfl⟩))
  all_goals
    go_ret
    exact holds_same _

theorem walk_FnSpin (A : Option Addr) (n c : Nat) (w : World) (h : Code w.heap.size w A n c) : Calls Try.prog 7 #[.slice A n c] w (Holds w) := by
  have HC := draw_has w.heap.size n c A w h (Nat.le_refl _)
  have HO := Lib.hid HC
  clear h HC
  go_enter Try.func7, Try.ntmps7
  go_wp2_with fail
  · go_ret
    exact holds_same _
  · refine HO.out.mono ?_
    rintro e w1 ⟨j, m, -, rfl, hb⟩
    clear HO
    by_cases hs : shB j m = true
    · obtain ⟨⟨h1, h2⟩, h3, h4, h5⟩ := (shB_iff j m).1 hs
      have f0 : svB j = true := (svB_iff j).2 (by omega)
      have f1 : shB j (-m) = true := (shB_iff _ _).2 (by omega)
      have f2 : shB j (m + 1) = false := (shB_not _ _).2 (by omega)
      have f3 : shB j (j + 2) = false := (shB_not _ _).2 (by omega)
      go_wp2_with (first | (go_at_call 20; refine (impl_has _ _ _).mono ?_; rintro e w' ⟨rfl, rfl⟩) | (go_at_call 19; refine (spec_has _ _ _).mono ?_; rintro e w' ⟨rfl, rfl⟩) | (go_at_call 18; refine (impl_valid _ _).mono ?_; rintro e w' ⟨rfl, rfl⟩))
      go_ret
      exact ⟨rfl, hb⟩
    · have hs : shB j m = false := by simpa using hs
      go_wp2_with (first | (go_at_call 20; refine (impl_has _ _ _).mono ?_; rintro e w' ⟨rfl, rfl⟩) | (go_at_call 19; refine (spec_has _ _ _).mono ?_; rintro e w' ⟨rfl, rfl⟩))
      go_ret
      exact ⟨rfl, hb⟩

theorem walk_FnSpinTriangle (A : Option Addr) (n c : Nat) (w : World) (h : Code w.heap.size w A n c) : Calls Try.prog 8 #[.slice A n c] w (Holds w) := by
  have HC := draw_tri w.heap.size n c A w h (Nat.le_refl _)
  have HO := Lib.hid HC
  clear h HC
  go_enter Try.func8, Try.ntmps8
  go_wp2_with fail
  · go_ret
    exact holds_same _
  · refine HO.out.mono ?_
    rintro e w1 ⟨a, b, c, -, rfl, hb⟩
    clear HO
    by_cases hs : triB a b c = true
    · obtain ⟨⟨a1, a2⟩, ⟨b1, b2⟩, ⟨c1, c2⟩, m, t1, t2, t3⟩ := (triB_iff a b c).1 hs
      have f1 : triB b c a = true := (triB_iff _ _ _).2 (by omega)
      have f2 : triB c a b = true := (triB_iff _ _ _).2 (by omega)
      have f3 : triB b a c = true := (triB_iff _ _ _).2 (by omega)
      have f4 : triB c b a = true := (triB_iff _ _ _).2 (by omega)
      have f5 : triB a b (c + 1) = false := (triB_not _ _ _).2 (by omega)
      clear m t1 t2 t3
      go_wp2_with (first | (go_at_call 22; refine (impl_tri _ _ _ _).mono ?_; rintro e w' ⟨rfl, rfl⟩) | (go_at_call 21; refine (spec_tri _ _ _ _).mono ?_; rintro e w' ⟨rfl, rfl⟩))
      all_goals
        go_ret
        exact ⟨rfl, hb⟩
    · have hs : triB a b c = false := by simpa using hs
      go_wp2_with (first | (go_at_call 22; refine (impl_tri _ _ _ _).mono ?_; rintro e w' ⟨rfl, rfl⟩) | (go_at_call 21; refine (spec_tri _ _ _ _).mono ?_; rintro e w' ⟨rfl, rfl⟩))
      go_ret
      exact ⟨rfl, hb⟩

theorem walk_FnSpinTriangleSum (A : Option Addr) (n c : Nat) (w : World) (h : Code w.heap.size w A n c) : Calls Try.prog 9 #[.slice A n c] w (Holds w) := by
  have HC := draw_tri w.heap.size n c A w h (Nat.le_refl _)
  have HO := Lib.hid HC
  clear h HC
  go_enter Try.func9, Try.ntmps9
  go_wp2_with fail
  · go_ret
    exact holds_same _
  · refine HO.out.mono ?_
    rintro e w1 ⟨a, b, c, -, rfl, hb⟩
    clear HO
    by_cases hs : triB a b c = true
    · obtain ⟨⟨a1, a2⟩, ⟨b1, b2⟩, ⟨c1, c2⟩, m, t1, t2, t3⟩ := (triB_iff a b c).1 hs
      have f1 : a + b ≤ 24 → triB a b (a + b) = true := fun _ => (triB_iff _ _ _).2 (by omega)
      have f2 : triB a b (a + b + 2) = false := (triB_not _ _ _).2 (by omega)
      clear m t1 t2 t3
      by_cases hg : a + b ≤ 24
      all_goals
        first | (have f3 := f1 hg) | skip
        clear f1
        go_wp2_with (first | (go_at_call 22; refine (impl_tri _ _ _ _).mono ?_; rintro e w' ⟨rfl, rfl⟩) | (go_at_call 21; refine (spec_tri _ _ _ _).mono ?_; rintro e w' ⟨rfl, rfl⟩))
        all_goals
          go_ret
          exact ⟨rfl, hb⟩
    · have hs : triB a b c = false := by simpa using hs
      go_wp2_with (first | (go_at_call 22; refine (impl_tri _ _ _ _).mono ?_; rintro e w' ⟨rfl, rfl⟩) | (go_at_call 21; refine (spec_tri _ _ _ _).mono ?_; rintro e w' ⟨rfl, rfl⟩))
      go_ret
      exact ⟨rfl, hb⟩
end Go.Proofs.Ytfmlejliphjeoaa
