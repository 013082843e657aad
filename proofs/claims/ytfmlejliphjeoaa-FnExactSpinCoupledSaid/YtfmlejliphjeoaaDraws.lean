/-
  The draws of spins: whatever the code, they return numbers, and write nothing that was there.
-/
import Derived.Test.YtfmlejliphjeoaaBase
import Derived.Lib.Hide
namespace Go.Proofs.Ytfmlejliphjeoaa
open Go.RowKit
set_option linter.unusedSimpArgs false
set_option linter.unusedVariables false

def Drew1 (B : Nat) (w : World) (P : Int → Prop) (e : Ending) (w' : World) : Prop := ∃ a : Int, P a ∧ e = .returned (.int .i64 a) ∧ Below B w w'
def Drew2 (B : Nat) (w : World) (P : Int → Int → Prop) (e : Ending) (w' : World) : Prop := ∃ a b : Int, P a b ∧ e = .returned (.tuple #[.int .i64 a, .int .i64 b]) ∧ Below B w w'
def Drew3 (B : Nat) (w : World) (P : Int → Int → Int → Prop) (e : Ending) (w' : World) : Prop := ∃ a b c : Int, P a b c ∧ e = .returned (.tuple #[.int .i64 a, .int .i64 b, .int .i64 c]) ∧ Below B w w'

theorem abs_spec (n : Int) (w : World) (h : -1000000 ≤ n ∧ n ≤ 1000000) : Calls Try.prog 39 #[.int .i64 n] w fun e w' => e = .returned (.int .i64 (n.natAbs : Int)) ∧ w = w' := by
  obtain ⟨h1, h2⟩ := h
  go_enter Try.func39, Try.ntmps39
  go_wp2
  all_goals
    go_ret
    exact ⟨congrArg (fun z => Ending.returned (Value.int .i64 z)) (by omega), rfl⟩

theorem draw_has (B n c : Nat) (A : Option Addr) (w : World) (h : Code B w A n c) (hB : B ≤ w.heap.size) :
    Calls Try.prog 23 #[.slice A n c] w (Drew2 B w fun _ _ => True) := by
  have HC := open_any B n c A w h hB
  have HO := Lib.hid HC
  clear h HC
  go_enter Try.func23, Try.ntmps23
  go_wp2_with fail
  refine HO.out.mono ?_
  rintro e w1 ⟨g, rfl, hR1, hb1⟩
  go_wp2_with fail
  refine (pick_any B g _ _ _ hR1 (by omega) (by omega) (by omega) (by omega)).mono ?_
  rintro e w2 ⟨j, rfl, j0, j1, -, hR2, hb2⟩
  have j2 := j1 (by omega)
  clear j1
  go_wp2_with fail
  refine (pick_any B g _ _ _ hR2 (by omega) (by omega) (by omega) (by omega)).mono ?_
  rintro e w3 ⟨x, rfl, x0, x1, -, hR3, hb3⟩
  have x2 := x1 (by omega)
  clear x1
  go_wp2_with fail
  · refine (pick_any B g _ _ _ hR3 (by omega) (by omega) (by omega) (by omega)).mono ?_
    rintro e w4 ⟨y, rfl, y0, y1, -, hR4, hb4⟩
    have y2 := y1 (by omega)
    clear y1
    go_wp2
    go_ret2
    exact ⟨_, _, trivial, rfl, ((hb1.trans hb2).trans hb3).trans hb4⟩
  · refine (pick_any B g _ _ _ hR3 (by omega) (by omega) (by omega) (by omega)).mono ?_
    rintro e w4 ⟨y, rfl, y0, y1, -, hR4, hb4⟩
    have y2 := y1 (by omega)
    clear y1
    go_wp2
    go_ret2
    exact ⟨_, _, trivial, rfl, ((hb1.trans hb2).trans hb3).trans hb4⟩

theorem draw_tri (B n c : Nat) (A : Option Addr) (w : World) (h : Code B w A n c) (hB : B ≤ w.heap.size) :
    Calls Try.prog 24 #[.slice A n c] w (Drew3 B w fun _ _ _ => True) := by
  have HC := open_any B n c A w h hB
  have HO := Lib.hid HC
  clear h HC
  go_enter Try.func24, Try.ntmps24
  go_wp2_with fail
  refine HO.out.mono ?_
  rintro e w1 ⟨g, rfl, hR1, hb1⟩
  go_wp2_with fail
  refine (pick_any B g _ _ _ hR1 (by omega) (by omega) (by omega) (by omega)).mono ?_
  rintro e w2 ⟨a, rfl, a0, a1, -, hR2, hb2⟩
  have a2 := a1 (by omega)
  clear a1
  go_wp2_with fail
  refine (pick_any B g _ _ _ hR2 (by omega) (by omega) (by omega) (by omega)).mono ?_
  rintro e w3 ⟨b, rfl, b0, b1, -, hR3, hb3⟩
  have b2 := b1 (by omega)
  clear b1
  go_wp2_with fail
  refine (pick_any B g _ _ _ hR3 (by omega) (by omega) (by omega) (by omega)).mono ?_
  rintro e w4 ⟨x, rfl, x0, x1, -, hR4, hb4⟩
  have x2 := x1 (by omega)
  clear x1
  go_wp2_with fail
  · refine (abs_spec _ _ (by omega)).mono ?_
    rintro e w5 ⟨rfl, rfl⟩
    go_wp2_with fail
    all_goals
      refine (pick_any B g _ _ _ hR4 (by omega) (by omega) (by omega) (by omega)).mono ?_
      rintro e w5 ⟨y, rfl, y0, y1, -, hR5, hb5⟩
      have y2 := y1 (by omega)
      clear y1
      go_wp2
      go_ret3
      exact ⟨_, _, _, trivial, rfl, (((hb1.trans hb2).trans hb3).trans hb4).trans hb5⟩
  · refine (pick_any B g _ _ _ hR4 (by omega) (by omega) (by omega) (by omega)).mono ?_
    rintro e w5 ⟨y, rfl, y0, y1, -, hR5, hb5⟩
    have y2 := y1 (by omega)
    clear y1
    go_wp2
    go_ret3
    exact ⟨_, _, _, trivial, rfl, (((hb1.trans hb2).trans hb3).trans hb4).trans hb5⟩
end Go.Proofs.Ytfmlejliphjeoaa
