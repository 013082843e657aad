/-
  The exact laws of rationals.
-/
import Derived.Test.YtkefamafcllncaaRatLess
namespace Go.Proofs.Ytkefamafcllncaa
open Go.RowKit
set_option linter.unusedSimpArgs false
set_option linter.unusedVariables false

/-- A law's walk ends so. -/
def Holds (w : World) (e : Ending) (w' : World) : Prop := e = .returned (.bool true) ∧ Below w.heap.size w w'

theorem to_rat (n d : Int) (w : World) : Calls Try.prog 14 #[.agg #[.int .i64 n, .int .i64 d]] w fun e w' => e = .returned (.agg #[.int .i64 n, .int .i64 d]) ∧ Below w.heap.size w w' := by
  go_enter Try.func14, Try.ntmps14
  go_wp2
  exact bodyPost_ret (v := .agg #[.int .i64 n, .int .i64 d]) (by simp [results, Try.results14, go_sem]) rfl ⟨rfl, (((Below.refl _ _).alloc (Nat.le_refl _) _).alloc (by simp) _).alloc (by simp; omega) _⟩
theorem eq_rat (n d : Int) (w : World) : Calls Try.prog 18 #[.agg #[.int .i64 n, .int .i64 d], .agg #[.int .i64 n, .int .i64 d]] w (Said w true) := by
  go_enter Try.func18, Try.ntmps18
  go_wp2
  go_ret
  exact ⟨rfl, ((Below.refl _ _).alloc (Nat.le_refl _) _).alloc (by simp) _⟩

theorem keep0 {W w' : World} {b i : Nat} {v : Value} (hb : Below W.heap.size W w') (k : W.cell? ⟨b, i, none⟩ = some v) : w'.cell? ⟨b, i, none⟩ = some v := (hb.cell (p := ⟨b, i, none⟩) (World.block_lt_of_cell? _ _ k)).trans k
theorem keep1 {W w' : World} {o : Obj} {b i : Nat} {v : Value} (hb : Below (W.alloc o).heap.size (W.alloc o) w') (k : W.cell? ⟨b, i, none⟩ = some v) : w'.cell? ⟨b, i, none⟩ = some v :=
  keep0 hb ((World.cell?_alloc_lt _ _ _ (World.block_lt_of_cell? _ _ k)).trans k)
theorem new1 {W w' : World} {x y : Value} {T : TypeId} (hb : Below (W.alloc (.cells #[x, y] T)).heap.size (W.alloc (.cells #[x, y] T)) w') :
    W.heap.size < w'.heap.size ∧ w'.cell? ⟨W.heap.size, 0, none⟩ = some x ∧ w'.cell? ⟨W.heap.size, 1, none⟩ = some y ∧ Below W.heap.size W w' :=
  ⟨by have := hb.size; simp at this; omega, keep0 hb (cell_new0 _ _ _ _), keep0 hb (cell_new1 _ _ _ _), ((Below.refl _ _).alloc (Nat.le_refl _) _).trans (hb.mono (by simp))⟩

theorem walk_FnExactRatValid (n d : Int) (w : World) (_h0 : (Lit.int .i64 n).wf = true) (_h1 : (Lit.int .i64 d).wf = true) : Calls Try.prog 3 #[.agg #[.int .i64 n, .int .i64 d]] w (Holds w) := by
  clear _h0 _h1
  go_enter Try.func3, Try.ntmps3
  go_wp2_with fail
  refine (to_rat n d _).mono ?_
  rintro e w1 ⟨rfl, hb1⟩
  obtain ⟨s1, k1, k2, hl1⟩ := new1 hb1
  go_wp2_with fail
  refine (spec_valid n d _).mono ?_
  rintro e w2 ⟨rfl, hb2⟩
  have k3 := keep0 hb2 k1
  have k4 := keep0 hb2 k2
  have hl2 := hl1.trans (hb2.mono (by omega))
  clear hb1 hb2 k1 k2 hl1
  go_wp2_with fail
  refine (to_rat n d _).mono ?_
  rintro e w3 ⟨rfl, hb3⟩
  have hl3 := hl2.trans (hb3.mono hl2.size)
  go_wp2_with fail
  refine (impl_valid n d _).mono ?_
  rintro e w4 ⟨rfl, hb4⟩
  have hl4 := hl3.trans (hb4.mono hl3.size)
  go_wp2
  go_ret
  exact ⟨rfl, hl4⟩

theorem walk_FnExactRatOf (n d : Int) (w : World) (_h0 : (Lit.int .i64 n).wf = true) (_h1 : (Lit.int .i64 d).wf = true) : Calls Try.prog 4 #[.int .i64 n, .int .i64 d] w (Holds w) := by
  clear _h0 _h1
  have HS : Hid (∀ W, Calls Try.prog 16 #[.int .i64 n, .int .i64 d] W (Res W (ofR n d))) := fun W => spec_of n d W
  have HI : Hid (∀ W, Calls Try.prog 17 #[.int .i64 n, .int .i64 d] W (Res W (ofR n d))) := fun W => impl_of n d W
  generalize ofR n d = o at *
  rcases o with _ | ⟨x, y⟩
  all_goals
    go_enter Try.func4, Try.ntmps4
    go_wp2_with fail
    refine (HS.out _).mono ?_
    rintro e w1 ⟨rfl, hb1⟩
    go_wp2_with fail
    refine (HI.out _).mono ?_
    rintro e w2 ⟨rfl, hb2⟩
    obtain ⟨s2, k1, k2, hl2⟩ := new1 hb2
    have hl3 := hb1.trans (hl2.mono hb1.size)
    clear hb2
    go_wp2_with fail
    refine (eq_rat _ _ _).mono ?_
    rintro e w3 ⟨rfl, hb3⟩
    have hl4 := (hl3.alloc hl3.size _).trans (hb3.mono (by have := hl3.size; simp; omega))
    go_wp2
    go_ret
    exact ⟨rfl, hl4⟩
end Go.Proofs.Ytkefamafcllncaa
