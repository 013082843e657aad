/-
  Small lemmas on cells that are kept over a call, for the laws of rationals.
-/
import Derived.Test.YtecoekenkjgijaaRatLess
namespace Go.Proofs.Ytecoekenkjgijaa
open Go.RowKit
set_option linter.unusedSimpArgs false
set_option linter.unusedVariables false

/-- A law's walk ends so. -/
def Holds (w : World) (e : Ending) (w' : World) : Prop := e = .returned (.bool true) ∧ Below w.heap.size w w'
theorem keep0 {W w' : World} {b i : Nat} {v : Value} (hb : Below W.heap.size W w') (k : W.cell? ⟨b, i, none⟩ = some v) : w'.cell? ⟨b, i, none⟩ = some v := (hb.cell (p := ⟨b, i, none⟩) (World.block_lt_of_cell? _ _ k)).trans k
theorem keep1 {W w' : World} {o : Obj} {b i : Nat} {v : Value} (hb : Below (W.alloc o).heap.size (W.alloc o) w') (k : W.cell? ⟨b, i, none⟩ = some v) : w'.cell? ⟨b, i, none⟩ = some v :=
  keep0 hb ((World.cell?_alloc_lt _ _ _ (World.block_lt_of_cell? _ _ k)).trans k)
theorem keep2 {W w' : World} {o o' : Obj} {b i : Nat} {v : Value} (hb : Below ((W.alloc o).alloc o').heap.size ((W.alloc o).alloc o') w') (k : W.cell? ⟨b, i, none⟩ = some v) : w'.cell? ⟨b, i, none⟩ = some v :=
  keep1 hb ((World.cell?_alloc_lt _ _ _ (World.block_lt_of_cell? _ _ k)).trans k)
theorem new0 {W w' : World} (hb : Below W.heap.size W w') : W.heap.size ≤ w'.heap.size ∧ Below W.heap.size W w' := ⟨hb.size, hb⟩
theorem new1 {W w' : World} {x y : Value} {T : TypeId} (hb : Below (W.alloc (.cells #[x, y] T)).heap.size (W.alloc (.cells #[x, y] T)) w') :
    W.heap.size < w'.heap.size ∧ w'.cell? ⟨W.heap.size, 0, none⟩ = some x ∧ w'.cell? ⟨W.heap.size, 1, none⟩ = some y ∧ Below W.heap.size W w' :=
  ⟨by have := hb.size; simp at this; omega, keep0 hb (cell_new0 _ _ _ _), keep0 hb (cell_new1 _ _ _ _), ((Below.refl _ _).alloc (Nat.le_refl _) _).trans (hb.mono (by simp))⟩

theorem to_rat (n d : Int) (w : World) : Calls Try.prog 31 #[.agg #[.int .i64 n, .int .i64 d]] w fun e w' => e = .returned (.agg #[.int .i64 n, .int .i64 d]) ∧ Below w.heap.size w w' := by
  go_enter Try.func31, Try.ntmps31
  go_wp2
  exact bodyPost_ret (v := .agg #[.int .i64 n, .int .i64 d]) (by simp [results, Try.results31, go_sem]) rfl ⟨rfl, (((Below.refl _ _).alloc (Nat.le_refl _) _).alloc (by simp) _).alloc (by simp; omega) _⟩
theorem eq_rat (n d : Int) (w : World) : Calls Try.prog 33 #[.agg #[.int .i64 n, .int .i64 d], .agg #[.int .i64 n, .int .i64 d]] w (Said w true) := by
  go_enter Try.func33, Try.ntmps33
  go_wp2
  go_ret
  exact ⟨rfl, ((Below.refl _ _).alloc (Nat.le_refl _) _).alloc (by simp) _⟩
end Go.Proofs.Ytecoekenkjgijaa
