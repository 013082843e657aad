/-
  Draws of one and of two rationals.
-/
import Derived.Test.YtecoekenkjgijaaRatDraws
namespace Go.Proofs.Ytecoekenkjgijaa
open Go.RowKit
set_option linter.unusedSimpArgs false
set_option linter.unusedVariables false



theorem open_w (B n c : Nat) (A : Option Addr) (w : World) (h : Code B w A n c) (hB : B ≤ w.heap.size) :
    Calls Try.prog 39 #[.slice A n c] w fun e w' => ∃ g : Nat, e = .returned (.pointer (some ⟨g, 0, none⟩)) ∧ Rd B w' g 0 ∧ Below w.heap.size w w' ∧ w.heap.size ≤ g := by
  obtain ⟨hnc, hc, hA⟩ := h
  by_cases hn : 2000 < n
  · obtain ⟨b, off, rfl, hb, hv⟩ := hA (by omega)
    clear hA
    go_enter Try.func39, Try.ntmps39
    go_wp2
    go_ret
    exact ⟨w.heap.size, rfl, Rd.new_ _ hB (by omega) (fun _ => ⟨b, off, rfl, hb, fun i hi => hv i (by omega)⟩), (Below.refl _ _).alloc (Nat.le_refl _) _, Nat.le_refl _⟩
  · go_enter Try.func39, Try.ntmps39
    go_wp2
    go_ret
    exact ⟨w.heap.size, rfl, Rd.new_ _ hB (by omega) hA, (Below.refl _ _).alloc (Nat.le_refl _) _, Nat.le_refl _⟩
/-- Two rationals within bounds come back; what was there is as it was. -/
def Two (w : World) (e : Ending) (w' : World) : Prop :=
  ∃ a b c d : Int, (-2000000000 ≤ a ∧ a ≤ 2000000000) ∧ (-2000000000 ≤ b ∧ b ≤ 2000000000) ∧ (-2000000000 ≤ c ∧ c ≤ 2000000000) ∧ (-2000000000 ≤ d ∧ d ≤ 2000000000) ∧ e = .returned (.tuple #[.agg #[.int .i64 a, .int .i64 b], .agg #[.int .i64 c, .int .i64 d]]) ∧ Below w.heap.size w w'





end Go.Proofs.Ytecoekenkjgijaa
