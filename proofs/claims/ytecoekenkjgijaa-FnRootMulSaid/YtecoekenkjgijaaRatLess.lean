/-
  Differences and the order of rationals as the program makes them; the reference's order.
-/
import Derived.Test.YtecoekenkjgijaaRatArith
import Derived.OpenShut
namespace Go.Proofs.Ytecoekenkjgijaa
open Go.RowKit
set_option linter.unusedSimpArgs false
set_option linter.unusedVariables false

theorem wf_small {n : Int} (h : -4000000000000000000 ≤ n ∧ n ≤ 4000000000000000000) : (Lit.int .i64 n).wf = true := by
  have e1 : IntKind.i64.min = -9223372036854775808 := by rfl
  have e2 : IntKind.i64.max = 9223372036854775807 := by rfl
  simp only [Lit.wf, e1, e2, Bool.and_eq_true, decide_eq_true_eq]; omega
theorem wf_bounds {n : Int} (h : (Lit.int .i64 n).wf = true) : -9223372036854775808 ≤ n ∧ n ≤ 9223372036854775807 := by
  have e1 : IntKind.i64.min = -9223372036854775808 := by rfl
  have e2 : IntKind.i64.max = 9223372036854775807 := by rfl
  simp only [Lit.wf, e1, e2, Bool.and_eq_true, decide_eq_true_eq] at h; omega
theorem wrap_out {n : Int} (h : (Lit.int .i64 n).wf = true) (ho : ¬ (-4000000000000000000 ≤ n ∧ n ≤ 4000000000000000000)) : ∃ c : Int, IntKind.i64.wrap (-n) = c ∧ wrap64 (-n) = c ∧ ¬ (-1000000000 ≤ c ∧ c ≤ 1000000000) := by
  have hb := wf_bounds h
  refine ⟨IntKind.i64.wrap (-n), rfl, by unfold wrap64; rw [IntKind.wrap_i64], ?_⟩
  rw [IntKind.wrap_i64]
  omega
theorem ratB_far {n d : Int} (h : ¬ (-1000000000 ≤ n ∧ n ≤ 1000000000)) : ratB n d = false := ratB_no (fun h' => h ⟨h'.2.2.1, h'.2.2.2⟩)


theorem box2 {w w1 : World} {a b c d : Int} {T : TypeId} (hb : Below ((w.alloc (.cells #[.int .i64 a, .int .i64 b] T)).alloc (.cells #[.int .i64 c, .int .i64 d] T)).heap.size ((w.alloc (.cells #[.int .i64 a, .int .i64 b] T)).alloc (.cells #[.int .i64 c, .int .i64 d] T)) w1) :
    w.heap.size + 1 < w1.heap.size ∧ w1.cell? ⟨w.heap.size, 0, none⟩ = some (.int .i64 a) ∧ w1.cell? ⟨w.heap.size, 1, none⟩ = some (.int .i64 b) ∧
    w1.cell? ⟨w.heap.size + 1, 0, none⟩ = some (.int .i64 c) ∧ w1.cell? ⟨w.heap.size + 1, 1, none⟩ = some (.int .i64 d) ∧ Below w.heap.size w w1 := by
  obtain ⟨hc, hf⟩ := bcell hb
  have hs : w.heap.size + 1 < w1.heap.size := by have := hb.size; simp at this; omega
  refine ⟨hs, ?_, ?_, ?_, ?_, ?_⟩
  · rw [hc _ _ (by simp; omega)]; go_simp
  · rw [hc _ _ (by simp; omega)]; go_simp
  · rw [hc _ _ (by simp)]; go_simp
  · rw [hc _ _ (by simp)]; go_simp
  · exact (((Below.refl _ _).alloc (Nat.le_refl _) _).alloc (by simp) _).trans (hb.mono (by simp; omega))

end Go.Proofs.Ytecoekenkjgijaa
