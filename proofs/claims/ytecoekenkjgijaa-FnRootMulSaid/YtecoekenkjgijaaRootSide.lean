/-
  Products of roots and roots of numbers, program and reference alike.
-/
import Derived.Test.YtecoekenkjgijaaHeld
import Derived.Test.YtecoekenkjgijaaRoot
import Derived.Deep.RegionWith
import Derived.Deep.CutRange
namespace Go.Proofs.Ytecoekenkjgijaa
open Go.RowKit
set_option linter.unusedSimpArgs false
set_option linter.unusedVariables false
attribute [local go_sem ↓] Go.wp_at_zero Go.wp_at_succ
theorem threeA {w1 : World} {b : Nat} {u v t : Value} (x y z : Value) (o : Obj) (c0 : w1.cell? ⟨b, 0, none⟩ = some u) (c1 : w1.cell? ⟨b, 1, none⟩ = some v) (c2 : w1.cell? ⟨b, 2, none⟩ = some t) :
    ((((w1.setCell ⟨b, 0, none⟩ x).setCell ⟨b, 1, none⟩ y).setCell ⟨b, 2, none⟩ z).alloc o).cell? ⟨b, 0, none⟩ = some x ∧
    ((((w1.setCell ⟨b, 0, none⟩ x).setCell ⟨b, 1, none⟩ y).setCell ⟨b, 2, none⟩ z).alloc o).cell? ⟨b, 1, none⟩ = some y ∧
    ((((w1.setCell ⟨b, 0, none⟩ x).setCell ⟨b, 1, none⟩ y).setCell ⟨b, 2, none⟩ z).alloc o).cell? ⟨b, 2, none⟩ = some z :=
  ⟨kalloc ((World.cell?_setCell_other _ _ _ _ (by simp)).trans ((World.cell?_setCell_other _ _ _ _ (by simp)).trans (two0 x c0))), kalloc ((World.cell?_setCell_other _ _ _ _ (by simp)).trans (three1 x y c1)), kalloc (three2 x y z c2)⟩

theorem spec_sign (n t : Int) (w : World) (h : (n < 0 ∧ t = -1) ∨ (n = 0 ∧ t = 0) ∨ (0 < n ∧ t = 1)) : Calls Try.prog 36 #[.int .i64 n] w fun e w' => e = .returned (.int .i64 t) ∧ w = w' := by
  rcases h with ⟨h, rfl⟩ | ⟨h, rfl⟩ | ⟨h, rfl⟩
  · go_enter Try.func36, Try.ntmps36
    go_wp2
    go_ret
    exact ⟨rfl, rfl⟩
  · subst h
    go_enter Try.func36, Try.ntmps36
    go_wp2
    go_ret
    exact ⟨rfl, rfl⟩
  · go_enter Try.func36, Try.ntmps36
    go_wp2
    go_ret
    exact ⟨rfl, rfl⟩
theorem impl_sign (n t : Int) (w : World) (h : (n < 0 ∧ t = -1) ∨ (n = 0 ∧ t = 0) ∨ (0 < n ∧ t = 1)) : Calls Try.prog 37 #[.int .i64 n, .int .i64 0] w fun e w' => e = .returned (.int .i64 t) ∧ w = w' := by
  rcases h with ⟨h, rfl⟩ | ⟨h, rfl⟩ | ⟨h, rfl⟩
  · go_enter Try.func37, Try.ntmps37
    go_wp2
    go_ret
    exact ⟨rfl, rfl⟩
  · subst h
    go_enter Try.func37, Try.ntmps37
    go_wp2
    go_ret
    exact ⟨rfl, rfl⟩
  · go_enter Try.func37, Try.ntmps37
    go_wp2
    go_ret
    exact ⟨rfl, rfl⟩

theorem to_root (s n d : Int) (w : World) : Calls Try.prog 13 #[.agg #[.int .i64 s, .int .i64 n, .int .i64 d]] w fun e w' => e = .returned (.agg #[.int .i64 s, .int .i64 n, .int .i64 d]) ∧ Below w.heap.size w w' := by
  go_enter Try.func13, Try.ntmps13
  go_wp2_with fail
  refine (to_rat n d _).mono ?_
  rintro e w1 ⟨rfl, hb1⟩
  obtain ⟨hc1, hf1⟩ := bcell hb1
  have hz1 : w.heap.size + 2 < w1.heap.size := by have := hb1.size; simp at this; omega
  have zw10 : w.heap.size < w1.heap.size := by omega
  have zw11 : w.heap.size + 1 < w1.heap.size := by omega
  have zw12 : w.heap.size + 2 < w1.heap.size := by omega
  have hl1 : Below w.heap.size w w1 := ((((Below.refl _ _).alloc (Nat.le_refl _) _).alloc (by simp) _).alloc (by simp; omega) _).trans (hb1.mono (by simp; omega))
  have c0 : w1.cell? ⟨w.heap.size + 1, 0, none⟩ = some (.int .i64 0) := by rw [hc1 _ _ (by first | (simp; done) | (simp; omega))]; go_simp
  have c1 : w1.cell? ⟨w.heap.size + 1, 1, none⟩ = some (.int .i64 0) := by rw [hc1 _ _ (by first | (simp; done) | (simp; omega))]; go_simp
  have c2 : w1.cell? ⟨w.heap.size + 1, 2, none⟩ = some (.int .i64 0) := by rw [hc1 _ _ (by first | (simp; done) | (simp; omega))]; go_simp
  have e : ∀ {i : Nat}, w1.cell? ⟨w.heap.size + 1, i, none⟩ = some (.int .i64 0) → ((w1.setCell ⟨w.heap.size + 1 + 1, 1, none⟩ (.int .i64 n)).setCell ⟨w.heap.size + 1 + 1, 2, none⟩ (.int .i64 d)).cell? ⟨w.heap.size + 1, i, none⟩ = some (.int .i64 0) := fun h => kset (kset h (by omega)) (by omega)
  have e0 := e c0
  have e1 := e c1
  have e2 := e c2
  clear e c0 c1 c2
  have d0 : w1.cell? ⟨w.heap.size + 2, 0, none⟩ = some (.int .i64 s) := by rw [hc1 _ _ (by simp)]; go_simp
  have d1 : w1.cell? ⟨w.heap.size + 2, 1, none⟩ = some (.int .i64 0) := by rw [hc1 _ _ (by simp)]; go_simp
  have d2 : w1.cell? ⟨w.heap.size + 2, 2, none⟩ = some (.int .i64 0) := by rw [hc1 _ _ (by simp)]; go_simp
  go_wp2
  refine bodyPost_ret (v := .agg #[.int .i64 s, .int .i64 n, .int .i64 d]) ?_ rfl ⟨rfl, bset3 ((hl1.setCell (by show w.heap.size ≤ w.heap.size + 1 + 1; omega) _).setCell (by show w.heap.size ≤ w.heap.size + 1 + 1; omega) _) (by omega)⟩
  simp [results, Try.results13, go_sem, two0 _ e0, three1 _ _ e1, three2 _ _ _ e2]
theorem eq_root (s n d : Int) (w : World) : Calls Try.prog 17 #[.agg #[.int .i64 s, .int .i64 n, .int .i64 d], .agg #[.int .i64 s, .int .i64 n, .int .i64 d]] w (Said w true) := by
  have hs : (s != s) = false := by simp
  go_enter Try.func17, Try.ntmps17
  go_wp2_with fail
  refine (eq_rat n d _).mono ?_
  rintro e w1 ⟨rfl, hb1⟩
  go_wp2
  go_ret
  exact ⟨rfl, (((Below.refl _ _).alloc (Nat.le_refl _) _).alloc (by simp) _).trans (hb1.mono (by simp; omega))⟩
end Go.Proofs.Ytecoekenkjgijaa
