/-
  Small lemmas for the laws of roots.
-/
import Derived.Test.YtecoekenkjgijaaRootSide
import Derived.Deep.RegionHeld3
import Derived.Deep.DrawnRows
import Derived.Deep.CutRange
namespace Go.Proofs.Ytecoekenkjgijaa
open Go.RowKit
set_option linter.unusedSimpArgs false
set_option linter.unusedVariables false
attribute [local go_sem ↓] Go.wp_at_zero Go.wp_at_succ
theorem box33 {w w1 : World} {a b c a' b' c' : Value} {T T' : TypeId} (hb : Below ((w.alloc (.cells #[a, b, c] T)).alloc (.cells #[a', b', c'] T')).heap.size ((w.alloc (.cells #[a, b, c] T)).alloc (.cells #[a', b', c'] T')) w1) :
    w.heap.size + 1 < w1.heap.size ∧ w1.cell? ⟨w.heap.size, 0, none⟩ = some a ∧ w1.cell? ⟨w.heap.size, 1, none⟩ = some b ∧ w1.cell? ⟨w.heap.size, 2, none⟩ = some c ∧
    w1.cell? ⟨w.heap.size + 1, 0, none⟩ = some a' ∧ w1.cell? ⟨w.heap.size + 1, 1, none⟩ = some b' ∧ w1.cell? ⟨w.heap.size + 1, 2, none⟩ = some c' ∧ Below w.heap.size w w1 := by
  obtain ⟨hc, hf⟩ := bcell hb
  refine ⟨by have := hb.size; simp at this; omega, ?_, ?_, ?_, ?_, ?_, ?_, (((Below.refl _ _).alloc (Nat.le_refl _) _).alloc (by simp) _).trans (hb.mono (by simp; omega))⟩
  · rw [hc _ _ (by simp; omega)]; go_simp
  · rw [hc _ _ (by simp; omega)]; go_simp
  · rw [hc _ _ (by simp; omega)]; go_simp
  · rw [hc _ _ (by simp)]; go_simp
  · rw [hc _ _ (by simp)]; go_simp
  · rw [hc _ _ (by simp)]; go_simp
theorem Sx.set3 {w W0 W : World} {cs : List (Nat × Nat × Value)} {c i j k : Nat} {u v x : Value} (h : Sx w W0 cs W) (hc : W0.heap.size ≤ c) : Sx w W0 cs (((W.setCell ⟨c, i, none⟩ u).setCell ⟨c, j, none⟩ v).setCell ⟨c, k, none⟩ x) :=
  ⟨fun p hp => ⟨(h.1 p hp).1, kset (kset (kset (h.1 p hp).2 (by have := (h.1 p hp).1; omega)) (by have := (h.1 p hp).1; omega)) (by have := (h.1 p hp).1; omega)⟩, by have := h.2.1; simpa [World.setCell] using this,
    ((h.2.2.1.setCell (Nat.le_trans h.2.2.2 hc) _).setCell (Nat.le_trans h.2.2.2 hc) _).setCell (Nat.le_trans h.2.2.2 hc) _, h.2.2.2⟩
theorem all9 {w W0 W : World} {b0 i0 b1 i1 b2 i2 b3 i3 b4 i4 b5 i5 b6 i6 b7 i7 b8 i8 : Nat} {v0 v1 v2 v3 v4 v5 v6 v7 v8 : Value} (h : Sx w W0 [(b0, i0, v0), (b1, i1, v1), (b2, i2, v2), (b3, i3, v3), (b4, i4, v4), (b5, i5, v5), (b6, i6, v6), (b7, i7, v7), (b8, i8, v8)] W) : W.cell? ⟨b0, i0, none⟩ = some v0 ∧ W.cell? ⟨b1, i1, none⟩ = some v1 ∧ W.cell? ⟨b2, i2, none⟩ = some v2 ∧ W.cell? ⟨b3, i3, none⟩ = some v3 ∧ W.cell? ⟨b4, i4, none⟩ = some v4 ∧ W.cell? ⟨b5, i5, none⟩ = some v5 ∧ W.cell? ⟨b6, i6, none⟩ = some v6 ∧ W.cell? ⟨b7, i7, none⟩ = some v7 ∧ W.cell? ⟨b8, i8, none⟩ = some v8 ∧ W0.heap.size ≤ W.heap.size ∧ Sx w W0 [(b0, i0, v0), (b1, i1, v1), (b2, i2, v2), (b3, i3, v3), (b4, i4, v4), (b5, i5, v5), (b6, i6, v6), (b7, i7, v7), (b8, i8, v8)] W :=
  ⟨(h.1 (b0, i0, v0) (by simp)).2, (h.1 (b1, i1, v1) (by simp)).2, (h.1 (b2, i2, v2) (by simp)).2, (h.1 (b3, i3, v3) (by simp)).2, (h.1 (b4, i4, v4) (by simp)).2, (h.1 (b5, i5, v5) (by simp)).2, (h.1 (b6, i6, v6) (by simp)).2, (h.1 (b7, i7, v7) (by simp)).2, (h.1 (b8, i8, v8) (by simp)).2, h.2.1, h⟩
theorem Sx.of9 {w W0 : World} {b0 i0 b1 i1 b2 i2 b3 i3 b4 i4 b5 i5 b6 i6 b7 i7 b8 i8 : Nat} {v0 v1 v2 v3 v4 v5 v6 v7 v8 : Value} (h0 : W0.cell? ⟨b0, i0, none⟩ = some v0) (h1 : W0.cell? ⟨b1, i1, none⟩ = some v1) (h2 : W0.cell? ⟨b2, i2, none⟩ = some v2) (h3 : W0.cell? ⟨b3, i3, none⟩ = some v3) (h4 : W0.cell? ⟨b4, i4, none⟩ = some v4) (h5 : W0.cell? ⟨b5, i5, none⟩ = some v5) (h6 : W0.cell? ⟨b6, i6, none⟩ = some v6) (h7 : W0.cell? ⟨b7, i7, none⟩ = some v7) (h8 : W0.cell? ⟨b8, i8, none⟩ = some v8) (hl : Below w.heap.size w W0) : Sx w W0 [(b0, i0, v0), (b1, i1, v1), (b2, i2, v2), (b3, i3, v3), (b4, i4, v4), (b5, i5, v5), (b6, i6, v6), (b7, i7, v7), (b8, i8, v8)] W0 := by
  refine ⟨?_, Nat.le_refl _, hl, hl.size⟩
  intro p hp
  simp only [List.mem_cons, List.not_mem_nil, or_false] at hp
  rcases hp with rfl | rfl | rfl | rfl | rfl | rfl | rfl | rfl | rfl
  · exact ⟨World.block_lt_of_cell? _ _ h0, h0⟩
  · exact ⟨World.block_lt_of_cell? _ _ h1, h1⟩
  · exact ⟨World.block_lt_of_cell? _ _ h2, h2⟩
  · exact ⟨World.block_lt_of_cell? _ _ h3, h3⟩
  · exact ⟨World.block_lt_of_cell? _ _ h4, h4⟩
  · exact ⟨World.block_lt_of_cell? _ _ h5, h5⟩
  · exact ⟨World.block_lt_of_cell? _ _ h6, h6⟩
  · exact ⟨World.block_lt_of_cell? _ _ h7, h7⟩
  · exact ⟨World.block_lt_of_cell? _ _ h8, h8⟩
theorem start6 (w : World) (s n d s' n' d' : Int) (T : TypeId) : ∃ W0 : World, (w.alloc (.cells #[.int .i64 s, .int .i64 n, .int .i64 d] T)).alloc (.cells #[.int .i64 s', .int .i64 n', .int .i64 d'] T) = W0 ∧ Sx w W0 [(w.heap.size, 0, .int .i64 s), (w.heap.size, 1, .int .i64 n), (w.heap.size, 2, .int .i64 d), (w.heap.size + 1, 0, .int .i64 s'), (w.heap.size + 1, 1, .int .i64 n'), (w.heap.size + 1, 2, .int .i64 d')] W0 := by
  refine ⟨_, rfl, Sx.of6 ?_ ?_ ?_ ?_ ?_ ?_ (((Below.refl _ _).alloc (Nat.le_refl _) _).alloc (by simp) _)⟩
  all_goals go_simp
end Go.Proofs.Ytecoekenkjgijaa
