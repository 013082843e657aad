/-
  The exact laws of sums, differences, products, quotients and the order of rationals.
-/
import Derived.Test.YtecoekenkjgijaaKeep
import Derived.Deep.RegionHeld3
import Derived.Deep.DrawnRows
import Derived.Deep.CutRange
namespace Go.Proofs.Ytecoekenkjgijaa
open Go.RowKit
set_option linter.unusedSimpArgs false
set_option linter.unusedVariables false
attribute [local go_sem ↓] Go.wp_at_zero Go.wp_at_succ

theorem res_one (o : Option (Int × Int)) : ∃ x y ok, ∀ W, Res W o = Res1 W x y ok := by
  rcases o with _ | ⟨x, y⟩
  · exact ⟨0, 0, false, fun _ => rfl⟩
  · exact ⟨x, y, true, fun _ => rfl⟩
/-- What a drawn region's loads read is kept: the cells of blocks that were there when the region began; what lay below w's end is as it was in w. -/
def Sx (w W0 : World) (cs : List (Nat × Nat × Value)) (W : World) : Prop :=
  (∀ p ∈ cs, p.1 < W0.heap.size ∧ W.cell? ⟨p.1, p.2.1, none⟩ = some p.2.2) ∧ W0.heap.size ≤ W.heap.size ∧ Below w.heap.size w W ∧ w.heap.size ≤ W0.heap.size
theorem kset {W : World} {b c i j : Nat} {u v : Value} (h : W.cell? ⟨b, i, none⟩ = some v) (hne : b ≠ c) : (W.setCell ⟨c, j, none⟩ u).cell? ⟨b, i, none⟩ = some v :=
  (World.cell?_setCell_other _ _ _ _ (fun e => hne (by injection e with e1; exact e1.symm))).trans h
theorem kalloc {W : World} {o : Obj} {b i : Nat} {v : Value} (h : W.cell? ⟨b, i, none⟩ = some v) : (W.alloc o).cell? ⟨b, i, none⟩ = some v := (World.cell?_alloc_lt _ _ _ (World.block_lt_of_cell? _ _ h)).trans h
theorem kswap {W : World} {o o' : Obj} {b i : Nat} {v : Value} (h : (W.alloc o).cell? ⟨b, i, none⟩ = some v) (hq : b < W.heap.size) : (W.alloc o').cell? ⟨b, i, none⟩ = some v := kalloc ((World.cell?_alloc_lt W o ⟨b, i, none⟩ hq).symm.trans h)
theorem Sx.drew {w W0 W : World} {cs : List (Nat × Nat × Value)} (h : Sx w W0 cs W) : Sx w W0 cs W.drew := ⟨h.1, h.2.1, h.2.2.1.drew, h.2.2.2⟩
theorem Sx.call {w W0 W W' : World} {cs : List (Nat × Nat × Value)} (h : Sx w W0 cs W) (hb : Below W.heap.size W W') : Sx w W0 cs W' :=
  ⟨fun p hp => ⟨(h.1 p hp).1, keep0 hb (h.1 p hp).2⟩, Nat.le_trans h.2.1 hb.size, h.2.2.1.trans (hb.mono (Nat.le_trans h.2.2.2 h.2.1)), h.2.2.2⟩
theorem Sx.alloc {w W0 W : World} {cs : List (Nat × Nat × Value)} (h : Sx w W0 cs W) (o : Obj) : Sx w W0 cs (W.alloc o) :=
  ⟨fun p hp => ⟨(h.1 p hp).1, kalloc (h.1 p hp).2⟩, by have := h.2.1; simp; omega, h.2.2.1.alloc (Nat.le_trans h.2.2.2 h.2.1) o, h.2.2.2⟩
theorem Sx.swap {w W0 W : World} {cs : List (Nat × Nat × Value)} {o o' : Obj} (h : Sx w W0 cs (W.alloc o)) (hq : W0.heap.size ≤ W.heap.size) : Sx w W0 cs (W.alloc o') :=
  ⟨fun p hp => ⟨(h.1 p hp).1, kswap (h.1 p hp).2 (Nat.lt_of_lt_of_le (h.1 p hp).1 hq)⟩, by have := h.2.1; simpa using this,
    ⟨h.2.2.1.os, h.2.2.1.tape, h.2.2.1.output, by have := h.2.2.1.size; simpa using this, fun k hk => (Below.heap_alloc W o' k (by have := h.2.2.2; omega)).trans ((Below.heap_alloc W o k (by have := h.2.2.2; omega)).symm.trans (h.2.2.1.block k hk))⟩, h.2.2.2⟩
theorem Sx.set2 {w W0 W : World} {cs : List (Nat × Nat × Value)} {c i j : Nat} {u v : Value} (h : Sx w W0 cs W) (hc : W0.heap.size ≤ c) : Sx w W0 cs ((W.setCell ⟨c, i, none⟩ u).setCell ⟨c, j, none⟩ v) :=
  ⟨fun p hp => ⟨(h.1 p hp).1, kset (kset (h.1 p hp).2 (by have := (h.1 p hp).1; omega)) (by have := (h.1 p hp).1; omega)⟩, by have := h.2.1; simpa [World.setCell] using this,
    (h.2.2.1.setCell (Nat.le_trans h.2.2.2 hc) _).setCell (Nat.le_trans h.2.2.2 hc) _, h.2.2.2⟩
theorem Sx.undrew {w W0 W : World} {cs : List (Nat × Nat × Value)} (h : Sx w W0 cs W.drew) : Sx w W0 cs W :=
  ⟨fun p hp => h.1 p hp, h.2.1, ⟨h.2.2.1.os, h.2.2.1.tape, h.2.2.1.output, h.2.2.1.size, h.2.2.1.block⟩, h.2.2.2⟩
theorem Sx.allocd {w W0 W : World} {cs : List (Nat × Nat × Value)} (h : Sx w W0 cs W.drew) (o : Obj) : Sx w W0 cs (W.alloc o).drew := (h.undrew.alloc o).drew
theorem all2 {w W0 W : World} {b0 i0 b1 i1 : Nat} {v0 v1 : Value} (h : Sx w W0 [(b0, i0, v0), (b1, i1, v1)] W) : W.cell? ⟨b0, i0, none⟩ = some v0 ∧ W.cell? ⟨b1, i1, none⟩ = some v1 ∧ W0.heap.size ≤ W.heap.size ∧ Sx w W0 [(b0, i0, v0), (b1, i1, v1)] W :=
  ⟨(h.1 (b0, i0, v0) (by simp)).2, (h.1 (b1, i1, v1) (by simp)).2, h.2.1, h⟩
theorem Sx.of2 {w W0 : World} {b0 i0 b1 i1 : Nat} {v0 v1 : Value} (h0 : W0.cell? ⟨b0, i0, none⟩ = some v0) (h1 : W0.cell? ⟨b1, i1, none⟩ = some v1) (hl : Below w.heap.size w W0) : Sx w W0 [(b0, i0, v0), (b1, i1, v1)] W0 := by
  refine ⟨?_, Nat.le_refl _, hl, hl.size⟩
  intro p hp
  simp only [List.mem_cons, List.not_mem_nil, or_false] at hp
  rcases hp with rfl | rfl
  · exact ⟨World.block_lt_of_cell? _ _ h0, h0⟩
  · exact ⟨World.block_lt_of_cell? _ _ h1, h1⟩
theorem all4 {w W0 W : World} {b0 i0 b1 i1 b2 i2 b3 i3 : Nat} {v0 v1 v2 v3 : Value} (h : Sx w W0 [(b0, i0, v0), (b1, i1, v1), (b2, i2, v2), (b3, i3, v3)] W) : W.cell? ⟨b0, i0, none⟩ = some v0 ∧ W.cell? ⟨b1, i1, none⟩ = some v1 ∧ W.cell? ⟨b2, i2, none⟩ = some v2 ∧ W.cell? ⟨b3, i3, none⟩ = some v3 ∧ W0.heap.size ≤ W.heap.size ∧ Sx w W0 [(b0, i0, v0), (b1, i1, v1), (b2, i2, v2), (b3, i3, v3)] W :=
  ⟨(h.1 (b0, i0, v0) (by simp)).2, (h.1 (b1, i1, v1) (by simp)).2, (h.1 (b2, i2, v2) (by simp)).2, (h.1 (b3, i3, v3) (by simp)).2, h.2.1, h⟩
theorem Sx.of4 {w W0 : World} {b0 i0 b1 i1 b2 i2 b3 i3 : Nat} {v0 v1 v2 v3 : Value} (h0 : W0.cell? ⟨b0, i0, none⟩ = some v0) (h1 : W0.cell? ⟨b1, i1, none⟩ = some v1) (h2 : W0.cell? ⟨b2, i2, none⟩ = some v2) (h3 : W0.cell? ⟨b3, i3, none⟩ = some v3) (hl : Below w.heap.size w W0) : Sx w W0 [(b0, i0, v0), (b1, i1, v1), (b2, i2, v2), (b3, i3, v3)] W0 := by
  refine ⟨?_, Nat.le_refl _, hl, hl.size⟩
  intro p hp
  simp only [List.mem_cons, List.not_mem_nil, or_false] at hp
  rcases hp with rfl | rfl | rfl | rfl
  · exact ⟨World.block_lt_of_cell? _ _ h0, h0⟩
  · exact ⟨World.block_lt_of_cell? _ _ h1, h1⟩
  · exact ⟨World.block_lt_of_cell? _ _ h2, h2⟩
  · exact ⟨World.block_lt_of_cell? _ _ h3, h3⟩
theorem all6 {w W0 W : World} {b0 i0 b1 i1 b2 i2 b3 i3 b4 i4 b5 i5 : Nat} {v0 v1 v2 v3 v4 v5 : Value} (h : Sx w W0 [(b0, i0, v0), (b1, i1, v1), (b2, i2, v2), (b3, i3, v3), (b4, i4, v4), (b5, i5, v5)] W) : W.cell? ⟨b0, i0, none⟩ = some v0 ∧ W.cell? ⟨b1, i1, none⟩ = some v1 ∧ W.cell? ⟨b2, i2, none⟩ = some v2 ∧ W.cell? ⟨b3, i3, none⟩ = some v3 ∧ W.cell? ⟨b4, i4, none⟩ = some v4 ∧ W.cell? ⟨b5, i5, none⟩ = some v5 ∧ W0.heap.size ≤ W.heap.size ∧ Sx w W0 [(b0, i0, v0), (b1, i1, v1), (b2, i2, v2), (b3, i3, v3), (b4, i4, v4), (b5, i5, v5)] W :=
  ⟨(h.1 (b0, i0, v0) (by simp)).2, (h.1 (b1, i1, v1) (by simp)).2, (h.1 (b2, i2, v2) (by simp)).2, (h.1 (b3, i3, v3) (by simp)).2, (h.1 (b4, i4, v4) (by simp)).2, (h.1 (b5, i5, v5) (by simp)).2, h.2.1, h⟩
theorem Sx.of6 {w W0 : World} {b0 i0 b1 i1 b2 i2 b3 i3 b4 i4 b5 i5 : Nat} {v0 v1 v2 v3 v4 v5 : Value} (h0 : W0.cell? ⟨b0, i0, none⟩ = some v0) (h1 : W0.cell? ⟨b1, i1, none⟩ = some v1) (h2 : W0.cell? ⟨b2, i2, none⟩ = some v2) (h3 : W0.cell? ⟨b3, i3, none⟩ = some v3) (h4 : W0.cell? ⟨b4, i4, none⟩ = some v4) (h5 : W0.cell? ⟨b5, i5, none⟩ = some v5) (hl : Below w.heap.size w W0) : Sx w W0 [(b0, i0, v0), (b1, i1, v1), (b2, i2, v2), (b3, i3, v3), (b4, i4, v4), (b5, i5, v5)] W0 := by
  refine ⟨?_, Nat.le_refl _, hl, hl.size⟩
  intro p hp
  simp only [List.mem_cons, List.not_mem_nil, or_false] at hp
  rcases hp with rfl | rfl | rfl | rfl | rfl | rfl
  · exact ⟨World.block_lt_of_cell? _ _ h0, h0⟩
  · exact ⟨World.block_lt_of_cell? _ _ h1, h1⟩
  · exact ⟨World.block_lt_of_cell? _ _ h2, h2⟩
  · exact ⟨World.block_lt_of_cell? _ _ h3, h3⟩
  · exact ⟨World.block_lt_of_cell? _ _ h4, h4⟩
  · exact ⟨World.block_lt_of_cell? _ _ h5, h5⟩
theorem all8 {w W0 W : World} {b0 i0 b1 i1 b2 i2 b3 i3 b4 i4 b5 i5 b6 i6 b7 i7 : Nat} {v0 v1 v2 v3 v4 v5 v6 v7 : Value} (h : Sx w W0 [(b0, i0, v0), (b1, i1, v1), (b2, i2, v2), (b3, i3, v3), (b4, i4, v4), (b5, i5, v5), (b6, i6, v6), (b7, i7, v7)] W) : W.cell? ⟨b0, i0, none⟩ = some v0 ∧ W.cell? ⟨b1, i1, none⟩ = some v1 ∧ W.cell? ⟨b2, i2, none⟩ = some v2 ∧ W.cell? ⟨b3, i3, none⟩ = some v3 ∧ W.cell? ⟨b4, i4, none⟩ = some v4 ∧ W.cell? ⟨b5, i5, none⟩ = some v5 ∧ W.cell? ⟨b6, i6, none⟩ = some v6 ∧ W.cell? ⟨b7, i7, none⟩ = some v7 ∧ W0.heap.size ≤ W.heap.size ∧ Sx w W0 [(b0, i0, v0), (b1, i1, v1), (b2, i2, v2), (b3, i3, v3), (b4, i4, v4), (b5, i5, v5), (b6, i6, v6), (b7, i7, v7)] W :=
  ⟨(h.1 (b0, i0, v0) (by simp)).2, (h.1 (b1, i1, v1) (by simp)).2, (h.1 (b2, i2, v2) (by simp)).2, (h.1 (b3, i3, v3) (by simp)).2, (h.1 (b4, i4, v4) (by simp)).2, (h.1 (b5, i5, v5) (by simp)).2, (h.1 (b6, i6, v6) (by simp)).2, (h.1 (b7, i7, v7) (by simp)).2, h.2.1, h⟩
theorem Sx.of8 {w W0 : World} {b0 i0 b1 i1 b2 i2 b3 i3 b4 i4 b5 i5 b6 i6 b7 i7 : Nat} {v0 v1 v2 v3 v4 v5 v6 v7 : Value} (h0 : W0.cell? ⟨b0, i0, none⟩ = some v0) (h1 : W0.cell? ⟨b1, i1, none⟩ = some v1) (h2 : W0.cell? ⟨b2, i2, none⟩ = some v2) (h3 : W0.cell? ⟨b3, i3, none⟩ = some v3) (h4 : W0.cell? ⟨b4, i4, none⟩ = some v4) (h5 : W0.cell? ⟨b5, i5, none⟩ = some v5) (h6 : W0.cell? ⟨b6, i6, none⟩ = some v6) (h7 : W0.cell? ⟨b7, i7, none⟩ = some v7) (hl : Below w.heap.size w W0) : Sx w W0 [(b0, i0, v0), (b1, i1, v1), (b2, i2, v2), (b3, i3, v3), (b4, i4, v4), (b5, i5, v5), (b6, i6, v6), (b7, i7, v7)] W0 := by
  refine ⟨?_, Nat.le_refl _, hl, hl.size⟩
  intro p hp
  simp only [List.mem_cons, List.not_mem_nil, or_false] at hp
  rcases hp with rfl | rfl | rfl | rfl | rfl | rfl | rfl | rfl
  · exact ⟨World.block_lt_of_cell? _ _ h0, h0⟩
  · exact ⟨World.block_lt_of_cell? _ _ h1, h1⟩
  · exact ⟨World.block_lt_of_cell? _ _ h2, h2⟩
  · exact ⟨World.block_lt_of_cell? _ _ h3, h3⟩
  · exact ⟨World.block_lt_of_cell? _ _ h4, h4⟩
  · exact ⟨World.block_lt_of_cell? _ _ h5, h5⟩
  · exact ⟨World.block_lt_of_cell? _ _ h6, h6⟩
  · exact ⟨World.block_lt_of_cell? _ _ h7, h7⟩
theorem start4 (w : World) (an ad bn bd : Int) (T : TypeId) : ∃ W0 : World, (w.alloc (.cells #[.int .i64 an, .int .i64 ad] T)).alloc (.cells #[.int .i64 bn, .int .i64 bd] T) = W0 ∧ Sx w W0 [(w.heap.size, 0, .int .i64 an), (w.heap.size, 1, .int .i64 ad), (w.heap.size + 1, 0, .int .i64 bn), (w.heap.size + 1, 1, .int .i64 bd)] W0 := by
  refine ⟨_, rfl, Sx.of4 ?_ ?_ ?_ ?_ (((Below.refl _ _).alloc (Nat.le_refl _) _).alloc (by simp) _)⟩
  · go_simp
  · go_simp
  · go_simp
  · go_simp
end Go.Proofs.Ytecoekenkjgijaa
