/-
  What 'RatText' returns: the program's (over the library's Itoa) and the reference's (over its own decimals).
-/
import Derived.Test.YtkmakknjackdiaaDoorRat
import Derived.Test.YtkmakknjackdiaaDoorDec
import Derived.Test.YtkmakknjackdiaaDoorLaid
import Derived.Deep.CutRange
import Derived.LaidSub
import Derived.Lib.LaidTab
namespace Go.Proofs.YtkmakknjackdiaaDoor
open Go.RowKit Go.Sort
set_option linter.unusedSimpArgs false
set_option linter.unusedVariables false
attribute [local go_sem ↓] Go.wp_at_zero Go.wp_at_succ

/-- What a drawn region's loads read is kept: the cells of blocks that were there when the region began; what lay below w's end is as it was in w. -/
def Sx (w W0 : World) (cs : List (Nat × Nat × Value)) (W : World) : Prop :=
  (∀ p ∈ cs, p.1 < W0.heap.size ∧ W.cell? ⟨p.1, p.2.1, none⟩ = some p.2.2) ∧ W0.heap.size ≤ W.heap.size ∧ Below w.heap.size w W ∧ w.heap.size ≤ W0.heap.size
theorem kset {W : World} {b c i j : Nat} {u v : Value} (h : W.cell? ⟨b, i, none⟩ = some v) (hne : b ≠ c) : (W.setCell ⟨c, j, none⟩ u).cell? ⟨b, i, none⟩ = some v :=
  (World.cell?_setCell_other _ _ _ _ (fun e => hne (by injection e with e1; exact e1.symm))).trans h
theorem kswap {W : World} {o o' : Obj} {b i : Nat} {v : Value} (h : (W.alloc o).cell? ⟨b, i, none⟩ = some v) (hq : b < W.heap.size) : (W.alloc o').cell? ⟨b, i, none⟩ = some v := kalloc ((World.cell?_alloc_lt W o ⟨b, i, none⟩ hq).symm.trans h)
theorem Sx.drew {w W0 W : World} {cs : List (Nat × Nat × Value)} (h : Sx w W0 cs W) : Sx w W0 cs W.drew := ⟨h.1, h.2.1, h.2.2.1.drew, h.2.2.2⟩
theorem Sx.call {w W0 W W' : World} {cs : List (Nat × Nat × Value)} (h : Sx w W0 cs W) (hb : Below W.heap.size W W') : Sx w W0 cs W' :=
  ⟨fun p hp => ⟨(h.1 p hp).1, keep0 hb (h.1 p hp).2⟩, Nat.le_trans h.2.1 hb.size, h.2.2.1.trans (hb.mono (Nat.le_trans h.2.2.2 h.2.1)), h.2.2.2⟩
theorem Sx.alloc {w W0 W : World} {cs : List (Nat × Nat × Value)} (h : Sx w W0 cs W) (o : Obj) : Sx w W0 cs (W.alloc o) :=
  ⟨fun p hp => ⟨(h.1 p hp).1, kalloc (h.1 p hp).2⟩, by have := h.2.1; simp; omega, h.2.2.1.alloc (Nat.le_trans h.2.2.2 h.2.1) o, h.2.2.2⟩
theorem Sx.swap {w W0 W : World} {cs : List (Nat × Nat × Value)} {o o' : Obj} (h : Sx w W0 cs (W.alloc o)) (hq : W0.heap.size ≤ W.heap.size) : Sx w W0 cs (W.alloc o') :=
  ⟨fun p hp => ⟨(h.1 p hp).1, kswap (h.1 p hp).2 (Nat.lt_of_lt_of_le (h.1 p hp).1 hq)⟩, by have := h.2.1; simpa using this,
    ⟨h.2.2.1.os, h.2.2.1.tape, h.2.2.1.output, by have := h.2.2.1.size; simpa using this, fun k hk => (Below.heap_alloc W o' k (by have := h.2.2.2; omega)).trans ((Below.heap_alloc W o k (by have := h.2.2.2; omega)).symm.trans (h.2.2.1.block k hk))⟩, h.2.2.2⟩
theorem Sx.set2 {w W0 W : World} {cs : List (Nat × Nat × Value)} {c i j : Nat} {u v : Value} (h : Sx w W0 cs W) (hc : W0.heap.size ≤ c) : Sx w W0 cs ((W.setCell ⟨c, i, none⟩ u).setCell ⟨c, j, none⟩ v) :=
  ⟨fun p hp => ⟨(h.1 p hp).1, kset (kset (h.1 p hp).2 (by have := (h.1 p hp).1; omega)) (by have := (h.1 p hp).1; omega)⟩, by have := h.2.1; simpa [World.setCell] using this,
    (h.2.2.1.setCell (Nat.le_trans h.2.2.2 hc) _).setCell (Nat.le_trans h.2.2.2 hc) _, h.2.2.2⟩
theorem Sx.undrew {w W0 W : World} {cs : List (Nat × Nat × Value)} (h : Sx w W0 cs W.drew) : Sx w W0 cs W :=
  ⟨fun p hp => h.1 p hp, h.2.1, ⟨h.2.2.1.os, h.2.2.1.tape, h.2.2.1.output, h.2.2.1.size, h.2.2.1.block⟩, h.2.2.2⟩
theorem Sx.allocd {w W0 W : World} {cs : List (Nat × Nat × Value)} (h : Sx w W0 cs W.drew) (o : Obj) : Sx w W0 cs (W.alloc o).drew := (h.undrew.alloc o).drew
theorem all2 {w W0 W : World} {b0 i0 b1 i1 : Nat} {v0 v1 : Value} (h : Sx w W0 [(b0, i0, v0), (b1, i1, v1)] W) : W.cell? ⟨b0, i0, none⟩ = some v0 ∧ W.cell? ⟨b1, i1, none⟩ = some v1 ∧ W0.heap.size ≤ W.heap.size ∧ Sx w W0 [(b0, i0, v0), (b1, i1, v1)] W :=
  ⟨(h.1 (b0, i0, v0) (by simp)).2, (h.1 (b1, i1, v1) (by simp)).2, h.2.1, h⟩
theorem Sx.of2 {w W0 : World} {b0 i0 b1 i1 : Nat} {v0 v1 : Value} (h0 : W0.cell? ⟨b0, i0, none⟩ = some v0) (h1 : W0.cell? ⟨b1, i1, none⟩ = some v1) (hl : Below w.heap.size w W0) : Sx w W0 [(b0, i0, v0), (b1, i1, v1)] W0 := by
  refine ⟨?_, Nat.le_refl _, hl, hl.size⟩
  intro p hp
  simp only [List.mem_cons, List.not_mem_nil, or_false] at hp
  rcases hp with rfl | rfl
  · exact ⟨World.block_lt_of_cell? _ _ h0, h0⟩
  · exact ⟨World.block_lt_of_cell? _ _ h1, h1⟩
theorem all4 {w W0 W : World} {b0 i0 b1 i1 b2 i2 b3 i3 : Nat} {v0 v1 v2 v3 : Value} (h : Sx w W0 [(b0, i0, v0), (b1, i1, v1), (b2, i2, v2), (b3, i3, v3)] W) : W.cell? ⟨b0, i0, none⟩ = some v0 ∧ W.cell? ⟨b1, i1, none⟩ = some v1 ∧ W.cell? ⟨b2, i2, none⟩ = some v2 ∧ W.cell? ⟨b3, i3, none⟩ = some v3 ∧ W0.heap.size ≤ W.heap.size ∧ Sx w W0 [(b0, i0, v0), (b1, i1, v1), (b2, i2, v2), (b3, i3, v3)] W :=
  ⟨(h.1 (b0, i0, v0) (by simp)).2, (h.1 (b1, i1, v1) (by simp)).2, (h.1 (b2, i2, v2) (by simp)).2, (h.1 (b3, i3, v3) (by simp)).2, h.2.1, h⟩
theorem Sx.of4 {w W0 : World} {b0 i0 b1 i1 b2 i2 b3 i3 : Nat} {v0 v1 v2 v3 : Value} (h0 : W0.cell? ⟨b0, i0, none⟩ = some v0) (h1 : W0.cell? ⟨b1, i1, none⟩ = some v1) (h2 : W0.cell? ⟨b2, i2, none⟩ = some v2) (h3 : W0.cell? ⟨b3, i3, none⟩ = some v3) (hl : Below w.heap.size w W0) : Sx w W0 [(b0, i0, v0), (b1, i1, v1), (b2, i2, v2), (b3, i3, v3)] W0 := by
  refine ⟨?_, Nat.le_refl _, hl, hl.size⟩
  intro p hp
  simp only [List.mem_cons, List.not_mem_nil, or_false] at hp
  rcases hp with rfl | rfl | rfl | rfl
  · exact ⟨World.block_lt_of_cell? _ _ h0, h0⟩
  · exact ⟨World.block_lt_of_cell? _ _ h1, h1⟩
  · exact ⟨World.block_lt_of_cell? _ _ h2, h2⟩
  · exact ⟨World.block_lt_of_cell? _ _ h3, h3⟩
theorem all6 {w W0 W : World} {b0 i0 b1 i1 b2 i2 b3 i3 b4 i4 b5 i5 : Nat} {v0 v1 v2 v3 v4 v5 : Value} (h : Sx w W0 [(b0, i0, v0), (b1, i1, v1), (b2, i2, v2), (b3, i3, v3), (b4, i4, v4), (b5, i5, v5)] W) : W.cell? ⟨b0, i0, none⟩ = some v0 ∧ W.cell? ⟨b1, i1, none⟩ = some v1 ∧ W.cell? ⟨b2, i2, none⟩ = some v2 ∧ W.cell? ⟨b3, i3, none⟩ = some v3 ∧ W.cell? ⟨b4, i4, none⟩ = some v4 ∧ W.cell? ⟨b5, i5, none⟩ = some v5 ∧ W0.heap.size ≤ W.heap.size ∧ Sx w W0 [(b0, i0, v0), (b1, i1, v1), (b2, i2, v2), (b3, i3, v3), (b4, i4, v4), (b5, i5, v5)] W :=
  ⟨(h.1 (b0, i0, v0) (by simp)).2, (h.1 (b1, i1, v1) (by simp)).2, (h.1 (b2, i2, v2) (by simp)).2, (h.1 (b3, i3, v3) (by simp)).2, (h.1 (b4, i4, v4) (by simp)).2, (h.1 (b5, i5, v5) (by simp)).2, h.2.1, h⟩
theorem Sx.of6 {w W0 : World} {b0 i0 b1 i1 b2 i2 b3 i3 b4 i4 b5 i5 : Nat} {v0 v1 v2 v3 v4 v5 : Value} (h0 : W0.cell? ⟨b0, i0, none⟩ = some v0) (h1 : W0.cell? ⟨b1, i1, none⟩ = some v1) (h2 : W0.cell? ⟨b2, i2, none⟩ = some v2) (h3 : W0.cell? ⟨b3, i3, none⟩ = some v3) (h4 : W0.cell? ⟨b4, i4, none⟩ = some v4) (h5 : W0.cell? ⟨b5, i5, none⟩ = some v5) (hl : Below w.heap.size w W0) : Sx w W0 [(b0, i0, v0), (b1, i1, v1), (b2, i2, v2), (b3, i3, v3), (b4, i4, v4), (b5, i5, v5)] W0 := by
  refine ⟨?_, Nat.le_refl _, hl, hl.size⟩
  intro p hp
  simp only [List.mem_cons, List.not_mem_nil, or_false] at hp
  rcases hp with rfl | rfl | rfl | rfl | rfl | rfl
  · exact ⟨World.block_lt_of_cell? _ _ h0, h0⟩
  · exact ⟨World.block_lt_of_cell? _ _ h1, h1⟩
  · exact ⟨World.block_lt_of_cell? _ _ h2, h2⟩
  · exact ⟨World.block_lt_of_cell? _ _ h3, h3⟩
  · exact ⟨World.block_lt_of_cell? _ _ h4, h4⟩
  · exact ⟨World.block_lt_of_cell? _ _ h5, h5⟩
theorem all8 {w W0 W : World} {b0 i0 b1 i1 b2 i2 b3 i3 b4 i4 b5 i5 b6 i6 b7 i7 : Nat} {v0 v1 v2 v3 v4 v5 v6 v7 : Value} (h : Sx w W0 [(b0, i0, v0), (b1, i1, v1), (b2, i2, v2), (b3, i3, v3), (b4, i4, v4), (b5, i5, v5), (b6, i6, v6), (b7, i7, v7)] W) : W.cell? ⟨b0, i0, none⟩ = some v0 ∧ W.cell? ⟨b1, i1, none⟩ = some v1 ∧ W.cell? ⟨b2, i2, none⟩ = some v2 ∧ W.cell? ⟨b3, i3, none⟩ = some v3 ∧ W.cell? ⟨b4, i4, none⟩ = some v4 ∧ W.cell? ⟨b5, i5, none⟩ = some v5 ∧ W.cell? ⟨b6, i6, none⟩ = some v6 ∧ W.cell? ⟨b7, i7, none⟩ = some v7 ∧ W0.heap.size ≤ W.heap.size ∧ Sx w W0 [(b0, i0, v0), (b1, i1, v1), (b2, i2, v2), (b3, i3, v3), (b4, i4, v4), (b5, i5, v5), (b6, i6, v6), (b7, i7, v7)] W :=
  ⟨(h.1 (b0, i0, v0) (by simp)).2, (h.1 (b1, i1, v1) (by simp)).2, (h.1 (b2, i2, v2) (by simp)).2, (h.1 (b3, i3, v3) (by simp)).2, (h.1 (b4, i4, v4) (by simp)).2, (h.1 (b5, i5, v5) (by simp)).2, (h.1 (b6, i6, v6) (by simp)).2, (h.1 (b7, i7, v7) (by simp)).2, h.2.1, h⟩
theorem Sx.of8 {w W0 : World} {b0 i0 b1 i1 b2 i2 b3 i3 b4 i4 b5 i5 b6 i6 b7 i7 : Nat} {v0 v1 v2 v3 v4 v5 v6 v7 : Value} (h0 : W0.cell? ⟨b0, i0, none⟩ = some v0) (h1 : W0.cell? ⟨b1, i1, none⟩ = some v1) (h2 : W0.cell? ⟨b2, i2, none⟩ = some v2) (h3 : W0.cell? ⟨b3, i3, none⟩ = some v3) (h4 : W0.cell? ⟨b4, i4, none⟩ = some v4) (h5 : W0.cell? ⟨b5, i5, none⟩ = some v5) (h6 : W0.cell? ⟨b6, i6, none⟩ = some v6) (h7 : W0.cell? ⟨b7, i7, none⟩ = some v7) (hl : Below w.heap.size w W0) : Sx w W0 [(b0, i0, v0), (b1, i1, v1), (b2, i2, v2), (b3, i3, v3), (b4, i4, v4), (b5, i5, v5), (b6, i6, v6), (b7, i7, v7)] W0 := by
  refine ⟨?_, Nat.le_refl _, hl, hl.size⟩
  intro p hp
  simp only [List.mem_cons, List.not_mem_nil, or_false] at hp
  rcases hp with rfl | rfl | rfl | rfl | rfl | rfl | rfl | rfl
  · exact ⟨World.block_lt_of_cell? _ _ h0, h0⟩
  · exact ⟨World.block_lt_of_cell? _ _ h1, h1⟩
  · exact ⟨World.block_lt_of_cell? _ _ h2, h2⟩
  · exact ⟨World.block_lt_of_cell? _ _ h3, h3⟩
  · exact ⟨World.block_lt_of_cell? _ _ h4, h4⟩
  · exact ⟨World.block_lt_of_cell? _ _ h5, h5⟩
  · exact ⟨World.block_lt_of_cell? _ _ h6, h6⟩
  · exact ⟨World.block_lt_of_cell? _ _ h7, h7⟩

theorem new1 {w w' : World} {x y : Value} {T : TypeId} (hb : Below (w.alloc (.cells #[x, y] T)).heap.size (w.alloc (.cells #[x, y] T)) w') :
    w.heap.size < w'.heap.size ∧ w'.cell? ⟨w.heap.size, 0, none⟩ = some x ∧ w'.cell? ⟨w.heap.size, 1, none⟩ = some y ∧ Below w.heap.size w w' :=
  ⟨by have := hb.size; simp at this; omega, keep0 hb (cell_new0 _ _ _ _), keep0 hb (cell_new1 _ _ _ _), ((Below.refl _ _).alloc (Nat.le_refl _) _).trans (hb.mono (by simp))⟩
abbrev TB (w : World) : Prop := Lib.TabIs Tryd.prog w "internal/strconv.uint64pow10" .u64 Lib.pow10Tab
theorem tab_below {w w' : World} (h : TB w) (hb : Below w.heap.size w w') : TB w' := by
  have hgn : Tryd.prog.globalNamed "internal/strconv.uint64pow10" = some 3 := by kernel_rfl
  unfold TB Lib.TabIs World.var? at h ⊢
  rw [hgn] at h ⊢
  simp only [Option.bind_some] at h ⊢
  have hlt : 3 < w.heap.size := by
    rcases Nat.lt_or_ge 3 w.heap.size with h' | h'
    · exact h'
    · rw [Array.getElem?_eq_none h'] at h; cases h
  rw [hb.block 3 hlt]
  exact h
theorem Sx.tab {w W0 W : World} {cs : List (Nat × Nat × Value)} (h : Sx w W0 cs W) (ht : TB w) : TB W := tab_below ht h.2.2.1
theorem below_grow (w : World) (os : Array Obj) : Below w.heap.size w (grow w os) :=
  ⟨rfl, rfl, rfl, by simp [grow], fun k hk => by simp [grow, Array.getElem?_append, hk]⟩
theorem itoa_any (n : Int) (h : -1000000000000 ≤ n ∧ n ≤ 1000000000000) (w : World) (ht : TB w) : Calls Tryd.prog 27 #[.int .i64 n] w (Tx w (Lib.itoa n)) :=
  (Tryd.strconv_Itoa n (by omega) (by omega) w ht).mono fun e w' ⟨he, k, os, hw⟩ => ⟨he, by rw [hw]; exact (below_drewN (Below.refl _ _) k).trans (below_grow (w.drewN k) os)⟩

/-- What 'RatText' returns. -/
def rtX (n d : Int) : List UInt8 := if ratB n d = true then (if d = 1 then Lib.itoa n else Lib.itoa n ++ [47] ++ Lib.itoa d) else []
theorem ilen (n : Int) (h : -1000000000000 ≤ n ∧ n ≤ 1000000000000) : (Lib.itoa n).length ≤ 21 := Lib.itoa_length_le n (by omega) (by omega)

set_option maxHeartbeats 1000000 in
set_option maxRecDepth 100000 in
theorem impl_rt (n d : Int) (w : World) (ht : TB w) : Calls Tryd.prog 13 #[.agg #[.int .i64 n, .int .i64 d]] w (Tx w (rtX n d)) := by
  by_cases hv : ratB n d = true
  · obtain ⟨h1, h2, h3, h4, _⟩ := (ratB_iff n d).1 hv
    by_cases hd : d = 1
    · subst hd
      have HX : Hid (rtX n 1 = Lib.itoa n) := by show _ = _; unfold rtX; rw [if_pos hv, if_pos rfl]
      have HN := Lib.hid (itoa_any n (by omega))
      go_enter Tryd.func13, Tryd.ntmps13
      go_wp2_with fail
      refine (impl_valid _ _ _).mono ?_
      rintro e w1 ⟨rfl, hb1⟩
      obtain ⟨q0, q1, q2, q3⟩ := new1 hb1
      go_wp2_with fail
      refine (HN.out _ (tab_below ht q3)).mono ?_
      rintro e w2 ⟨rfl, hb2⟩
      go_wp2
      go_ret
      exact ⟨ret_str (by rw [HX.out]), q3.trans (hb2.mono q3.size)⟩
    · have HX : Hid (rtX n d = Lib.itoa n ++ [47] ++ Lib.itoa d) := by show _ = _; unfold rtX; rw [if_pos hv, if_neg hd]
      have HN : Hid (∀ x, -1000000000000 ≤ x ∧ x ≤ 1000000000000 → ∀ W, TB W → Calls Tryd.prog 27 #[.int .i64 x] W (Tx W (Lib.itoa x))) := fun x hx W => itoa_any x hx W
      have l1 := ilen n (by omega)
      have l2 := ilen d (by omega)
      have rn : -1000000000000 ≤ n ∧ n ≤ 1000000000000 := by omega
      have rd : -1000000000000 ≤ d ∧ d ≤ 1000000000000 := by omega
      obtain ⟨F, hF⟩ : ∃ F, Lib.itoa = F := ⟨_, rfl⟩
      rw [hF] at HX HN l1 l2
      clear hF
      have hs1 : ¬ ((⟨(F n).toArray⟩ : ByteArray).size + (⟨#[47]⟩ : ByteArray).size > 9223372036854775807) := by show ¬ ((F n).toArray.size + 1 > _); simp; omega
      have hs2 : ¬ ((⟨(F n ++ [47]).toArray⟩ : ByteArray).size + (⟨(F d).toArray⟩ : ByteArray).size > 9223372036854775807) := by show ¬ ((F n ++ [47]).toArray.size + (F d).toArray.size > _); simp; omega
      have hadd1 : ∀ W, (Op.stringOp .add ⟨(F n).toArray⟩ ⟨#[47]⟩).run Tryd.prog W = .ok (.string ⟨(F n ++ [47]).toArray⟩) W := fun W => run_string_add_lists W (F n) [47] (by omega) (by simp)
      have hadd2 : ∀ W, (Op.stringOp .add ⟨(F n ++ [47]).toArray⟩ ⟨(F d).toArray⟩).run Tryd.prog W = .ok (.string ⟨(F n ++ [47] ++ F d).toArray⟩) W := fun W => run_string_add_lists W (F n ++ [47]) (F d) (by simp; omega) (by omega)
      have hd' : (d == 1) = false := by simpa using hd
      go_enter Tryd.func13, Tryd.ntmps13
      go_wp2_with fail
      refine (impl_valid _ _ _).mono ?_
      rintro e w1 ⟨rfl, hb1⟩
      obtain ⟨q0, q1, q2, q3⟩ := new1 hb1
      have K0 : Sx w w1 [(w.heap.size, 0, .int .i64 n), (w.heap.size, 1, .int .i64 d)] w1 := Sx.of2 q1 q2 q3
      go_wp2_with fail
      go_region_held3 (fun w' => w'.cell? ⟨w.heap.size, 0, none⟩ = some (.int .i64 n) ∧ w'.cell? ⟨w.heap.size, 1, none⟩ = some (.int .i64 d) ∧ w1.heap.size ≤ w'.heap.size ∧ Sx w w1 [(w.heap.size, 0, .int .i64 n), (w.heap.size, 1, .int .i64 d)] w')
        (first
          | (with_reducible exact all2 K0.drew)
          | (go_split_ands
             (with_reducible refine all2 ?_)
             first
              | (with_reducible exact Sx.call (by assumption) hb)
              | (with_reducible assumption)
              | (with_reducible exact Sx.drew (by assumption))
              | (with_reducible exact Sx.swap (by assumption) hq)
              | (with_reducible exact Sx.alloc (by assumption) _)
              | (with_reducible exact Sx.allocd (by assumption) _)
              | ((with_reducible refine Sx.set2 ?_ ?_); (with_reducible assumption); omega)))
        (first | (go_at_call 27; refine (HN.out _ (by assumption) _ ?_).mono ?_; (first | exact tab_below ht q3.drew | exact tab_below (tab_below ht q3.drew) hb); rintro e wQ ⟨rfl, hb⟩; have hq := hb.size))
      rename_i hS
      have hS' := hS.2.2.2.2.2.1
      go_wp2
      go_ret
      exact ⟨ret_str (by rw [HX.out]; simp), hS'⟩
  · have HX : Hid (rtX n d = []) := if_neg hv
    have hv' : ratB n d = false := by simpa using hv
    go_enter Tryd.func13, Tryd.ntmps13
    go_wp2_with fail
    refine (impl_valid _ _ _).mono ?_
    rintro e w1 ⟨rfl, hb1⟩
    obtain ⟨q0, q1, q2, q3⟩ := new1 hb1
    go_wp2
    go_ret
    exact ⟨ret_str (by rw [HX.out]), q3⟩

set_option maxHeartbeats 1000000 in
set_option maxRecDepth 100000 in
theorem spec_rt (n d : Int) (w : World) : Calls Tryd.prog 14 #[.agg #[.int .i64 n, .int .i64 d]] w (Tx w (rtX n d)) := by
  by_cases hv : ratB n d = true
  · obtain ⟨h1, h2, h3, h4, _⟩ := (ratB_iff n d).1 hv
    by_cases hd : d = 1
    · subst hd
      have HX : Hid (rtX n 1 = Lib.itoa n) := by show _ = _; unfold rtX; rw [if_pos hv, if_pos rfl]
      have HN := Lib.hid (spec_dec n (by omega))
      go_enter Tryd.func14, Tryd.ntmps14
      go_wp2_with fail
      refine (spec_valid _ _ _).mono ?_
      rintro e w1 ⟨rfl, hb1⟩
      obtain ⟨q0, q1, q2, q3⟩ := new1 hb1
      go_wp2_with fail
      refine (HN.out _).mono ?_
      rintro e w2 ⟨rfl, hb2⟩
      go_wp2
      go_ret
      exact ⟨ret_str (by rw [HX.out]), q3.trans (hb2.mono q3.size)⟩
    · have HX : Hid (rtX n d = Lib.itoa n ++ [47] ++ Lib.itoa d) := by show _ = _; unfold rtX; rw [if_pos hv, if_neg hd]
      have HN : Hid (∀ x, -1000000000000 ≤ x ∧ x ≤ 1000000000000 → ∀ W, Calls Tryd.prog 29 #[.int .i64 x] W (Tx W (Lib.itoa x))) := fun x hx W => spec_dec x hx W
      have l1 := ilen n (by omega)
      have l2 := ilen d (by omega)
      have rn : -1000000000000 ≤ n ∧ n ≤ 1000000000000 := by omega
      have rd : -1000000000000 ≤ d ∧ d ≤ 1000000000000 := by omega
      obtain ⟨F, hF⟩ : ∃ F, Lib.itoa = F := ⟨_, rfl⟩
      rw [hF] at HX HN l1 l2
      clear hF
      have hs1 : ¬ ((⟨(F n).toArray⟩ : ByteArray).size + (⟨#[47]⟩ : ByteArray).size > 9223372036854775807) := by show ¬ ((F n).toArray.size + 1 > _); simp; omega
      have hs2 : ¬ ((⟨(F n ++ [47]).toArray⟩ : ByteArray).size + (⟨(F d).toArray⟩ : ByteArray).size > 9223372036854775807) := by show ¬ ((F n ++ [47]).toArray.size + (F d).toArray.size > _); simp; omega
      have hadd1 : ∀ W, (Op.stringOp .add ⟨(F n).toArray⟩ ⟨#[47]⟩).run Tryd.prog W = .ok (.string ⟨(F n ++ [47]).toArray⟩) W := fun W => run_string_add_lists W (F n) [47] (by omega) (by simp)
      have hadd2 : ∀ W, (Op.stringOp .add ⟨(F n ++ [47]).toArray⟩ ⟨(F d).toArray⟩).run Tryd.prog W = .ok (.string ⟨(F n ++ [47] ++ F d).toArray⟩) W := fun W => run_string_add_lists W (F n ++ [47]) (F d) (by simp; omega) (by omega)
      have hd' : (d == 1) = false := by simpa using hd
      go_enter Tryd.func14, Tryd.ntmps14
      go_wp2_with fail
      refine (spec_valid _ _ _).mono ?_
      rintro e w1 ⟨rfl, hb1⟩
      obtain ⟨q0, q1, q2, q3⟩ := new1 hb1
      have K0 : Sx w w1 [(w.heap.size, 0, .int .i64 n), (w.heap.size, 1, .int .i64 d)] w1 := Sx.of2 q1 q2 q3
      go_wp2_with fail
      go_region_held3 (fun w' => w'.cell? ⟨w.heap.size, 0, none⟩ = some (.int .i64 n) ∧ w'.cell? ⟨w.heap.size, 1, none⟩ = some (.int .i64 d) ∧ w1.heap.size ≤ w'.heap.size ∧ Sx w w1 [(w.heap.size, 0, .int .i64 n), (w.heap.size, 1, .int .i64 d)] w')
        (first
          | (with_reducible exact all2 K0.drew)
          | (go_split_ands
             (with_reducible refine all2 ?_)
             first
              | (with_reducible exact Sx.call (by assumption) hb)
              | (with_reducible assumption)
              | (with_reducible exact Sx.drew (by assumption))
              | (with_reducible exact Sx.swap (by assumption) hq)
              | (with_reducible exact Sx.alloc (by assumption) _)
              | (with_reducible exact Sx.allocd (by assumption) _)
              | ((with_reducible refine Sx.set2 ?_ ?_); (with_reducible assumption); omega)))
        (first | (go_at_call 29; refine (HN.out _ (by assumption) _).mono ?_; rintro e wQ ⟨rfl, hb⟩; have hq := hb.size))
      rename_i hS
      have hS' := hS.2.2.2.2.2.1
      go_wp2
      go_ret
      exact ⟨ret_str (by rw [HX.out]; simp), hS'⟩
  · have HX : Hid (rtX n d = []) := if_neg hv
    have hv' : ratB n d = false := by simpa using hv
    go_enter Tryd.func14, Tryd.ntmps14
    go_wp2_with fail
    refine (spec_valid _ _ _).mono ?_
    rintro e w1 ⟨rfl, hb1⟩
    obtain ⟨q0, q1, q2, q3⟩ := new1 hb1
    go_wp2
    go_ret
    exact ⟨ret_str (by rw [HX.out]), q3⟩

/-- A law's walk ends so. -/
def Holds (w : World) (e : Ending) (w' : World) : Prop := e = .returned (.bool true) ∧ Below w.heap.size w w'
theorem to_rat (n d : Int) (w : World) : Calls Tryd.prog 20 #[.agg #[.int .i64 n, .int .i64 d]] w fun e w' => e = .returned (.agg #[.int .i64 n, .int .i64 d]) ∧ Below w.heap.size w w' := by
  go_enter Tryd.func20, Tryd.ntmps20
  go_wp2
  exact bodyPost_ret (v := .agg #[.int .i64 n, .int .i64 d]) (by simp [results, Tryd.results20, go_sem]) rfl ⟨rfl, (((Below.refl _ _).alloc (Nat.le_refl _) _).alloc (by simp) _).alloc (by simp; omega) _⟩
theorem tb_of_laid {w : World} {l : List (String × DataW Unit)} (hL : laidMetH Tryd.prog l w)
    (e : (l.filter fun x => x.1 == "internal/strconv.uint64pow10") = [("internal/strconv.uint64pow10", Lib.tabData .u64 Lib.pow10Tab)]) : TB w := by
  have h1 := hL.filter fun x => x.1 == "internal/strconv.uint64pow10"
  rw [e, MakeChecks.laidMetH_plain _ _ _ (by kernel_rfl)] at h1
  exact Lib.tabIs_of_head (g := 3) (t := 94) (e := 73) (n := 20) (by kernel_rfl) (by kernel_rfl) (by kernel_rfl) (by kernel_rfl) (by kernel_rfl) (by kernel_rfl) h1

set_option maxHeartbeats 1000000 in
theorem walk_FnExactRatText (n d : Int) (w : World) (_h0 : (Lit.int .i64 n).wf = true) (_h1 : (Lit.int .i64 d).wf = true) (hL : laidMetH Tryd.prog Rows.fnExactRatTextRow.laid w) :
    Calls Tryd.prog 8 #[.agg #[.int .i64 n, .int .i64 d]] w (Holds w) := by
  have ht : TB w := tb_of_laid hL (by rfl)
  clear hL _h0 _h1
  have HS := Lib.hid (spec_rt n d)
  have HI := Lib.hid (impl_rt n d)
  have HT := Lib.hid (to_rat n d)
  obtain ⟨l, hl⟩ : ∃ l, rtX n d = l := ⟨_, rfl⟩
  rw [hl] at HS HI
  clear hl
  go_enter Tryd.func8, Tryd.ntmps8
  go_wp2_with fail
  refine (HT.out _).mono ?_
  rintro e w1 ⟨rfl, hb1⟩
  obtain ⟨q0, q1, q2, q3⟩ := new1 hb1
  go_wp2_with fail
  refine (HS.out _).mono ?_
  rintro e w2 ⟨rfl, hb2⟩
  have r1 := keep0 hb2 q1
  have r2 := keep0 hb2 q2
  have r3 := q3.trans (hb2.mono q3.size)
  clear hb1 q1 q2 q3 hb2
  go_wp2_with fail
  refine (HT.out _).mono ?_
  rintro e w3 ⟨rfl, hb3⟩
  have r4 := r3.trans (hb3.mono r3.size)
  clear hb3
  go_wp2_with fail
  refine (HI.out _ (tab_below ht r4)).mono ?_
  rintro e w4 ⟨rfl, hb4⟩
  have r5 := r4.trans (hb4.mono r4.size)
  go_wp2
  go_ret
  exact ⟨rfl, r5⟩

end Go.Proofs.YtkmakknjackdiaaDoor
