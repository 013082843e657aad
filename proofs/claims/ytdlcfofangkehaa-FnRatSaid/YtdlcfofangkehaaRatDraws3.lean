/-
  The draws of two integers and of one rational.
-/
import Derived.Test.YtdlcfofangkehaaRatDraws2
namespace Go.Proofs.Ytdlcfofangkehaa
open Go.RowKit
set_option linter.unusedSimpArgs false
set_option linter.unusedVariables false

/-- Two numbers come back; what was there is as it was. -/
def Nums (w : World) (e : Ending) (w' : World) : Prop := ∃ a b : Int, e = .returned (.tuple #[.int .i64 a, .int .i64 b]) ∧ Below w.heap.size w w'
/-- A rational within bounds comes back. -/
def OneR (w : World) (e : Ending) (w' : World) : Prop :=
  ∃ a b : Int, (-2000000000 ≤ a ∧ a ≤ 2000000000) ∧ (-2000000000 ≤ b ∧ b ≤ 2000000000) ∧ e = .returned (.agg #[.int .i64 a, .int .i64 b]) ∧ Below w.heap.size w w'

theorem lit4 (x : Int) (h : 0 ≤ x ∧ x < 4) (a b c d : Int) : ∃ y : Int, (#[Value.int .i64 a, Value.int .i64 b, Value.int .i64 c, Value.int .i64 d] : Array Value)[x.toNat]? = some (.int .i64 y) := by
  rcases (by omega : x = 0 ∨ x = 1 ∨ x = 2 ∨ x = 3) with rfl | rfl | rfl | rfl
  · exact ⟨a, rfl⟩
  · exact ⟨b, rfl⟩
  · exact ⟨c, rfl⟩
  · exact ⟨d, rfl⟩

set_option maxHeartbeats 1000000 in
theorem d_DrawRatOf (n0 n1 : Nat) (A : Option Addr) (w : World) (h : Code w.heap.size w A n0 n1) : Calls Try.prog 30 #[.slice A n0 n1] w (Nums w) := by
  have HC := open_w w.heap.size n0 n1 A w h (Nat.le_refl _)
  have HO := Lib.hid HC
  clear h HC
  go_enter Try.func30, Try.ntmps30
  go_wp2_with fail
  refine HO.out.mono ?_
  rintro e w1 ⟨g, rfl, hR1, hb1, hg1⟩
  clear HO
  go_wp2_with fail
  refine (small_any _ g _ _ hR1 (by omega) (by omega)).mono ?_
  rintro e w2 ⟨a, rfl, a0, a1, hR2, hg2⟩
  go_wp2_with fail
  refine (small_any _ g _ _ hR2 (by omega) (by omega)).mono ?_
  rintro e w3 ⟨b, rfl, b0, b1, hR3, hg3⟩
  go_wp2_with fail
  refine (pk_any _ g _ _ _ hR3 (by omega) (by omega) (by omega) (by omega)).mono ?_
  rintro e w4 ⟨s, rfl, s0, s1, hR4, hg4⟩
  have hbl : Below w.heap.size w w4 := hb1.trans (gfrom (gtrans (gtrans hg2 hg3) hg4) hg1 hb1.size)
  clear hg2 hg3 hg4 hR1 hR2 hR3 hb1
  go_wp2_with fail
  · refine (pk_any _ g _ _ _ (hR4.alloc _) (by omega) (by omega) (by omega) (by omega)).mono ?_
    rintro e w5 ⟨v, rfl, v0, v1, hR5, hg5⟩
    obtain ⟨y, hy⟩ := lit4 v ⟨v0, v1⟩ 4000000000000000000 (-4000000000000000000) 4000000000000000001 (-9223372036854775808)
    have q5 := lit_cell hg5 hR4.hg hy
    have hbl5 := (hbl.alloc hbl.size _).trans (gfrom hg5 hg1 (by have := hbl.size; simp; omega))
    clear hy hg5
    go_wp2
    go_ret2
    exact ⟨_, _, rfl, hbl5⟩
  · refine (pk_any _ g _ _ _ (hR4.alloc _) (by omega) (by omega) (by omega) (by omega)).mono ?_
    rintro e w5 ⟨v, rfl, v0, v1, hR5, hg5⟩
    obtain ⟨y, hy⟩ := lit4 v ⟨v0, v1⟩ 4000000000000000000 (-4000000000000000000) 4000000000000000001 4000000000
    have q5 := lit_cell hg5 hR4.hg hy
    have hbl5 := (hbl.alloc hbl.size _).trans (gfrom hg5 hg1 (by have := hbl.size; simp; omega))
    clear hy hg5
    go_wp2
    go_ret2
    exact ⟨_, _, rfl, hbl5⟩
  all_goals
    go_ret2
    exact ⟨_, _, rfl, hbl⟩
set_option maxHeartbeats 1000000 in
theorem d_DrawRatValid (n0 n1 : Nat) (A : Option Addr) (w : World) (h : Code w.heap.size w A n0 n1) : Calls Try.prog 34 #[.slice A n0 n1] w (OneR w) := by
  have hk : Code w.heap.size (w.alloc (.cells #[.int .i64 0, .int .i64 0] 24)) A n0 n1 := by
    obtain ⟨h1, h2, h3⟩ := h
    refine ⟨h1, h2, fun hl => ?_⟩
    obtain ⟨b, off, rfl, hb, hv⟩ := h3 hl
    refine ⟨b, off, rfl, hb, fun i hi => ?_⟩
    obtain ⟨v, v0, v1, hv⟩ := hv i hi
    exact ⟨v, v0, v1, (World.cell?_alloc_lt _ _ _ hb).trans hv⟩
  have HC := open_w w.heap.size n0 n1 A _ hk (by simp)
  have HO := Lib.hid HC
  clear h hk HC
  go_enter Try.func34, Try.ntmps34
  go_wp2_with fail
  refine HO.out.mono ?_
  rintro e w1 ⟨g, rfl, hR1, hb1, hg1⟩
  have hg1' : w.heap.size < g := by simp at hg1; omega
  have c0 : w1.cell? ⟨w.heap.size, 0, none⟩ = some (.int .i64 0) := by rw [hb1.cell (p := ⟨w.heap.size, 0, none⟩) (by show w.heap.size < _; simp)]; go_simp
  have c1 : w1.cell? ⟨w.heap.size, 1, none⟩ = some (.int .i64 0) := by rw [hb1.cell (p := ⟨w.heap.size, 1, none⟩) (by show w.heap.size < _; simp)]; go_simp
  have f0 : ∀ o, w1.frozen? ⟨w.heap.size, o, none⟩ = false := fun o => by rw [hb1.frozen (p := ⟨w.heap.size, o, none⟩) (by show w.heap.size < _; simp)]; go_simp
  have hl1 : Below w.heap.size w w1 := ((Below.refl _ _).alloc (Nat.le_refl _) _).trans (hb1.mono (by simp))
  have hs1 : w.heap.size < w1.heap.size := by have := hb1.size; simp at this; omega
  clear HO hb1
  go_wp2_with fail
  refine (pk_any _ g _ _ _ hR1 (by omega) (by omega) (by omega) (by omega)).mono ?_
  rintro e w2 ⟨s, rfl, s0, s1, hR2, hg2⟩
  go_wp2_with fail
  · refine (small_any _ g _ _ hR2 (by omega) (by omega)).mono ?_
    rintro e w3 ⟨a, rfl, a0, a1, hR3, hg3⟩
    go_wp2_with fail
    refine (pk_any _ g _ _ _ hR3 (by omega) (by omega) (by omega) (by omega)).mono ?_
    rintro e w4 ⟨b, rfl, b0, b1, hR4, hg4⟩
    have hg := gtrans (gtrans hg2 hg3) hg4
    have e0 := ((gcell hg).1 w.heap.size 0 (by omega) (by omega)).trans c0
    have e1 := ((gcell hg).1 w.heap.size 1 (by omega) (by omega)).trans c1
    have f0' : ∀ o, w4.frozen? ⟨w.heap.size, o, none⟩ = false := fun o => ((gcell hg).2 w.heap.size o (by omega) (by omega)).trans (f0 o)
    have hl2 : Below w.heap.size w w4 := hl1.trans (gfrom hg (by omega) hl1.size)
    clear c0 c1 f0 hg hg2 hg3 hg4
    go_wp2
    refine bodyPost_ret (v := .agg #[.int .i64 a, .int .i64 (b - 1)]) ?_ rfl ⟨a, b - 1, by omega, by omega, rfl, ?_⟩
    · simp [results, Try.results34, go_sem, two0 _ e0, two1 _ _ e1]
    · exact (hl2.setCell (Nat.le_refl _) _).setCell (Nat.le_refl _) _
  · refine (wrong_any _ g _ _ hR2 (by omega) (by omega)).mono ?_
    rintro e w4 ⟨a, b, q, rfl, a0, a1, b0, b1, q0, q1, hR4, hg4⟩
    have hg := gtrans hg2 hg4
    have e0 := ((gcell hg).1 w.heap.size 0 (by omega) (by omega)).trans c0
    have e1 := ((gcell hg).1 w.heap.size 1 (by omega) (by omega)).trans c1
    have f0' : ∀ o, w4.frozen? ⟨w.heap.size, o, none⟩ = false := fun o => ((gcell hg).2 w.heap.size o (by omega) (by omega)).trans (f0 o)
    have hl2 : Below w.heap.size w w4 := hl1.trans (gfrom hg (by omega) hl1.size)
    clear c0 c1 f0 hg hg2 hg4
    go_wp2
    refine bodyPost_ret (v := .agg #[.int .i64 a, .int .i64 b]) ?_ rfl ⟨a, b, ⟨a0, a1⟩, ⟨b0, b1⟩, rfl, ?_⟩
    · simp [results, Try.results34, go_sem, two0 _ e0, two1 _ _ e1]
    · exact (hl2.setCell (Nat.le_refl _) _).setCell (Nat.le_refl _) _
end Go.Proofs.Ytdlcfofangkehaa
