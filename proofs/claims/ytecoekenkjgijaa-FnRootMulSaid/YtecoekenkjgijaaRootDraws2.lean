/-
  The draws of one root, of two roots, of the numbers of a root.
-/
import Derived.Test.YtecoekenkjgijaaRootDraws
import Derived.Deep.RegionWith
namespace Go.Proofs.Ytecoekenkjgijaa
open Go.RowKit
set_option linter.unusedSimpArgs false
set_option linter.unusedVariables false

def BdO (s n d : Int) : Prop := (-2 ≤ s ∧ s ≤ 2) ∧ (-2000000000 ≤ n ∧ n ≤ 2000000000) ∧ (-2000000000 ≤ d ∧ d ≤ 2000000000)
def OneO (w : World) (e : Ending) (w' : World) : Prop := ∃ s n d : Int, BdO s n d ∧ e = .returned (.agg #[.int .i64 s, .int .i64 n, .int .i64 d]) ∧ Below w.heap.size w w'
def TwoO (w : World) (e : Ending) (w' : World) : Prop := ∃ s n d s' n' d' : Int, BdO s n d ∧ BdO s' n' d' ∧ e = .returned (.tuple #[.agg #[.int .i64 s, .int .i64 n, .int .i64 d], .agg #[.int .i64 s', .int .i64 n', .int .i64 d']]) ∧ Below w.heap.size w w'
def Nums3 (w : World) (e : Ending) (w' : World) : Prop := ∃ a b c : Int, e = .returned (.tuple #[.int .i64 a, .int .i64 b, .int .i64 c]) ∧ Below w.heap.size w w'

theorem d_DrawRootValid (n0 n1 : Nat) (A : Option Addr) (w : World) (h : Code w.heap.size w A n0 n1) : Calls Try.prog 22 #[.slice A n0 n1] w (OneO w) := by
  have hk : Code w.heap.size (w.alloc (.cells #[.int .i64 0, .int .i64 0, .int .i64 0] 29)) A n0 n1 := by
    obtain ⟨h1, h2, h3⟩ := h
    refine ⟨h1, h2, fun hl => ?_⟩
    obtain ⟨b, off, rfl, hb, hv⟩ := h3 hl
    refine ⟨b, off, rfl, hb, fun i hi => ?_⟩
    obtain ⟨v, v0, v1, hv⟩ := hv i hi
    exact ⟨v, v0, v1, (World.cell?_alloc_lt _ _ _ hb).trans hv⟩
  have HC := open_w w.heap.size n0 n1 A _ hk (by simp)
  have HO := Lib.hid HC
  clear h hk HC
  go_enter Try.func22, Try.ntmps22
  go_wp2_with fail
  refine HO.out.mono ?_
  rintro e w1 ⟨g, rfl, hR1, hb1, hg1⟩
  have hg1' : w.heap.size < g := by simp at hg1; omega
  have c0 : w1.cell? ⟨w.heap.size, 0, none⟩ = some (.int .i64 0) := by rw [hb1.cell (p := ⟨w.heap.size, 0, none⟩) (by show w.heap.size < _; simp)]; go_simp
  have c1 : w1.cell? ⟨w.heap.size, 1, none⟩ = some (.int .i64 0) := by rw [hb1.cell (p := ⟨w.heap.size, 1, none⟩) (by show w.heap.size < _; simp)]; go_simp
  have c2 : w1.cell? ⟨w.heap.size, 2, none⟩ = some (.int .i64 0) := by rw [hb1.cell (p := ⟨w.heap.size, 2, none⟩) (by show w.heap.size < _; simp)]; go_simp
  have f0 : ∀ o, w1.frozen? ⟨w.heap.size, o, none⟩ = false := fun o => by rw [hb1.frozen (p := ⟨w.heap.size, o, none⟩) (by show w.heap.size < _; simp)]; go_simp
  have hl1 : Below w.heap.size w w1 := ((Below.refl _ _).alloc (Nat.le_refl _) _).trans (hb1.mono (by simp))
  have hs1 : w.heap.size < w1.heap.size := by have := hb1.size; simp at this; omega
  clear HO hb1
  go_wp2_with fail
  refine (root_any _ g _ _ hR1 (by omega) (by omega)).mono ?_
  rintro e w2 ⟨s, n, d, q, rfl, hs, hn, hd, q0, q1, hR2, hg2⟩
  have e0 := ((gcell hg2).1 w.heap.size 0 (by omega) (by omega)).trans c0
  have e1 := ((gcell hg2).1 w.heap.size 1 (by omega) (by omega)).trans c1
  have e2 := ((gcell hg2).1 w.heap.size 2 (by omega) (by omega)).trans c2
  have f0' : ∀ o, w2.frozen? ⟨w.heap.size, o, none⟩ = false := fun o => ((gcell hg2).2 w.heap.size o (by omega) (by omega)).trans (f0 o)
  have hl2 : Below w.heap.size w w2 := hl1.trans (gfrom hg2 (by omega) hl1.size)
  clear c0 c1 c2 f0 hg2
  go_wp2
  refine bodyPost_ret (v := .agg #[.int .i64 s, .int .i64 n, .int .i64 d]) ?_ rfl ⟨s, n, d, ⟨hs, hn, hd⟩, rfl, bset3 hl2 (Nat.le_refl _)⟩
  simp [results, Try.results22, go_sem, two0 _ e0, three1 _ _ e1, three2 _ _ _ e2]

theorem d_DrawRootNeg (n0 n1 : Nat) (A : Option Addr) (w : World) (h : Code w.heap.size w A n0 n1) : Calls Try.prog 24 #[.slice A n0 n1] w (OneO w) := by
  have hk : Code w.heap.size (w.alloc (.cells #[.int .i64 0, .int .i64 0, .int .i64 0] 29)) A n0 n1 := by
    obtain ⟨h1, h2, h3⟩ := h
    refine ⟨h1, h2, fun hl => ?_⟩
    obtain ⟨b, off, rfl, hb, hv⟩ := h3 hl
    refine ⟨b, off, rfl, hb, fun i hi => ?_⟩
    obtain ⟨v, v0, v1, hv⟩ := hv i hi
    exact ⟨v, v0, v1, (World.cell?_alloc_lt _ _ _ hb).trans hv⟩
  have HC := open_w w.heap.size n0 n1 A _ hk (by simp)
  have HO := Lib.hid HC
  clear h hk HC
  go_enter Try.func24, Try.ntmps24
  go_wp2_with fail
  refine HO.out.mono ?_
  rintro e w1 ⟨g, rfl, hR1, hb1, hg1⟩
  have hg1' : w.heap.size < g := by simp at hg1; omega
  have c0 : w1.cell? ⟨w.heap.size, 0, none⟩ = some (.int .i64 0) := by rw [hb1.cell (p := ⟨w.heap.size, 0, none⟩) (by show w.heap.size < _; simp)]; go_simp
  have c1 : w1.cell? ⟨w.heap.size, 1, none⟩ = some (.int .i64 0) := by rw [hb1.cell (p := ⟨w.heap.size, 1, none⟩) (by show w.heap.size < _; simp)]; go_simp
  have c2 : w1.cell? ⟨w.heap.size, 2, none⟩ = some (.int .i64 0) := by rw [hb1.cell (p := ⟨w.heap.size, 2, none⟩) (by show w.heap.size < _; simp)]; go_simp
  have f0 : ∀ o, w1.frozen? ⟨w.heap.size, o, none⟩ = false := fun o => by rw [hb1.frozen (p := ⟨w.heap.size, o, none⟩) (by show w.heap.size < _; simp)]; go_simp
  have hl1 : Below w.heap.size w w1 := ((Below.refl _ _).alloc (Nat.le_refl _) _).trans (hb1.mono (by simp))
  have hs1 : w.heap.size < w1.heap.size := by have := hb1.size; simp at this; omega
  clear HO hb1
  go_wp2_with fail
  refine (root_any _ g _ _ hR1 (by omega) (by omega)).mono ?_
  rintro e w2 ⟨s, n, d, q, rfl, hs, hn, hd, q0, q1, hR2, hg2⟩
  have e0 := ((gcell hg2).1 w.heap.size 0 (by omega) (by omega)).trans c0
  have e1 := ((gcell hg2).1 w.heap.size 1 (by omega) (by omega)).trans c1
  have e2 := ((gcell hg2).1 w.heap.size 2 (by omega) (by omega)).trans c2
  have f0' : ∀ o, w2.frozen? ⟨w.heap.size, o, none⟩ = false := fun o => ((gcell hg2).2 w.heap.size o (by omega) (by omega)).trans (f0 o)
  have hl2 : Below w.heap.size w w2 := hl1.trans (gfrom hg2 (by omega) hl1.size)
  clear c0 c1 c2 f0 hg2
  go_wp2
  refine bodyPost_ret (v := .agg #[.int .i64 s, .int .i64 n, .int .i64 d]) ?_ rfl ⟨s, n, d, ⟨hs, hn, hd⟩, rfl, bset3 hl2 (Nat.le_refl _)⟩
  simp [results, Try.results24, go_sem, two0 _ e0, three1 _ _ e1, three2 _ _ _ e2]

theorem lit4 (x : Int) (h : 0 ≤ x ∧ x < 4) (a b c d : Int) : ∃ y : Int, (#[Value.int .i64 a, Value.int .i64 b, Value.int .i64 c, Value.int .i64 d] : Array Value)[x.toNat]? = some (.int .i64 y) := by
  rcases (by omega : x = 0 ∨ x = 1 ∨ x = 2 ∨ x = 3) with rfl | rfl | rfl | rfl
  · exact ⟨a, rfl⟩
  · exact ⟨b, rfl⟩
  · exact ⟨c, rfl⟩
  · exact ⟨d, rfl⟩
theorem lit3 (x : Int) (h : 0 ≤ x ∧ x < 3) (a b c : Int) : ∃ y : Int, (#[Value.int .i64 a, Value.int .i64 b, Value.int .i64 c] : Array Value)[x.toNat]? = some (.int .i64 y) := by
  rcases (by omega : x = 0 ∨ x = 1 ∨ x = 2) with rfl | rfl | rfl
  · exact ⟨a, rfl⟩
  · exact ⟨b, rfl⟩
  · exact ⟨c, rfl⟩

set_option maxHeartbeats 1000000 in
theorem d_DrawRootOf (n0 n1 : Nat) (A : Option Addr) (w : World) (h : Code w.heap.size w A n0 n1) : Calls Try.prog 25 #[.slice A n0 n1] w (Nums3 w) := by
  have HC := open_w w.heap.size n0 n1 A w h (Nat.le_refl _)
  have HO := Lib.hid HC
  clear h HC
  go_enter Try.func25, Try.ntmps25
  go_wp2_with fail
  refine HO.out.mono ?_
  rintro e w1 ⟨g, rfl, hR1, hb1, hg1⟩
  clear HO
  go_wp2_with fail
  refine (pk_any _ g _ _ _ hR1 (by omega) (by omega) (by omega) (by omega)).mono ?_
  rintro e w2 ⟨a2, rfl, x2, y2, hR2, hg2⟩
  go_wp2_with fail
  refine (pk_any _ g _ _ _ hR2 (by omega) (by omega) (by omega) (by omega)).mono ?_
  rintro e w3 ⟨a3, rfl, x3, y3, hR3, hg3⟩
  go_wp2_with fail
  refine (pk_any _ g _ _ _ hR3 (by omega) (by omega) (by omega) (by omega)).mono ?_
  rintro e w4 ⟨a4, rfl, x4, y4, hR4, hg4⟩
  go_wp2_with fail
  refine (pk_any _ g _ _ _ hR4 (by omega) (by omega) (by omega) (by omega)).mono ?_
  rintro e w5 ⟨a5, rfl, x5, y5, hR5, hg5⟩
  have hbl : Below w.heap.size w w5 := hb1.trans (gfrom (gtrans (gtrans (gtrans hg2 hg3) hg4) hg5) hg1 hb1.size)
  clear hg2 hg3 hg4 hg5 hR1 hR2 hR3 hR4 hb1
  go_wp2_with fail
  · refine (pk_any _ g _ _ _ (hR5.alloc _) (by omega) (by omega) (by omega) (by omega)).mono ?_
    rintro e w6 ⟨v, rfl, v0, v1, hR6, hg6⟩
    obtain ⟨y, hy⟩ := lit3 v ⟨v0, v1⟩ 1000000001 1000000000 (-1000000000)
    have q6 := lit_cell hg6 hR5.hg hy
    have hbl6 := (hbl.alloc hbl.size _).trans (gfrom hg6 hg1 (by have := hbl.size; simp; omega))
    clear hy hg6
    go_wp2
    go_ret3
    exact ⟨_, _, _, rfl, hbl6⟩
  · refine (pk_any _ g _ _ _ (hR5.alloc _) (by omega) (by omega) (by omega) (by omega)).mono ?_
    rintro e w6 ⟨v, rfl, v0, v1, hR6, hg6⟩
    obtain ⟨y, hy⟩ := lit3 v ⟨v0, v1⟩ 0 (-1) 4000000000000000000
    have q6 := lit_cell hg6 hR5.hg hy
    have hbl6 := (hbl.alloc hbl.size _).trans (gfrom hg6 hg1 (by have := hbl.size; simp; omega))
    clear hy hg6
    go_wp2
    go_ret3
    exact ⟨_, _, _, rfl, hbl6⟩
  · refine (pk_any _ g _ _ _ (hR5.alloc _) (by omega) (by omega) (by omega) (by omega)).mono ?_
    rintro e w6 ⟨v, rfl, v0, v1, hR6, hg6⟩
    obtain ⟨y, hy⟩ := lit4 v ⟨v0, v1⟩ 0 (-1) 4000000000000000000 2000000011
    have q6 := lit_cell hg6 hR5.hg hy
    have hbl6 := (hbl.alloc hbl.size _).trans (gfrom hg6 hg1 (by have := hbl.size; simp; omega))
    clear hy hg6
    go_wp2
    go_ret3
    exact ⟨_, _, _, rfl, hbl6⟩
  all_goals
    go_ret3
    exact ⟨_, _, _, rfl, hbl⟩

set_option maxHeartbeats 2000000 in
theorem d_DrawRootMul (n0 n1 : Nat) (A : Option Addr) (w : World) (h : Code w.heap.size w A n0 n1) : Calls Try.prog 27 #[.slice A n0 n1] w (TwoO w) := by
  have hk : Code w.heap.size ((w.alloc (.cells #[.int .i64 0, .int .i64 0, .int .i64 0] 29)).alloc (.cells #[.int .i64 0, .int .i64 0, .int .i64 0] 29)) A n0 n1 := by
    obtain ⟨h1, h2, h3⟩ := h
    refine ⟨h1, h2, fun hl => ?_⟩
    obtain ⟨b, off, rfl, hb, hv⟩ := h3 hl
    refine ⟨b, off, rfl, hb, fun i hi => ?_⟩
    obtain ⟨v, v0, v1, hv⟩ := hv i hi
    exact ⟨v, v0, v1, (World.cell?_alloc_lt _ _ _ (by show b < _; simp; omega)).trans ((World.cell?_alloc_lt _ _ _ hb).trans hv)⟩
  have HC := open_w w.heap.size n0 n1 A _ hk (by simp; omega)
  have HO := Lib.hid HC
  clear h hk HC
  go_enter Try.func27, Try.ntmps27
  go_wp2_with fail
  refine HO.out.mono ?_
  rintro e w1 ⟨g, rfl, hR1, hb1, hg1⟩
  have hg1' : w.heap.size + 1 < g := by simp at hg1; omega
  have c0 : w1.cell? ⟨w.heap.size, 0, none⟩ = some (.int .i64 0) := by rw [hb1.cell (p := ⟨w.heap.size, 0, none⟩) (by show w.heap.size < _; simp; omega)]; go_simp
  have c1 : w1.cell? ⟨w.heap.size, 1, none⟩ = some (.int .i64 0) := by rw [hb1.cell (p := ⟨w.heap.size, 1, none⟩) (by show w.heap.size < _; simp; omega)]; go_simp
  have c2 : w1.cell? ⟨w.heap.size, 2, none⟩ = some (.int .i64 0) := by rw [hb1.cell (p := ⟨w.heap.size, 2, none⟩) (by show w.heap.size < _; simp; omega)]; go_simp
  have d0 : w1.cell? ⟨w.heap.size + 1, 0, none⟩ = some (.int .i64 0) := by rw [hb1.cell (p := ⟨w.heap.size + 1, 0, none⟩) (by show w.heap.size + 1 < _; simp)]; go_simp
  have d1 : w1.cell? ⟨w.heap.size + 1, 1, none⟩ = some (.int .i64 0) := by rw [hb1.cell (p := ⟨w.heap.size + 1, 1, none⟩) (by show w.heap.size + 1 < _; simp)]; go_simp
  have d2 : w1.cell? ⟨w.heap.size + 1, 2, none⟩ = some (.int .i64 0) := by rw [hb1.cell (p := ⟨w.heap.size + 1, 2, none⟩) (by show w.heap.size + 1 < _; simp)]; go_simp
  have f0 : ∀ o, w1.frozen? ⟨w.heap.size, o, none⟩ = false := fun o => by rw [hb1.frozen (p := ⟨w.heap.size, o, none⟩) (by show w.heap.size < _; simp; omega)]; go_simp
  have f1 : ∀ o, w1.frozen? ⟨w.heap.size + 1, o, none⟩ = false := fun o => by rw [hb1.frozen (p := ⟨w.heap.size + 1, o, none⟩) (by show w.heap.size + 1 < _; simp)]; go_simp
  have hl1 : Below w.heap.size w w1 := (((Below.refl _ _).alloc (Nat.le_refl _) _).alloc (by simp) _).trans (hb1.mono (by simp; omega))
  have hs1 : w.heap.size + 1 < w1.heap.size := by have := hb1.size; simp at this; omega
  clear HO hb1
  go_wp2_with fail
  refine (root_any _ g _ _ hR1 (by omega) (by omega)).mono ?_
  rintro e w2 ⟨s, n, d, q, rfl, hs, hn, hd, q0, q1, hR2, hg2⟩
  have c0 := ((gcell hg2).1 w.heap.size 0 (by omega) (by omega)).trans c0
  have d0 := ((gcell hg2).1 (w.heap.size + 1) 0 (by omega) (by omega)).trans d0
  have c1 := ((gcell hg2).1 w.heap.size 1 (by omega) (by omega)).trans c1
  have d1 := ((gcell hg2).1 (w.heap.size + 1) 1 (by omega) (by omega)).trans d1
  have c2 := ((gcell hg2).1 w.heap.size 2 (by omega) (by omega)).trans c2
  have d2 := ((gcell hg2).1 (w.heap.size + 1) 2 (by omega) (by omega)).trans d2
  have g0 : ∀ o, w2.frozen? ⟨w.heap.size, o, none⟩ = false := fun o => ((gcell hg2).2 w.heap.size o (by omega) (by omega)).trans (f0 o)
  have g1 : ∀ o, w2.frozen? ⟨w.heap.size + 1, o, none⟩ = false := fun o => ((gcell hg2).2 (w.heap.size + 1) o (by omega) (by omega)).trans (f1 o)
  have hl2 : Below w.heap.size w w2 := hl1.trans (gfrom hg2 (by omega) hl1.size)
  have hs2 : w.heap.size + 1 < w2.heap.size := by have := hg2.size; omega
  have i1 : w.heap.size < w2.heap.size + 1 := by omega
  have i2 : w.heap.size + 1 < w2.heap.size + 1 := by omega
  have i3 : w.heap.size < w2.heap.size := by omega
  have j1 : ¬ w.heap.size = g := by omega
  have j2 : ¬ w.heap.size + 1 = g := by omega
  have hgb := hR2.hg
  have j3 : ¬ w2.heap.size = g := by omega
  clear hg2 f0 f1 hR1
  go_wp2_with fail
  go_region_with (go_at_call 38; refine (root_any w.heap.size g q _ ?_ (by omega) (by omega)).mono ?_; (repeat (first | exact hR2 | (with_reducible refine Rd.drewN ?_ _) | (with_reducible refine Rd.drew ?_) | (with_reducible refine Rd.alloc ?_ _) | exact (hR2.alloc _).drew)); rintro e w3 ⟨s', n', d', q', rfl, hs', hn', hd', r0, r1, hR3, hg3⟩; have hs3 := hg3.size; obtain ⟨hc3, hf3⟩ := gcell hg3)
  all_goals
    have p0 : w3.cell? ⟨w.heap.size, 0, none⟩ = some (.int .i64 0) := by rw [hc3 _ _ (by simp; omega) j1]; go_simp
    have p1 : w3.cell? ⟨w.heap.size, 1, none⟩ = some (.int .i64 0) := by rw [hc3 _ _ (by simp; omega) j1]; go_simp
    have p2 : w3.cell? ⟨w.heap.size, 2, none⟩ = some (.int .i64 0) := by rw [hc3 _ _ (by simp; omega) j1]; go_simp
    have m0 : w3.cell? ⟨w.heap.size + 1, 0, none⟩ = some (.int .i64 0) := by rw [hc3 _ _ (by simp; omega) j2]; go_simp
    have m1 : w3.cell? ⟨w.heap.size + 1, 1, none⟩ = some (.int .i64 0) := by rw [hc3 _ _ (by simp; omega) j2]; go_simp
    have m2 : w3.cell? ⟨w.heap.size + 1, 2, none⟩ = some (.int .i64 0) := by rw [hc3 _ _ (by simp; omega) j2]; go_simp
    have u0 : (((w3.setCell ⟨w.heap.size, 0, none⟩ (.int .i64 s)).setCell ⟨w.heap.size, 1, none⟩ (.int .i64 n)).setCell ⟨w.heap.size, 2, none⟩ (.int .i64 d)).cell? ⟨w.heap.size + 1, 0, none⟩ = some (.int .i64 0) := kset (kset (kset m0 (by omega)) (by omega)) (by omega)
    have u1 : (((w3.setCell ⟨w.heap.size, 0, none⟩ (.int .i64 s)).setCell ⟨w.heap.size, 1, none⟩ (.int .i64 n)).setCell ⟨w.heap.size, 2, none⟩ (.int .i64 d)).cell? ⟨w.heap.size + 1, 1, none⟩ = some (.int .i64 0) := kset (kset (kset m1 (by omega)) (by omega)) (by omega)
    have u2 : (((w3.setCell ⟨w.heap.size, 0, none⟩ (.int .i64 s)).setCell ⟨w.heap.size, 1, none⟩ (.int .i64 n)).setCell ⟨w.heap.size, 2, none⟩ (.int .i64 d)).cell? ⟨w.heap.size + 1, 2, none⟩ = some (.int .i64 0) := kset (kset (kset m2 (by omega)) (by omega)) (by omega)
    have hl3 : Below w.heap.size w w3 := by
      first
        | exact ((hl2.alloc hl2.size _).drew).trans (gfrom hg3 (by omega) (by have := hl2.size; simp; omega))
        | exact (hl2.alloc hl2.size _).trans (gfrom hg3 (by omega) (by have := hl2.size; simp; omega))
    go_wp2
    refine bodyPost_ret (v := .tuple #[.agg #[.int .i64 s, .int .i64 n, .int .i64 d], .agg #[.int .i64 s', .int .i64 n', .int .i64 d']]) ?_ rfl ⟨s, n, d, s', n', d', ⟨hs, hn, hd⟩, ⟨hs', hn', hd'⟩, rfl, bset3 (bset3 hl3 (Nat.le_refl _)) (by omega)⟩
    simp [results, Try.results27, go_sem, two0 _ p0, three1 _ _ p1, three2 _ _ _ p2, two0 _ u0, three1 _ _ u1, three2 _ _ _ u2]
end Go.Proofs.Ytecoekenkjgijaa
