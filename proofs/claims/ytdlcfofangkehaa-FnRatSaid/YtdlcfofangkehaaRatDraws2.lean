/-
  Draws of one and of two rationals.
-/
import Derived.Test.YtdlcfofangkehaaRatDraws
namespace Go.Proofs.Ytdlcfofangkehaa
open Go.RowKit
set_option linter.unusedSimpArgs false
set_option linter.unusedVariables false

def Wr2 (B : Nat) (w : World) (g : Nat) (p : Int) (e : Ending) (w' : World) : Prop :=
  ∃ n d q : Int, e = .returned (.agg #[.int .i64 n, .int .i64 d]) ∧ -2000000000 ≤ n ∧ n ≤ 2000000000 ∧ -2000000000 ≤ d ∧ d ≤ 2000000000 ∧ p ≤ q ∧ q ≤ p + 20 ∧ Rd B w' g q ∧ w.grownBy w' (some g)

set_option maxHeartbeats 1000000 in
theorem wrong_any (B g : Nat) (p : Int) (w : World) (h : Rd B w g p) (hp0 : 0 ≤ p) (hp1 : p ≤ 800000) :
    Calls Try.prog 46 #[.pointer (some ⟨g, 0, none⟩)] w (Wr2 B w g p) := by
  have hgw := h.hg
  have hR0 := h.alloc (.cells #[.int .i64 0, .int .i64 0] 24)
  go_enter Try.func46, Try.ntmps46
  go_wp2_with fail
  refine (rat_any B g _ _ hR0 hp0 (by omega)).mono ?_
  rintro e w1 ⟨n, d, q, rfl, n0, n1, d0, d1, q0, q1, hR1, hg1⟩
  have c0 : w1.cell? ⟨w.heap.size, 0, none⟩ = some (.int .i64 0) := by rw [(gcell hg1).1 _ _ (by simp) (by omega)]; go_simp
  have c1 : w1.cell? ⟨w.heap.size, 1, none⟩ = some (.int .i64 0) := by rw [(gcell hg1).1 _ _ (by simp) (by omega)]; go_simp
  have cf : ∀ o, w1.frozen? ⟨w.heap.size, o, none⟩ = false := fun o => by rw [(gcell hg1).2 _ _ (by simp) (by omega)]; go_simp
  have hz1 : w.heap.size < w1.heap.size := by have := hg1.size; simp at this; omega
  have hgw1 := gtrans (galloc (World.grownBy.refl w (some g)) _) hg1
  have hg1' := hR1.hg
  go_wp2_with fail
  refine (pk_any B g _ _ _ (hR1.alloc _) (by omega) (by omega) (by omega) (by omega)).mono ?_
  rintro e w2 ⟨s, rfl, s0, s1, hR2, hg2⟩
  have d2 : w2.cell? ⟨w.heap.size, 0, none⟩ = some (.int .i64 0) := by rw [(gcell hg2).1 _ _ (by simp; omega) (by omega)]; go_simp
  have d3 : w2.cell? ⟨w.heap.size, 1, none⟩ = some (.int .i64 0) := by rw [(gcell hg2).1 _ _ (by simp; omega) (by omega)]; go_simp
  have df : ∀ o, w2.frozen? ⟨w.heap.size, o, none⟩ = false := fun o => by rw [(gcell hg2).2 _ _ (by simp; omega) (by omega), World.frozen?_alloc_past _ _ _ hz1]; exact cf o
  have e2 : w2.cell? ⟨w1.heap.size, 0, none⟩ = some (.int .i64 n) := by rw [(gcell hg2).1 _ _ (by simp) (by omega)]; go_simp
  have e3 : w2.cell? ⟨w1.heap.size, 1, none⟩ = some (.int .i64 d) := by rw [(gcell hg2).1 _ _ (by simp) (by omega)]; go_simp
  have ef : ∀ o, w2.frozen? ⟨w1.heap.size, o, none⟩ = false := fun o => by rw [(gcell hg2).2 _ _ (by simp) (by omega)]; go_simp
  have hz2 : w1.heap.size < w2.heap.size := by have := hg2.size; simp at this; omega
  have hgw2 := gtrans (galloc hgw1 _) hg2
  have hne : w.heap.size ≠ g := by omega
  have hne1 : w1.heap.size ≠ g := by omega
  have hne2 : ¬ w1.heap.size = w.heap.size := by omega
  have hBc : B ≤ w.heap.size := by have := h.hB; omega
  have hBc1 : B ≤ w1.heap.size := by omega
  clear cf c0 c1
  have hle : w.heap.size ≤ w1.heap.size := by omega
  have x2 : (w2.setCell ⟨w1.heap.size, 1, none⟩ (.int .i64 (-d))).cell? ⟨w.heap.size, 0, none⟩ = some (.int .i64 0) := (World.cell?_setCell_other _ _ _ _ (fun e => hne2 (by injection e))).trans d2
  have x3 : (w2.setCell ⟨w1.heap.size, 1, none⟩ (.int .i64 (-d))).cell? ⟨w.heap.size, 1, none⟩ = some (.int .i64 0) := (World.cell?_setCell_other _ _ _ _ (fun e => hne2 (by injection e))).trans d3
  go_wp2
  · exact bodyPost_ret (v := .agg #[.int .i64 2, .int .i64 4]) (by simp [results, Try.results46, go_sem, two0 _ d2, two1 _ _ d3]) rfl ⟨2, 4, q + 1, rfl, by omega, by omega, by omega, by omega, by omega, by omega, (by repeat (first | exact hR2 | refine Rd.set_other ?_ hne hBc _ _ | refine Rd.set_other ?_ hne1 hBc1 _ _)), (by repeat (first | exact hgw2 | refine gset ?_ (.inr (Nat.le_refl _)) _ | refine gset ?_ (.inr hle) _))⟩
  · exact bodyPost_ret (v := .agg #[.int .i64 1, .int .i64 0]) (by simp [results, Try.results46, go_sem, two0 _ d2, two1 _ _ d3]) rfl ⟨1, 0, q + 1, rfl, by omega, by omega, by omega, by omega, by omega, by omega, (by repeat (first | exact hR2 | refine Rd.set_other ?_ hne hBc _ _ | refine Rd.set_other ?_ hne1 hBc1 _ _)), (by repeat (first | exact hgw2 | refine gset ?_ (.inr (Nat.le_refl _)) _ | refine gset ?_ (.inr hle) _))⟩
  · exact bodyPost_ret (v := .agg #[.int .i64 n, .int .i64 (-d)]) (by simp [results, Try.results46, go_sem, two0 _ x2, two1 _ _ x3]) rfl ⟨n, (-d), q + 1, rfl, by omega, by omega, by omega, by omega, by omega, by omega, (by repeat (first | exact hR2 | refine Rd.set_other ?_ hne hBc _ _ | refine Rd.set_other ?_ hne1 hBc1 _ _)), (by repeat (first | exact hgw2 | refine gset ?_ (.inr (Nat.le_refl _)) _ | refine gset ?_ (.inr hle) _))⟩
  · exact bodyPost_ret (v := .agg #[.int .i64 1000000001, .int .i64 1]) (by simp [results, Try.results46, go_sem, two0 _ d2, two1 _ _ d3]) rfl ⟨1000000001, 1, q + 1, rfl, by omega, by omega, by omega, by omega, by omega, by omega, (by repeat (first | exact hR2 | refine Rd.set_other ?_ hne hBc _ _ | refine Rd.set_other ?_ hne1 hBc1 _ _)), (by repeat (first | exact hgw2 | refine gset ?_ (.inr (Nat.le_refl _)) _ | refine gset ?_ (.inr hle) _))⟩
  · exact bodyPost_ret (v := .agg #[.int .i64 n, .int .i64 d]) (by simp [results, Try.results46, go_sem, two0 _ d2, two1 _ _ d3]) rfl ⟨n, d, q + 1, rfl, by omega, by omega, by omega, by omega, by omega, by omega, (by repeat (first | exact hR2 | refine Rd.set_other ?_ hne hBc _ _ | refine Rd.set_other ?_ hne1 hBc1 _ _)), (by repeat (first | exact hgw2 | refine gset ?_ (.inr (Nat.le_refl _)) _ | refine gset ?_ (.inr hle) _))⟩

def Tw (g : Nat) (w : World) (e : Ending) (w' : World) : Prop :=
  ∃ a b c d : Int, (-2000000000 ≤ a ∧ a ≤ 2000000000) ∧ (-2000000000 ≤ b ∧ b ≤ 2000000000) ∧ (-2000000000 ≤ c ∧ c ≤ 2000000000) ∧ (-2000000000 ≤ d ∧ d ≤ 2000000000) ∧ e = .returned (.tuple #[.agg #[.int .i64 a, .int .i64 b], .agg #[.int .i64 c, .int .i64 d]]) ∧ w.grownBy w' (some g)
set_option maxHeartbeats 2000000 in
theorem two_rats (B g : Nat) (p : Int) (w : World) (h : Rd B w g p) (hp0 : 0 ≤ p) (hp1 : p ≤ 700000) :
    Calls Try.prog 36 #[.pointer (some ⟨g, 0, none⟩)] w (Tw g w) := by
  have hgw := h.hg
  have hBc : B ≤ w.heap.size := by have := h.hB; omega
  have hR0 := (h.alloc (.cells #[.int .i64 0, .int .i64 0] 24)).alloc (.cells #[.int .i64 0, .int .i64 0] 24)
  go_enter Try.func36, Try.ntmps36
  go_wp2_with fail
  refine (wrong_any B g _ _ hR0 hp0 (by omega)).mono ?_
  rintro e w1 ⟨a, b, q, rfl, a0, a1, b0, b1, q0, q1, hR1, hg1⟩
  have c0 : w1.cell? ⟨w.heap.size, 0, none⟩ = some (.int .i64 0) := by rw [(gcell hg1).1 _ _ (by simp; omega) (by omega)]; go_simp
  have c1 : w1.cell? ⟨w.heap.size, 1, none⟩ = some (.int .i64 0) := by rw [(gcell hg1).1 _ _ (by simp; omega) (by omega)]; go_simp
  have c2 : w1.cell? ⟨w.heap.size + 1, 0, none⟩ = some (.int .i64 0) := by rw [(gcell hg1).1 _ _ (by simp) (by omega)]; go_simp
  have c3 : w1.cell? ⟨w.heap.size + 1, 1, none⟩ = some (.int .i64 0) := by rw [(gcell hg1).1 _ _ (by simp) (by omega)]; go_simp
  have cf : ∀ o, w1.frozen? ⟨w.heap.size, o, none⟩ = false := fun o => by rw [(gcell hg1).2 _ _ (by simp; omega) (by omega)]; go_simp
  have cg : ∀ o, w1.frozen? ⟨w.heap.size + 1, o, none⟩ = false := fun o => by rw [(gcell hg1).2 _ _ (by simp) (by omega)]; go_simp
  have hz1 : w.heap.size + 1 < w1.heap.size := by have := hg1.size; simp at this; omega
  have hl1 := gtrans (galloc (galloc (World.grownBy.refl w (some g)) _) _) hg1
  have hg1' := hR1.hg
  have i1 : w.heap.size < w1.heap.size + 1 := by omega
  have i2 : w.heap.size + 1 < w1.heap.size + 1 := by omega
  have i3 : w.heap.size < w1.heap.size := by omega
  have j1 : ¬ w.heap.size = g := by omega
  have j2 : ¬ w.heap.size + 1 = g := by omega
  have j3 : ¬ w1.heap.size = g := by omega
  have hBd : B ≤ w.heap.size + 1 := by omega
  clear hR0 hg1 h
  go_wp2_with fail
  go_region_with (go_at_call 46; refine (wrong_any B g q _ ?_ (by omega) (by omega)).mono ?_; (repeat (first | exact hR1 | (with_reducible refine Rd.drewN ?_ _) | (with_reducible refine Rd.drew ?_) | (with_reducible refine Rd.alloc ?_ _) | exact (hR1.alloc _).drew | refine Rd.set_other ?_ j1 hBc _ _ | refine Rd.set_other ?_ j2 hBd _ _)); rintro e w2 ⟨c, d, q2, rfl, e0, e1, f0, f1, r0, r1, hR2, hg2⟩; have hs2 := hg2.size; obtain ⟨hc2, hf2⟩ := gcell hg2)
  all_goals
    have p0 : w2.cell? ⟨w.heap.size, 0, none⟩ = some (.int .i64 0) := by rw [hc2 _ _ (by simp; omega) j1]; go_simp
    have p1 : w2.cell? ⟨w.heap.size, 1, none⟩ = some (.int .i64 0) := by rw [hc2 _ _ (by simp; omega) j1]; go_simp
    have p2 : w2.cell? ⟨w.heap.size + 1, 0, none⟩ = some (.int .i64 0) := by rw [hc2 _ _ (by simp; omega) j2]; go_simp
    have p3 : w2.cell? ⟨w.heap.size + 1, 1, none⟩ = some (.int .i64 0) := by rw [hc2 _ _ (by simp; omega) j2]; go_simp
    have hl2 := gtrans (gdrewN (galloc hl1 _) 1) hg2
    have q2 : ((w2.setCell ⟨w.heap.size, 0, none⟩ (.int .i64 a)).setCell ⟨w.heap.size, 1, none⟩ (.int .i64 b)).cell? ⟨w.heap.size + 1, 0, none⟩ = some (.int .i64 0) := (World.cell?_setCell_other _ _ _ _ (by simp)).trans ((World.cell?_setCell_other _ _ _ _ (by simp)).trans p2)
    have q3 : ((w2.setCell ⟨w.heap.size, 0, none⟩ (.int .i64 a)).setCell ⟨w.heap.size, 1, none⟩ (.int .i64 b)).cell? ⟨w.heap.size + 1, 1, none⟩ = some (.int .i64 0) := (World.cell?_setCell_other _ _ _ _ (by simp)).trans ((World.cell?_setCell_other _ _ _ _ (by simp)).trans p3)
    go_wp2
    refine bodyPost_ret (v := .tuple #[.agg #[.int .i64 a, .int .i64 b], .agg #[.int .i64 c, .int .i64 d]]) ?_ rfl ⟨a, b, c, d, ⟨a0, a1⟩, ⟨b0, b1⟩, ⟨e0, e1⟩, ⟨f0, f1⟩, rfl, ?_⟩
    · simp [results, Try.results36, go_sem, two0 _ p0, two1 _ _ p1, two0 _ q2, two1 _ _ q3]
    · exact gset (gset (gset (gset hl2 (.inr (Nat.le_refl _)) _) (.inr (Nat.le_refl _)) _) (.inr (by simp)) _) (.inr (by simp)) _

theorem open_w (B n c : Nat) (A : Option Addr) (w : World) (h : Code B w A n c) (hB : B ≤ w.heap.size) :
    Calls Try.prog 37 #[.slice A n c] w fun e w' => ∃ g : Nat, e = .returned (.pointer (some ⟨g, 0, none⟩)) ∧ Rd B w' g 0 ∧ Below w.heap.size w w' ∧ w.heap.size ≤ g := by
  obtain ⟨hnc, hc, hA⟩ := h
  by_cases hn : 2000 < n
  · obtain ⟨b, off, rfl, hb, hv⟩ := hA (by omega)
    clear hA
    go_enter Try.func37, Try.ntmps37
    go_wp2
    go_ret
    exact ⟨w.heap.size, rfl, Rd.new_ _ hB (by omega) (fun _ => ⟨b, off, rfl, hb, fun i hi => hv i (by omega)⟩), (Below.refl _ _).alloc (Nat.le_refl _) _, Nat.le_refl _⟩
  · go_enter Try.func37, Try.ntmps37
    go_wp2
    go_ret
    exact ⟨w.heap.size, rfl, Rd.new_ _ hB (by omega) hA, (Below.refl _ _).alloc (Nat.le_refl _) _, Nat.le_refl _⟩
/-- Two rationals within bounds come back; what was there is as it was. -/
def Two (w : World) (e : Ending) (w' : World) : Prop :=
  ∃ a b c d : Int, (-2000000000 ≤ a ∧ a ≤ 2000000000) ∧ (-2000000000 ≤ b ∧ b ≤ 2000000000) ∧ (-2000000000 ≤ c ∧ c ≤ 2000000000) ∧ (-2000000000 ≤ d ∧ d ≤ 2000000000) ∧ e = .returned (.tuple #[.agg #[.int .i64 a, .int .i64 b], .agg #[.int .i64 c, .int .i64 d]]) ∧ Below w.heap.size w w'


theorem d_DrawRatSub (n0 n1 : Nat) (A : Option Addr) (w : World) (h : Code w.heap.size w A n0 n1) : Calls Try.prog 19 #[.slice A n0 n1] w (Two w) := by
  have hk : Code w.heap.size ((w.alloc (.cells #[.int .i64 0, .int .i64 0] 24)).alloc (.cells #[.int .i64 0, .int .i64 0] 24)) A n0 n1 := by
    obtain ⟨h1, h2, h3⟩ := h
    refine ⟨h1, h2, fun hl => ?_⟩
    obtain ⟨b, off, rfl, hb, hv⟩ := h3 hl
    refine ⟨b, off, rfl, hb, fun i hi => ?_⟩
    obtain ⟨v, v0, v1, hv⟩ := hv i hi
    exact ⟨v, v0, v1, (World.cell?_alloc_lt _ _ _ (by show b < _; simp; omega)).trans ((World.cell?_alloc_lt _ _ _ hb).trans hv)⟩
  have HC := open_w w.heap.size n0 n1 A _ hk (by simp; omega)
  have HO := Lib.hid HC
  clear h hk HC
  go_enter Try.func19, Try.ntmps19
  go_wp2_with fail
  refine HO.out.mono ?_
  rintro e w1 ⟨g, rfl, hR1, hb1, hg1⟩
  have hg1' : w.heap.size + 1 < g := by simp at hg1; omega
  have c0 : w1.cell? ⟨w.heap.size, 0, none⟩ = some (.int .i64 0) := by rw [hb1.cell (p := ⟨w.heap.size, 0, none⟩) (by show w.heap.size < _; simp; omega)]; go_simp
  have c1 : w1.cell? ⟨w.heap.size, 1, none⟩ = some (.int .i64 0) := by rw [hb1.cell (p := ⟨w.heap.size, 1, none⟩) (by show w.heap.size < _; simp; omega)]; go_simp
  have c2 : w1.cell? ⟨w.heap.size + 1, 0, none⟩ = some (.int .i64 0) := by rw [hb1.cell (p := ⟨w.heap.size + 1, 0, none⟩) (by show w.heap.size + 1 < _; simp)]; go_simp
  have c3 : w1.cell? ⟨w.heap.size + 1, 1, none⟩ = some (.int .i64 0) := by rw [hb1.cell (p := ⟨w.heap.size + 1, 1, none⟩) (by show w.heap.size + 1 < _; simp)]; go_simp
  have f0 : ∀ o, w1.frozen? ⟨w.heap.size, o, none⟩ = false := fun o => by rw [hb1.frozen (p := ⟨w.heap.size, o, none⟩) (by show w.heap.size < _; simp; omega)]; go_simp
  have f2 : ∀ o, w1.frozen? ⟨w.heap.size + 1, o, none⟩ = false := fun o => by rw [hb1.frozen (p := ⟨w.heap.size + 1, o, none⟩) (by show w.heap.size + 1 < _; simp)]; go_simp
  have hl1 : Below w.heap.size w w1 := (((Below.refl _ _).alloc (Nat.le_refl _) _).alloc (by simp) _).trans (hb1.mono (by simp; omega))
  have hs1 : w.heap.size + 1 < w1.heap.size := by have := hb1.size; simp at this; omega
  clear HO
  go_wp2_with fail
  refine (two_rats _ g _ _ hR1 (by omega) (by omega)).mono ?_
  rintro e w2 ⟨a, b, c, d, ha, hb, hc, hd, rfl, hg2⟩
  have e0 := ((gcell hg2).1 w.heap.size 0 (by omega) (by omega)).trans c0
  have e1 := ((gcell hg2).1 w.heap.size 1 (by omega) (by omega)).trans c1
  have e2 := ((gcell hg2).1 (w.heap.size + 1) 0 (by omega) (by omega)).trans c2
  have e3 := ((gcell hg2).1 (w.heap.size + 1) 1 (by omega) (by omega)).trans c3
  have f0' : ∀ o, w2.frozen? ⟨w.heap.size, o, none⟩ = false := fun o => ((gcell hg2).2 w.heap.size o (by omega) (by omega)).trans (f0 o)
  have f2' : ∀ o, w2.frozen? ⟨w.heap.size + 1, o, none⟩ = false := fun o => ((gcell hg2).2 (w.heap.size + 1) o (by omega) (by omega)).trans (f2 o)
  have hl2 : Below w.heap.size w w2 := hl1.trans (gfrom hg2 (by omega) hl1.size)
  have q2 : ((w2.setCell ⟨w.heap.size, 0, none⟩ (.int .i64 a)).setCell ⟨w.heap.size, 1, none⟩ (.int .i64 b)).cell? ⟨w.heap.size + 1, 0, none⟩ = some (.int .i64 0) := (World.cell?_setCell_other _ _ _ _ (by simp)).trans ((World.cell?_setCell_other _ _ _ _ (by simp)).trans e2)
  have q3 : ((w2.setCell ⟨w.heap.size, 0, none⟩ (.int .i64 a)).setCell ⟨w.heap.size, 1, none⟩ (.int .i64 b)).cell? ⟨w.heap.size + 1, 1, none⟩ = some (.int .i64 0) := (World.cell?_setCell_other _ _ _ _ (by simp)).trans ((World.cell?_setCell_other _ _ _ _ (by simp)).trans e3)
  clear c0 c1 c2 c3 f0 f2
  go_wp2
  refine bodyPost_ret (v := .tuple #[.agg #[.int .i64 a, .int .i64 b], .agg #[.int .i64 c, .int .i64 d]]) ?_ rfl ⟨a, b, c, d, ha, hb, hc, hd, rfl, ?_⟩
  · simp [results, Try.results19, go_sem, two0 _ e0, two1 _ _ e1, two0 _ q2, two1 _ _ q3]
  · exact (((hl2.setCell (Nat.le_refl _) _).setCell (Nat.le_refl _) _).setCell (by simp) _).setCell (by simp) _


theorem d_DrawRatDiv (n0 n1 : Nat) (A : Option Addr) (w : World) (h : Code w.heap.size w A n0 n1) : Calls Try.prog 14 #[.slice A n0 n1] w (Two w) := by
  have hk : Code w.heap.size ((w.alloc (.cells #[.int .i64 0, .int .i64 0] 24)).alloc (.cells #[.int .i64 0, .int .i64 0] 24)) A n0 n1 := by
    obtain ⟨h1, h2, h3⟩ := h
    refine ⟨h1, h2, fun hl => ?_⟩
    obtain ⟨b, off, rfl, hb, hv⟩ := h3 hl
    refine ⟨b, off, rfl, hb, fun i hi => ?_⟩
    obtain ⟨v, v0, v1, hv⟩ := hv i hi
    exact ⟨v, v0, v1, (World.cell?_alloc_lt _ _ _ (by show b < _; simp; omega)).trans ((World.cell?_alloc_lt _ _ _ hb).trans hv)⟩
  have HC := open_w w.heap.size n0 n1 A _ hk (by simp; omega)
  have HO := Lib.hid HC
  clear h hk HC
  go_enter Try.func14, Try.ntmps14
  go_wp2_with fail
  refine HO.out.mono ?_
  rintro e w1 ⟨g, rfl, hR1, hb1, hg1⟩
  have hg1' : w.heap.size + 1 < g := by simp at hg1; omega
  have c0 : w1.cell? ⟨w.heap.size, 0, none⟩ = some (.int .i64 0) := by rw [hb1.cell (p := ⟨w.heap.size, 0, none⟩) (by show w.heap.size < _; simp; omega)]; go_simp
  have c1 : w1.cell? ⟨w.heap.size, 1, none⟩ = some (.int .i64 0) := by rw [hb1.cell (p := ⟨w.heap.size, 1, none⟩) (by show w.heap.size < _; simp; omega)]; go_simp
  have c2 : w1.cell? ⟨w.heap.size + 1, 0, none⟩ = some (.int .i64 0) := by rw [hb1.cell (p := ⟨w.heap.size + 1, 0, none⟩) (by show w.heap.size + 1 < _; simp)]; go_simp
  have c3 : w1.cell? ⟨w.heap.size + 1, 1, none⟩ = some (.int .i64 0) := by rw [hb1.cell (p := ⟨w.heap.size + 1, 1, none⟩) (by show w.heap.size + 1 < _; simp)]; go_simp
  have f0 : ∀ o, w1.frozen? ⟨w.heap.size, o, none⟩ = false := fun o => by rw [hb1.frozen (p := ⟨w.heap.size, o, none⟩) (by show w.heap.size < _; simp; omega)]; go_simp
  have f2 : ∀ o, w1.frozen? ⟨w.heap.size + 1, o, none⟩ = false := fun o => by rw [hb1.frozen (p := ⟨w.heap.size + 1, o, none⟩) (by show w.heap.size + 1 < _; simp)]; go_simp
  have hl1 : Below w.heap.size w w1 := (((Below.refl _ _).alloc (Nat.le_refl _) _).alloc (by simp) _).trans (hb1.mono (by simp; omega))
  have hs1 : w.heap.size + 1 < w1.heap.size := by have := hb1.size; simp at this; omega
  clear HO
  go_wp2_with fail
  refine (two_rats _ g _ _ hR1 (by omega) (by omega)).mono ?_
  rintro e w2 ⟨a, b, c, d, ha, hb, hc, hd, rfl, hg2⟩
  have e0 := ((gcell hg2).1 w.heap.size 0 (by omega) (by omega)).trans c0
  have e1 := ((gcell hg2).1 w.heap.size 1 (by omega) (by omega)).trans c1
  have e2 := ((gcell hg2).1 (w.heap.size + 1) 0 (by omega) (by omega)).trans c2
  have e3 := ((gcell hg2).1 (w.heap.size + 1) 1 (by omega) (by omega)).trans c3
  have f0' : ∀ o, w2.frozen? ⟨w.heap.size, o, none⟩ = false := fun o => ((gcell hg2).2 w.heap.size o (by omega) (by omega)).trans (f0 o)
  have f2' : ∀ o, w2.frozen? ⟨w.heap.size + 1, o, none⟩ = false := fun o => ((gcell hg2).2 (w.heap.size + 1) o (by omega) (by omega)).trans (f2 o)
  have hl2 : Below w.heap.size w w2 := hl1.trans (gfrom hg2 (by omega) hl1.size)
  have q2 : ((w2.setCell ⟨w.heap.size, 0, none⟩ (.int .i64 a)).setCell ⟨w.heap.size, 1, none⟩ (.int .i64 b)).cell? ⟨w.heap.size + 1, 0, none⟩ = some (.int .i64 0) := (World.cell?_setCell_other _ _ _ _ (by simp)).trans ((World.cell?_setCell_other _ _ _ _ (by simp)).trans e2)
  have q3 : ((w2.setCell ⟨w.heap.size, 0, none⟩ (.int .i64 a)).setCell ⟨w.heap.size, 1, none⟩ (.int .i64 b)).cell? ⟨w.heap.size + 1, 1, none⟩ = some (.int .i64 0) := (World.cell?_setCell_other _ _ _ _ (by simp)).trans ((World.cell?_setCell_other _ _ _ _ (by simp)).trans e3)
  clear c0 c1 c2 c3 f0 f2
  go_wp2
  refine bodyPost_ret (v := .tuple #[.agg #[.int .i64 a, .int .i64 b], .agg #[.int .i64 c, .int .i64 d]]) ?_ rfl ⟨a, b, c, d, ha, hb, hc, hd, rfl, ?_⟩
  · simp [results, Try.results14, go_sem, two0 _ e0, two1 _ _ e1, two0 _ q2, two1 _ _ q3]
  · exact (((hl2.setCell (Nat.le_refl _) _).setCell (Nat.le_refl _) _).setCell (by simp) _).setCell (by simp) _

end Go.Proofs.Ytdlcfofangkehaa
