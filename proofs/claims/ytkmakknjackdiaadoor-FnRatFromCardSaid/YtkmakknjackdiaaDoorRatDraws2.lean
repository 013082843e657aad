/-
  Draws of one and of two rationals.
-/
import Derived.Test.YtkmakknjackdiaaDoorRatDraws
namespace Go.Proofs.YtkmakknjackdiaaDoor
open Go.RowKit
set_option linter.unusedSimpArgs false
set_option linter.unusedVariables false

def Wr2 (B : Nat) (w : World) (g : Nat) (p : Int) (e : Ending) (w' : World) : Prop :=
  ∃ n d q : Int, e = .returned (.agg #[.int .i64 n, .int .i64 d]) ∧ -2000000000 ≤ n ∧ n ≤ 2000000000 ∧ -2000000000 ≤ d ∧ d ≤ 2000000000 ∧ p ≤ q ∧ q ≤ p + 20 ∧ Rd B w' g q ∧ w.grownBy w' (some g)

set_option maxHeartbeats 1000000 in
theorem wrong_any (B g : Nat) (p : Int) (w : World) (h : Rd B w g p) (hp0 : 0 ≤ p) (hp1 : p ≤ 800000) :
    Calls Tryd.prog 25 #[.pointer (some ⟨g, 0, none⟩)] w (Wr2 B w g p) := by
  have hgw := h.hg
  have hR0 := h.alloc (.cells #[.int .i64 0, .int .i64 0] 23)
  go_enter Tryd.func25, Tryd.ntmps25
  go_wp2_with fail
  refine (rat_any B g _ _ hR0 hp0 (by omega)).mono ?_
  rintro e w1 ⟨n, d, q, rfl, n0, n1, d0, d1, q0, q1, hR1, hg1⟩
  have c0 : w1.cell? ⟨w.heap.size, 0, none⟩ = some (.int .i64 0) := by rw [(gcell hg1).1 _ _ (by simp) (by omega)]; go_simp
  have c1 : w1.cell? ⟨w.heap.size, 1, none⟩ = some (.int .i64 0) := by rw [(gcell hg1).1 _ _ (by simp) (by omega)]; go_simp
  have cf : ∀ o, w1.frozen? ⟨w.heap.size, o, none⟩ = false := fun o => by rw [(gcell hg1).2 _ _ (by simp) (by omega)]; go_simp
  have hz1 : w.heap.size < w1.heap.size := by have := hg1.size; simp at this; omega
  have hgw1 := gtrans (galloc (World.grownBy.refl w (some g)) _) hg1
  have hg1' := hR1.hg
  go_wp2_with fail
  refine (pk_any B g _ _ _ (hR1.alloc _) (by omega) (by omega) (by omega) (by omega)).mono ?_
  rintro e w2 ⟨s, rfl, s0, s1, hR2, hg2⟩
  have d2 : w2.cell? ⟨w.heap.size, 0, none⟩ = some (.int .i64 0) := by rw [(gcell hg2).1 _ _ (by simp; omega) (by omega)]; go_simp
  have d3 : w2.cell? ⟨w.heap.size, 1, none⟩ = some (.int .i64 0) := by rw [(gcell hg2).1 _ _ (by simp; omega) (by omega)]; go_simp
  have df : ∀ o, w2.frozen? ⟨w.heap.size, o, none⟩ = false := fun o => by rw [(gcell hg2).2 _ _ (by simp; omega) (by omega), World.frozen?_alloc_past _ _ _ hz1]; exact cf o
  have e2 : w2.cell? ⟨w1.heap.size, 0, none⟩ = some (.int .i64 n) := by rw [(gcell hg2).1 _ _ (by simp) (by omega)]; go_simp
  have e3 : w2.cell? ⟨w1.heap.size, 1, none⟩ = some (.int .i64 d) := by rw [(gcell hg2).1 _ _ (by simp) (by omega)]; go_simp
  have ef : ∀ o, w2.frozen? ⟨w1.heap.size, o, none⟩ = false := fun o => by rw [(gcell hg2).2 _ _ (by simp) (by omega)]; go_simp
  have hz2 : w1.heap.size < w2.heap.size := by have := hg2.size; simp at this; omega
  have hgw2 := gtrans (galloc hgw1 _) hg2
  have hne : w.heap.size ≠ g := by omega
  have hne1 : w1.heap.size ≠ g := by omega
  have hne2 : ¬ w1.heap.size = w.heap.size := by omega
  have hBc : B ≤ w.heap.size := by have := h.hB; omega
  have hBc1 : B ≤ w1.heap.size := by omega
  clear cf c0 c1
  have hle : w.heap.size ≤ w1.heap.size := by omega
  have x2 : (w2.setCell ⟨w1.heap.size, 1, none⟩ (.int .i64 (-d))).cell? ⟨w.heap.size, 0, none⟩ = some (.int .i64 0) := (World.cell?_setCell_other _ _ _ _ (fun e => hne2 (by injection e))).trans d2
  have x3 : (w2.setCell ⟨w1.heap.size, 1, none⟩ (.int .i64 (-d))).cell? ⟨w.heap.size, 1, none⟩ = some (.int .i64 0) := (World.cell?_setCell_other _ _ _ _ (fun e => hne2 (by injection e))).trans d3
  go_wp2
  · exact bodyPost_ret (v := .agg #[.int .i64 2, .int .i64 4]) (by simp [results, Tryd.results25, go_sem, two0 _ d2, two1 _ _ d3]) rfl ⟨2, 4, q + 1, rfl, by omega, by omega, by omega, by omega, by omega, by omega, (by repeat (first | exact hR2 | refine Rd.set_other ?_ hne hBc _ _ | refine Rd.set_other ?_ hne1 hBc1 _ _)), (by repeat (first | exact hgw2 | refine gset ?_ (.inr (Nat.le_refl _)) _ | refine gset ?_ (.inr hle) _))⟩
  · exact bodyPost_ret (v := .agg #[.int .i64 1, .int .i64 0]) (by simp [results, Tryd.results25, go_sem, two0 _ d2, two1 _ _ d3]) rfl ⟨1, 0, q + 1, rfl, by omega, by omega, by omega, by omega, by omega, by omega, (by repeat (first | exact hR2 | refine Rd.set_other ?_ hne hBc _ _ | refine Rd.set_other ?_ hne1 hBc1 _ _)), (by repeat (first | exact hgw2 | refine gset ?_ (.inr (Nat.le_refl _)) _ | refine gset ?_ (.inr hle) _))⟩
  · exact bodyPost_ret (v := .agg #[.int .i64 n, .int .i64 (-d)]) (by simp [results, Tryd.results25, go_sem, two0 _ x2, two1 _ _ x3]) rfl ⟨n, (-d), q + 1, rfl, by omega, by omega, by omega, by omega, by omega, by omega, (by repeat (first | exact hR2 | refine Rd.set_other ?_ hne hBc _ _ | refine Rd.set_other ?_ hne1 hBc1 _ _)), (by repeat (first | exact hgw2 | refine gset ?_ (.inr (Nat.le_refl _)) _ | refine gset ?_ (.inr hle) _))⟩
  · exact bodyPost_ret (v := .agg #[.int .i64 1000000001, .int .i64 1]) (by simp [results, Tryd.results25, go_sem, two0 _ d2, two1 _ _ d3]) rfl ⟨1000000001, 1, q + 1, rfl, by omega, by omega, by omega, by omega, by omega, by omega, (by repeat (first | exact hR2 | refine Rd.set_other ?_ hne hBc _ _ | refine Rd.set_other ?_ hne1 hBc1 _ _)), (by repeat (first | exact hgw2 | refine gset ?_ (.inr (Nat.le_refl _)) _ | refine gset ?_ (.inr hle) _))⟩
  · exact bodyPost_ret (v := .agg #[.int .i64 n, .int .i64 d]) (by simp [results, Tryd.results25, go_sem, two0 _ d2, two1 _ _ d3]) rfl ⟨n, d, q + 1, rfl, by omega, by omega, by omega, by omega, by omega, by omega, (by repeat (first | exact hR2 | refine Rd.set_other ?_ hne hBc _ _ | refine Rd.set_other ?_ hne1 hBc1 _ _)), (by repeat (first | exact hgw2 | refine gset ?_ (.inr (Nat.le_refl _)) _ | refine gset ?_ (.inr hle) _))⟩


theorem open_w (B n c : Nat) (A : Option Addr) (w : World) (h : Code B w A n c) (hB : B ≤ w.heap.size) :
    Calls Tryd.prog 26 #[.slice A n c] w fun e w' => ∃ g : Nat, e = .returned (.pointer (some ⟨g, 0, none⟩)) ∧ Rd B w' g 0 ∧ Below w.heap.size w w' ∧ w.heap.size ≤ g := by
  obtain ⟨hnc, hc, hA⟩ := h
  by_cases hn : 2000 < n
  · obtain ⟨b, off, rfl, hb, hv⟩ := hA (by omega)
    clear hA
    go_enter Tryd.func26, Tryd.ntmps26
    go_wp2
    go_ret
    exact ⟨w.heap.size, rfl, Rd.new_ _ hB (by omega) (fun _ => ⟨b, off, rfl, hb, fun i hi => hv i (by omega)⟩), (Below.refl _ _).alloc (Nat.le_refl _) _, Nat.le_refl _⟩
  · go_enter Tryd.func26, Tryd.ntmps26
    go_wp2
    go_ret
    exact ⟨w.heap.size, rfl, Rd.new_ _ hB (by omega) hA, (Below.refl _ _).alloc (Nat.le_refl _) _, Nat.le_refl _⟩
/-- Two rationals within bounds come back; what was there is as it was. -/
def Two (w : World) (e : Ending) (w' : World) : Prop :=
  ∃ a b c d : Int, (-2000000000 ≤ a ∧ a ≤ 2000000000) ∧ (-2000000000 ≤ b ∧ b ≤ 2000000000) ∧ (-2000000000 ≤ c ∧ c ≤ 2000000000) ∧ (-2000000000 ≤ d ∧ d ≤ 2000000000) ∧ e = .returned (.tuple #[.agg #[.int .i64 a, .int .i64 b], .agg #[.int .i64 c, .int .i64 d]]) ∧ Below w.heap.size w w'





end Go.Proofs.YtkmakknjackdiaaDoor
