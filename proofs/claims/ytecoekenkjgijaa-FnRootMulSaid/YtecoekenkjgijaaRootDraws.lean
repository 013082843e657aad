/-
  The draws of roots.
-/
import Derived.Test.YtecoekenkjgijaaRootSide
import Derived.Test.YtecoekenkjgijaaRatDraws2
namespace Go.Proofs.Ytecoekenkjgijaa
open Go.RowKit
set_option linter.unusedSimpArgs false
set_option linter.unusedVariables false

/-- What a draw of a root leaves. -/
def Wo (B : Nat) (w : World) (g : Nat) (p : Int) (e : Ending) (w' : World) : Prop :=
  ∃ s n d q : Int, e = .returned (.agg #[.int .i64 s, .int .i64 n, .int .i64 d]) ∧ (-2 ≤ s ∧ s ≤ 2) ∧ (-2000000000 ≤ n ∧ n ≤ 2000000000) ∧ (-2000000000 ≤ d ∧ d ≤ 2000000000) ∧ p ≤ q ∧ q ≤ p + 20 ∧ Rd B w' g q ∧ w.grownBy w' (some g)

set_option maxHeartbeats 4000000 in
theorem root_any (B g : Nat) (p : Int) (w : World) (h : Rd B w g p) (hp0 : 0 ≤ p) (hp1 : p ≤ 700000) :
    Calls Try.prog 38 #[.pointer (some ⟨g, 0, none⟩)] w (Wo B w g p) := by
  have hgw := h.hg
  have hBw : B ≤ w.heap.size := by have := h.hB; omega
  have hR0 := h.alloc (.cells #[.int .i64 0, .int .i64 0, .int .i64 0] 29)
  go_enter Try.func38, Try.ntmps38
  go_wp2_with fail
  refine (rat_any B g _ _ hR0 hp0 (by omega)).mono ?_
  rintro e w1 ⟨n, d, q, rfl, n0, n1, d0, d1, q0, q1, hR1, hg1⟩
  have hz1 : w.heap.size < w1.heap.size := by have := hg1.size; simp at this; omega
  have c0 : w1.cell? ⟨w.heap.size, 0, none⟩ = some (.int .i64 0) := by rw [(gcell hg1).1 _ _ (by simp) (by omega)]; go_simp
  have c1 : w1.cell? ⟨w.heap.size, 1, none⟩ = some (.int .i64 0) := by rw [(gcell hg1).1 _ _ (by simp) (by omega)]; go_simp
  have c2 : w1.cell? ⟨w.heap.size, 2, none⟩ = some (.int .i64 0) := by rw [(gcell hg1).1 _ _ (by simp) (by omega)]; go_simp
  have cf : ∀ o, w1.frozen? ⟨w.heap.size, o, none⟩ = false := fun o => by rw [(gcell hg1).2 _ _ (by simp) (by omega)]; go_simp
  have hgw1 := gtrans (galloc (World.grownBy.refl w (some g)) _) hg1
  clear hg1 hR0
  obtain ⟨x, hx⟩ : ∃ x : Int, x = (n.natAbs : Int) := ⟨_, rfl⟩
  have x0 : 0 ≤ x := by omega
  have x1 : x ≤ 2000000000 := by omega
  have HX := Lib.hid hx
  clear hx
  go_wp2_with fail
  refine (abs_at n x _ (by omega) (by omega) HX.out).mono ?_
  rintro e w' ⟨rfl, rfl⟩
  clear HX
  go_wp2_with fail
  have hg1' := hR1.hg
  refine (pk_any B g _ _ _ ((hR1.alloc _).alloc _) (by omega) (by omega) (by omega) (by omega)).mono ?_
  rintro e w2 ⟨s, rfl, s0, s1, hR2, hg2⟩
  obtain ⟨hc2, hf2⟩ := gcell hg2
  have hz2 : w1.heap.size + 1 < w2.heap.size := by have := hg2.size; simp at this; omega
  have hz2' : w1.heap.size < w2.heap.size := by omega
  have a0 : w2.cell? ⟨w1.heap.size, 0, none⟩ = some (.int .i64 x) := by rw [hc2 _ _ (by simp; omega) (by omega)]; go_simp
  have o0 : w2.cell? ⟨w1.heap.size + 1, 0, none⟩ = some (.int .i64 1) := by rw [hc2 _ _ (by simp) (by omega)]; go_simp
  have o1 : w2.cell? ⟨w1.heap.size + 1, 1, none⟩ = some (.int .i64 x) := by rw [hc2 _ _ (by simp) (by omega)]; go_simp
  have o2 : w2.cell? ⟨w1.heap.size + 1, 2, none⟩ = some (.int .i64 d) := by rw [hc2 _ _ (by simp) (by omega)]; go_simp
  have ofz : ∀ o, w2.frozen? ⟨w1.heap.size + 1, o, none⟩ = false := fun o => by rw [hf2 _ _ (by simp) (by omega)]; go_simp
  have r0 : w2.cell? ⟨w.heap.size, 0, none⟩ = some (.int .i64 0) := by rw [hc2 _ _ (by simp; omega) (by omega)]; exact kalloc (kalloc c0)
  have r1 : w2.cell? ⟨w.heap.size, 1, none⟩ = some (.int .i64 0) := by rw [hc2 _ _ (by simp; omega) (by omega)]; exact kalloc (kalloc c1)
  have r2 : w2.cell? ⟨w.heap.size, 2, none⟩ = some (.int .i64 0) := by rw [hc2 _ _ (by simp; omega) (by omega)]; exact kalloc (kalloc c2)
  have rf : ∀ o, w2.frozen? ⟨w.heap.size, o, none⟩ = false := fun o => by
    rw [hf2 _ _ (by simp; omega) (by omega)]
    exact (World.frozen?_alloc_past _ _ _ (by show w.heap.size < _; simp; omega)).trans ((World.frozen?_alloc_past _ _ _ hz1).trans (cf o))
  have hgw2 := gtrans (galloc (galloc hgw1 _) _) hg2
  have jO : w1.heap.size + 1 ≠ g := by omega
  have jR : w.heap.size ≠ g := by omega
  have jB : B ≤ w1.heap.size + 1 := by omega
  have hle : w.heap.size ≤ w1.heap.size + 1 := by omega
  clear c0 c1 c2 cf hc2 hf2 hg2 hR1 hgw1
  have ft : ∀ (W : World) (v : Int), W = w2.setCell ⟨w1.heap.size + 1, 0, none⟩ (.int .i64 v) ∨ (W = w2 ∧ v = 1) ∨ W = (w2.setCell ⟨w1.heap.size + 1, 0, none⟩ (.int .i64 (-1))).setCell ⟨w1.heap.size + 1, 0, none⟩ (.int .i64 v) →
      W.cell? ⟨w1.heap.size + 1, 0, none⟩ = some (.int .i64 v) ∧ W.cell? ⟨w1.heap.size + 1, 1, none⟩ = some (.int .i64 x) ∧ W.cell? ⟨w1.heap.size + 1, 2, none⟩ = some (.int .i64 d) ∧
      (∀ i, w2.cell? ⟨w.heap.size, i, none⟩ = some (.int .i64 0) → W.cell? ⟨w.heap.size, i, none⟩ = some (.int .i64 0)) ∧ (∀ b o, W.frozen? ⟨b, o, none⟩ = w2.frozen? ⟨b, o, none⟩) ∧ W.heap.size = w2.heap.size ∧ Rd B W g (q + 1) ∧ w.grownBy W (some g) := by
    rintro W v (rfl | ⟨rfl, rfl⟩ | rfl)
    · exact ⟨two0 _ o0, (World.cell?_setCell_other _ _ _ _ (by simp)).trans o1, (World.cell?_setCell_other _ _ _ _ (by simp)).trans o2, fun i hi => kset hi (by omega), fun b o => World.frozen?_setCell _ _ _ _, by simp [World.setCell], hR2.set_other jO jB _ _, gset hgw2 (.inr hle) _⟩
    · exact ⟨o0, o1, o2, fun i hi => hi, fun _ _ => rfl, rfl, hR2, hgw2⟩
    · exact ⟨two0 _ (two0 _ o0), (World.cell?_setCell_other _ _ _ _ (by simp)).trans ((World.cell?_setCell_other _ _ _ _ (by simp)).trans o1), (World.cell?_setCell_other _ _ _ _ (by simp)).trans ((World.cell?_setCell_other _ _ _ _ (by simp)).trans o2), fun i hi => kset (kset hi (by omega)) (by omega), fun b o => (World.frozen?_setCell _ _ _ _).trans (World.frozen?_setCell _ _ _ _), by simp [World.setCell], (hR2.set_other jO jB _ _).set_other jO jB _ _, gset (gset hgw2 (.inr hle) _) (.inr hle) _⟩
  have FT := Lib.hid ft
  have RZ : Hid (w2.cell? ⟨w.heap.size, 0, none⟩ = some (.int .i64 0) ∧ w2.cell? ⟨w.heap.size, 1, none⟩ = some (.int .i64 0) ∧ w2.cell? ⟨w.heap.size, 2, none⟩ = some (.int .i64 0)) := ⟨r0, r1, r2⟩
  clear ft r0 r1 r2 hR2 hgw2
  rcases (by omega : (s = 0 ∧ x = 0) ∨ (s = 0 ∧ 0 < x) ∨ (s ≠ 0 ∧ x = 0) ∨ (s ≠ 0 ∧ 0 < x)) with ⟨rfl, rfl⟩ | ⟨rfl, hx⟩ | ⟨hs, rfl⟩ | ⟨hs, hx⟩
  · go_wp2_with fail
    obtain ⟨W, v, hW, hv1, hv2, hd⟩ : ∃ (W : World) (v : Int), W = (w2.setCell ⟨w1.heap.size + 1, 0, none⟩ (.int .i64 (-1))).setCell ⟨w1.heap.size + 1, 0, none⟩ (.int .i64 0) ∧ -1 ≤ v ∧ v ≤ 1 ∧ (W = w2.setCell ⟨w1.heap.size + 1, 0, none⟩ (.int .i64 v) ∨ (W = w2 ∧ v = 1) ∨ W = (w2.setCell ⟨w1.heap.size + 1, 0, none⟩ (.int .i64 (-1))).setCell ⟨w1.heap.size + 1, 0, none⟩ (.int .i64 v)) := ⟨_, 0, rfl, by omega, by omega, .inr (.inr rfl)⟩
    obtain ⟨f0, f1, f2, f3, f4, f5, f6, f7⟩ := FT.out W v hd
    clear hd
    rw [← hW]
    have rz := RZ.out
    have r0 := f3 0 rz.1
    have r1 := f3 1 rz.2.1
    have r2 := f3 2 rz.2.2
    have g0 : ∀ o, W.frozen? ⟨w1.heap.size + 1, o, none⟩ = false := fun o => (f4 _ _).trans (ofz o)
    have g1 : ∀ o, W.frozen? ⟨w.heap.size, o, none⟩ = false := fun o => (f4 _ _).trans (rf o)
    clear hW f3 f4 FT RZ rz o0 o1 o2 ofz a0 rf
    refine (pk_any B g (q + 1) 40 _ f6 (by omega) (by omega) (by omega) (by omega)).mono ?_
    rintro e w3 ⟨z, rfl, z0, z1, hR3, hg3⟩
    obtain ⟨hc3, hf3⟩ := gcell hg3
    have hz3 : w1.heap.size + 1 < w3.heap.size := by have := hg3.size; omega
    have hz3' : w.heap.size < w3.heap.size := by omega
    have k0 := (hc3 (w1.heap.size + 1) 0 (by omega) jO).trans f0
    have k1 := (hc3 (w1.heap.size + 1) 1 (by omega) jO).trans f1
    have k2 := (hc3 (w1.heap.size + 1) 2 (by omega) jO).trans f2
    have s0 := (hc3 w.heap.size 0 (by omega) jR).trans r0
    have s1 := (hc3 w.heap.size 1 (by omega) jR).trans r1
    have s2 := (hc3 w.heap.size 2 (by omega) jR).trans r2
    have g2 : ∀ o, w3.frozen? ⟨w1.heap.size + 1, o, none⟩ = false := fun o => (hf3 _ _ (by omega) jO).trans (g0 o)
    have g3 : ∀ o, w3.frozen? ⟨w.heap.size, o, none⟩ = false := fun o => (hf3 _ _ (by omega) jR).trans (g1 o)
    have hgw3 := gtrans f7 hg3
    have hR3' : Rd B w3 g (q + 2) := by have := hR3; rw [show q + 1 + 1 = q + 2 from by omega] at this; exact this
    clear f0 f1 f2 f5 f6 f7 r0 r1 r2 g0 g1 hc3 hf3 hg3 W
    have u0 : ∀ (i j : Nat) (u : Value), w3.cell? ⟨w.heap.size, i, none⟩ = some (.int .i64 0) → (w3.setCell ⟨w1.heap.size + 1, j, none⟩ u).cell? ⟨w.heap.size, i, none⟩ = some (.int .i64 0) := fun i j u h => kset h (by omega)
    have u1 : ∀ (i : Nat) (u u' : Value), w3.cell? ⟨w.heap.size, i, none⟩ = some (.int .i64 0) → ((w3.setCell ⟨w1.heap.size + 1, 1, none⟩ u).setCell ⟨w1.heap.size + 1, 2, none⟩ u').cell? ⟨w.heap.size, i, none⟩ = some (.int .i64 0) := fun i u u' h => kset (kset h (by omega)) (by omega)
    have U0 := Lib.hid u0
    have U1 := Lib.hid u1
    have m1 : (w3.setCell ⟨w1.heap.size + 1, 1, none⟩ (.int .i64 (-1))).cell? ⟨w1.heap.size + 1, 1, none⟩ = some (.int .i64 (-1)) := World.cell?_setCell_same _ _ _ k1
    have m2 : ((w3.setCell ⟨w1.heap.size + 1, 1, none⟩ (.int .i64 (-1))).setCell ⟨w1.heap.size + 1, 2, none⟩ (.int .i64 2)).cell? ⟨w1.heap.size + 1, 2, none⟩ = some (.int .i64 2) := World.cell?_setCell_same _ _ _ ((World.cell?_setCell_other _ _ _ _ (by simp)).trans k2)
    clear u0 u1
    go_wp2
    · have u0 := U0.out
      have u1 := U1.out
      exact bodyPost_ret (v := .agg #[.int .i64 2, .int .i64 0, .int .i64 d]) (by simp [results, Try.results38, go_sem, two0 _ (u0 0 _ _ s0), three1 _ _ (u0 1 _ _ s1), three2 _ _ _ (u0 2 _ _ s2), two0 _ k0]) rfl ⟨2, 0, d, q + 2, rfl, by omega, by omega, by omega, by omega, by omega, ((((hR3'.set_other jO jB _ _).set_other jR hBw _ _).set_other jR hBw _ _).set_other jR hBw _ _), (gset (gset (gset (gset hgw3 (.inr hle) _) (.inr (Nat.le_refl _)) _) (.inr (Nat.le_refl _)) _) (.inr (Nat.le_refl _)) _)⟩
    · have u0 := U0.out
      have u1 := U1.out
      exact bodyPost_ret (v := .agg #[.int .i64 0, .int .i64 0, .int .i64 d]) (by simp [results, Try.results38, go_sem, two0 _ (u0 0 _ _ s0), three1 _ _ (u0 1 _ _ s1), three2 _ _ _ (u0 2 _ _ s2), two0 _ k0]) rfl ⟨0, 0, d, q + 2, rfl, by omega, by omega, by omega, by omega, by omega, ((((hR3'.set_other jO jB _ _).set_other jR hBw _ _).set_other jR hBw _ _).set_other jR hBw _ _), (gset (gset (gset (gset hgw3 (.inr hle) _) (.inr (Nat.le_refl _)) _) (.inr (Nat.le_refl _)) _) (.inr (Nat.le_refl _)) _)⟩
    · have u0 := U0.out
      have u1 := U1.out
      exact bodyPost_ret (v := .agg #[.int .i64 v, .int .i64 (-1), .int .i64 2]) (by simp [results, Try.results38, go_sem, two0 _ (u1 0 _ _ s0), three1 _ _ (u1 1 _ _ s1), three2 _ _ _ (u1 2 _ _ s2)]) rfl ⟨v, -1, 2, q + 2, rfl, by omega, by omega, by omega, by omega, by omega, (((((hR3'.set_other jO jB _ _).set_other jO jB _ _).set_other jR hBw _ _).set_other jR hBw _ _).set_other jR hBw _ _), (gset (gset (gset (gset (gset hgw3 (.inr hle) _) (.inr hle) _) (.inr (Nat.le_refl _)) _) (.inr (Nat.le_refl _)) _) (.inr (Nat.le_refl _)) _)⟩
    · have u0 := U0.out
      have u1 := U1.out
      exact bodyPost_ret (v := .agg #[.int .i64 v, .int .i64 0, .int .i64 d]) (by simp [results, Try.results38, go_sem, two0 _ s0, three1 _ _ s1, three2 _ _ _ s2]) rfl ⟨v, 0, d, q + 2, rfl, by omega, by omega, by omega, by omega, by omega, (((hR3'.set_other jR hBw _ _).set_other jR hBw _ _).set_other jR hBw _ _), (gset (gset (gset hgw3 (.inr (Nat.le_refl _)) _) (.inr (Nat.le_refl _)) _) (.inr (Nat.le_refl _)) _)⟩
  · have hx' : (x == 0) = false := by simp; omega
    go_wp2_with fail
    obtain ⟨W, v, hW, hv1, hv2, hd⟩ : ∃ (W : World) (v : Int), W = w2.setCell ⟨w1.heap.size + 1, 0, none⟩ (.int .i64 (-1)) ∧ -1 ≤ v ∧ v ≤ 1 ∧ (W = w2.setCell ⟨w1.heap.size + 1, 0, none⟩ (.int .i64 v) ∨ (W = w2 ∧ v = 1) ∨ W = (w2.setCell ⟨w1.heap.size + 1, 0, none⟩ (.int .i64 (-1))).setCell ⟨w1.heap.size + 1, 0, none⟩ (.int .i64 v)) := ⟨_, -1, rfl, by omega, by omega, .inl rfl⟩
    obtain ⟨f0, f1, f2, f3, f4, f5, f6, f7⟩ := FT.out W v hd
    clear hd
    rw [← hW]
    have rz := RZ.out
    have r0 := f3 0 rz.1
    have r1 := f3 1 rz.2.1
    have r2 := f3 2 rz.2.2
    have g0 : ∀ o, W.frozen? ⟨w1.heap.size + 1, o, none⟩ = false := fun o => (f4 _ _).trans (ofz o)
    have g1 : ∀ o, W.frozen? ⟨w.heap.size, o, none⟩ = false := fun o => (f4 _ _).trans (rf o)
    clear hW f3 f4 FT RZ rz o0 o1 o2 ofz a0 rf
    refine (pk_any B g (q + 1) 40 _ f6 (by omega) (by omega) (by omega) (by omega)).mono ?_
    rintro e w3 ⟨z, rfl, z0, z1, hR3, hg3⟩
    obtain ⟨hc3, hf3⟩ := gcell hg3
    have hz3 : w1.heap.size + 1 < w3.heap.size := by have := hg3.size; omega
    have hz3' : w.heap.size < w3.heap.size := by omega
    have k0 := (hc3 (w1.heap.size + 1) 0 (by omega) jO).trans f0
    have k1 := (hc3 (w1.heap.size + 1) 1 (by omega) jO).trans f1
    have k2 := (hc3 (w1.heap.size + 1) 2 (by omega) jO).trans f2
    have s0 := (hc3 w.heap.size 0 (by omega) jR).trans r0
    have s1 := (hc3 w.heap.size 1 (by omega) jR).trans r1
    have s2 := (hc3 w.heap.size 2 (by omega) jR).trans r2
    have g2 : ∀ o, w3.frozen? ⟨w1.heap.size + 1, o, none⟩ = false := fun o => (hf3 _ _ (by omega) jO).trans (g0 o)
    have g3 : ∀ o, w3.frozen? ⟨w.heap.size, o, none⟩ = false := fun o => (hf3 _ _ (by omega) jR).trans (g1 o)
    have hgw3 := gtrans f7 hg3
    have hR3' : Rd B w3 g (q + 2) := by have := hR3; rw [show q + 1 + 1 = q + 2 from by omega] at this; exact this
    clear f0 f1 f2 f5 f6 f7 r0 r1 r2 g0 g1 hc3 hf3 hg3 W
    have u0 : ∀ (i j : Nat) (u : Value), w3.cell? ⟨w.heap.size, i, none⟩ = some (.int .i64 0) → (w3.setCell ⟨w1.heap.size + 1, j, none⟩ u).cell? ⟨w.heap.size, i, none⟩ = some (.int .i64 0) := fun i j u h => kset h (by omega)
    have u1 : ∀ (i : Nat) (u u' : Value), w3.cell? ⟨w.heap.size, i, none⟩ = some (.int .i64 0) → ((w3.setCell ⟨w1.heap.size + 1, 1, none⟩ u).setCell ⟨w1.heap.size + 1, 2, none⟩ u').cell? ⟨w.heap.size, i, none⟩ = some (.int .i64 0) := fun i u u' h => kset (kset h (by omega)) (by omega)
    have U0 := Lib.hid u0
    have U1 := Lib.hid u1
    have m1 : (w3.setCell ⟨w1.heap.size + 1, 1, none⟩ (.int .i64 (-1))).cell? ⟨w1.heap.size + 1, 1, none⟩ = some (.int .i64 (-1)) := World.cell?_setCell_same _ _ _ k1
    have m2 : ((w3.setCell ⟨w1.heap.size + 1, 1, none⟩ (.int .i64 (-1))).setCell ⟨w1.heap.size + 1, 2, none⟩ (.int .i64 2)).cell? ⟨w1.heap.size + 1, 2, none⟩ = some (.int .i64 2) := World.cell?_setCell_same _ _ _ ((World.cell?_setCell_other _ _ _ _ (by simp)).trans k2)
    clear u0 u1
    go_wp2
    · have u0 := U0.out
      have u1 := U1.out
      exact bodyPost_ret (v := .agg #[.int .i64 2, .int .i64 x, .int .i64 d]) (by simp [results, Try.results38, go_sem, two0 _ (u0 0 _ _ s0), three1 _ _ (u0 1 _ _ s1), three2 _ _ _ (u0 2 _ _ s2), two0 _ k0]) rfl ⟨2, x, d, q + 2, rfl, by omega, by omega, by omega, by omega, by omega, ((((hR3'.set_other jO jB _ _).set_other jR hBw _ _).set_other jR hBw _ _).set_other jR hBw _ _), (gset (gset (gset (gset hgw3 (.inr hle) _) (.inr (Nat.le_refl _)) _) (.inr (Nat.le_refl _)) _) (.inr (Nat.le_refl _)) _)⟩
    · have u0 := U0.out
      have u1 := U1.out
      exact bodyPost_ret (v := .agg #[.int .i64 0, .int .i64 x, .int .i64 d]) (by simp [results, Try.results38, go_sem, two0 _ (u0 0 _ _ s0), three1 _ _ (u0 1 _ _ s1), three2 _ _ _ (u0 2 _ _ s2), two0 _ k0]) rfl ⟨0, x, d, q + 2, rfl, by omega, by omega, by omega, by omega, by omega, ((((hR3'.set_other jO jB _ _).set_other jR hBw _ _).set_other jR hBw _ _).set_other jR hBw _ _), (gset (gset (gset (gset hgw3 (.inr hle) _) (.inr (Nat.le_refl _)) _) (.inr (Nat.le_refl _)) _) (.inr (Nat.le_refl _)) _)⟩
    · have u0 := U0.out
      have u1 := U1.out
      exact bodyPost_ret (v := .agg #[.int .i64 v, .int .i64 (-1), .int .i64 2]) (by simp [results, Try.results38, go_sem, two0 _ (u1 0 _ _ s0), three1 _ _ (u1 1 _ _ s1), three2 _ _ _ (u1 2 _ _ s2)]) rfl ⟨v, -1, 2, q + 2, rfl, by omega, by omega, by omega, by omega, by omega, (((((hR3'.set_other jO jB _ _).set_other jO jB _ _).set_other jR hBw _ _).set_other jR hBw _ _).set_other jR hBw _ _), (gset (gset (gset (gset (gset hgw3 (.inr hle) _) (.inr hle) _) (.inr (Nat.le_refl _)) _) (.inr (Nat.le_refl _)) _) (.inr (Nat.le_refl _)) _)⟩
    · have u0 := U0.out
      have u1 := U1.out
      exact bodyPost_ret (v := .agg #[.int .i64 v, .int .i64 x, .int .i64 d]) (by simp [results, Try.results38, go_sem, two0 _ s0, three1 _ _ s1, three2 _ _ _ s2]) rfl ⟨v, x, d, q + 2, rfl, by omega, by omega, by omega, by omega, by omega, (((hR3'.set_other jR hBw _ _).set_other jR hBw _ _).set_other jR hBw _ _), (gset (gset (gset hgw3 (.inr (Nat.le_refl _)) _) (.inr (Nat.le_refl _)) _) (.inr (Nat.le_refl _)) _)⟩
  · have hs' : (s == 0) = false := by simpa using hs
    clear hs
    go_wp2_with fail
    obtain ⟨W, v, hW, hv1, hv2, hd⟩ : ∃ (W : World) (v : Int), W = w2.setCell ⟨w1.heap.size + 1, 0, none⟩ (.int .i64 0) ∧ -1 ≤ v ∧ v ≤ 1 ∧ (W = w2.setCell ⟨w1.heap.size + 1, 0, none⟩ (.int .i64 v) ∨ (W = w2 ∧ v = 1) ∨ W = (w2.setCell ⟨w1.heap.size + 1, 0, none⟩ (.int .i64 (-1))).setCell ⟨w1.heap.size + 1, 0, none⟩ (.int .i64 v)) := ⟨_, 0, rfl, by omega, by omega, .inl rfl⟩
    obtain ⟨f0, f1, f2, f3, f4, f5, f6, f7⟩ := FT.out W v hd
    clear hd
    rw [← hW]
    have rz := RZ.out
    have r0 := f3 0 rz.1
    have r1 := f3 1 rz.2.1
    have r2 := f3 2 rz.2.2
    have g0 : ∀ o, W.frozen? ⟨w1.heap.size + 1, o, none⟩ = false := fun o => (f4 _ _).trans (ofz o)
    have g1 : ∀ o, W.frozen? ⟨w.heap.size, o, none⟩ = false := fun o => (f4 _ _).trans (rf o)
    clear hW f3 f4 FT RZ rz o0 o1 o2 ofz a0 rf
    refine (pk_any B g (q + 1) 40 _ f6 (by omega) (by omega) (by omega) (by omega)).mono ?_
    rintro e w3 ⟨z, rfl, z0, z1, hR3, hg3⟩
    obtain ⟨hc3, hf3⟩ := gcell hg3
    have hz3 : w1.heap.size + 1 < w3.heap.size := by have := hg3.size; omega
    have hz3' : w.heap.size < w3.heap.size := by omega
    have k0 := (hc3 (w1.heap.size + 1) 0 (by omega) jO).trans f0
    have k1 := (hc3 (w1.heap.size + 1) 1 (by omega) jO).trans f1
    have k2 := (hc3 (w1.heap.size + 1) 2 (by omega) jO).trans f2
    have s0 := (hc3 w.heap.size 0 (by omega) jR).trans r0
    have s1 := (hc3 w.heap.size 1 (by omega) jR).trans r1
    have s2 := (hc3 w.heap.size 2 (by omega) jR).trans r2
    have g2 : ∀ o, w3.frozen? ⟨w1.heap.size + 1, o, none⟩ = false := fun o => (hf3 _ _ (by omega) jO).trans (g0 o)
    have g3 : ∀ o, w3.frozen? ⟨w.heap.size, o, none⟩ = false := fun o => (hf3 _ _ (by omega) jR).trans (g1 o)
    have hgw3 := gtrans f7 hg3
    have hR3' : Rd B w3 g (q + 2) := by have := hR3; rw [show q + 1 + 1 = q + 2 from by omega] at this; exact this
    clear f0 f1 f2 f5 f6 f7 r0 r1 r2 g0 g1 hc3 hf3 hg3 W
    have u0 : ∀ (i j : Nat) (u : Value), w3.cell? ⟨w.heap.size, i, none⟩ = some (.int .i64 0) → (w3.setCell ⟨w1.heap.size + 1, j, none⟩ u).cell? ⟨w.heap.size, i, none⟩ = some (.int .i64 0) := fun i j u h => kset h (by omega)
    have u1 : ∀ (i : Nat) (u u' : Value), w3.cell? ⟨w.heap.size, i, none⟩ = some (.int .i64 0) → ((w3.setCell ⟨w1.heap.size + 1, 1, none⟩ u).setCell ⟨w1.heap.size + 1, 2, none⟩ u').cell? ⟨w.heap.size, i, none⟩ = some (.int .i64 0) := fun i u u' h => kset (kset h (by omega)) (by omega)
    have U0 := Lib.hid u0
    have U1 := Lib.hid u1
    have m1 : (w3.setCell ⟨w1.heap.size + 1, 1, none⟩ (.int .i64 (-1))).cell? ⟨w1.heap.size + 1, 1, none⟩ = some (.int .i64 (-1)) := World.cell?_setCell_same _ _ _ k1
    have m2 : ((w3.setCell ⟨w1.heap.size + 1, 1, none⟩ (.int .i64 (-1))).setCell ⟨w1.heap.size + 1, 2, none⟩ (.int .i64 2)).cell? ⟨w1.heap.size + 1, 2, none⟩ = some (.int .i64 2) := World.cell?_setCell_same _ _ _ ((World.cell?_setCell_other _ _ _ _ (by simp)).trans k2)
    clear u0 u1
    go_wp2
    · have u0 := U0.out
      have u1 := U1.out
      exact bodyPost_ret (v := .agg #[.int .i64 2, .int .i64 0, .int .i64 d]) (by simp [results, Try.results38, go_sem, two0 _ (u0 0 _ _ s0), three1 _ _ (u0 1 _ _ s1), three2 _ _ _ (u0 2 _ _ s2), two0 _ k0]) rfl ⟨2, 0, d, q + 2, rfl, by omega, by omega, by omega, by omega, by omega, ((((hR3'.set_other jO jB _ _).set_other jR hBw _ _).set_other jR hBw _ _).set_other jR hBw _ _), (gset (gset (gset (gset hgw3 (.inr hle) _) (.inr (Nat.le_refl _)) _) (.inr (Nat.le_refl _)) _) (.inr (Nat.le_refl _)) _)⟩
    · have u0 := U0.out
      have u1 := U1.out
      exact bodyPost_ret (v := .agg #[.int .i64 0, .int .i64 0, .int .i64 d]) (by simp [results, Try.results38, go_sem, two0 _ (u0 0 _ _ s0), three1 _ _ (u0 1 _ _ s1), three2 _ _ _ (u0 2 _ _ s2), two0 _ k0]) rfl ⟨0, 0, d, q + 2, rfl, by omega, by omega, by omega, by omega, by omega, ((((hR3'.set_other jO jB _ _).set_other jR hBw _ _).set_other jR hBw _ _).set_other jR hBw _ _), (gset (gset (gset (gset hgw3 (.inr hle) _) (.inr (Nat.le_refl _)) _) (.inr (Nat.le_refl _)) _) (.inr (Nat.le_refl _)) _)⟩
    · have u0 := U0.out
      have u1 := U1.out
      exact bodyPost_ret (v := .agg #[.int .i64 v, .int .i64 (-1), .int .i64 2]) (by simp [results, Try.results38, go_sem, two0 _ (u1 0 _ _ s0), three1 _ _ (u1 1 _ _ s1), three2 _ _ _ (u1 2 _ _ s2)]) rfl ⟨v, -1, 2, q + 2, rfl, by omega, by omega, by omega, by omega, by omega, (((((hR3'.set_other jO jB _ _).set_other jO jB _ _).set_other jR hBw _ _).set_other jR hBw _ _).set_other jR hBw _ _), (gset (gset (gset (gset (gset hgw3 (.inr hle) _) (.inr hle) _) (.inr (Nat.le_refl _)) _) (.inr (Nat.le_refl _)) _) (.inr (Nat.le_refl _)) _)⟩
    · have u0 := U0.out
      have u1 := U1.out
      exact bodyPost_ret (v := .agg #[.int .i64 v, .int .i64 0, .int .i64 d]) (by simp [results, Try.results38, go_sem, two0 _ s0, three1 _ _ s1, three2 _ _ _ s2]) rfl ⟨v, 0, d, q + 2, rfl, by omega, by omega, by omega, by omega, by omega, (((hR3'.set_other jR hBw _ _).set_other jR hBw _ _).set_other jR hBw _ _), (gset (gset (gset hgw3 (.inr (Nat.le_refl _)) _) (.inr (Nat.le_refl _)) _) (.inr (Nat.le_refl _)) _)⟩
  · have hs' : (s == 0) = false := by simpa using hs
    clear hs
    have hx' : (x == 0) = false := by simp; omega
    go_wp2_with fail
    obtain ⟨W, v, hW, hv1, hv2, hd⟩ : ∃ (W : World) (v : Int), W = w2 ∧ -1 ≤ v ∧ v ≤ 1 ∧ (W = w2.setCell ⟨w1.heap.size + 1, 0, none⟩ (.int .i64 v) ∨ (W = w2 ∧ v = 1) ∨ W = (w2.setCell ⟨w1.heap.size + 1, 0, none⟩ (.int .i64 (-1))).setCell ⟨w1.heap.size + 1, 0, none⟩ (.int .i64 v)) := ⟨_, 1, rfl, by omega, by omega, .inr (.inl ⟨rfl, rfl⟩)⟩
    obtain ⟨f0, f1, f2, f3, f4, f5, f6, f7⟩ := FT.out W v hd
    clear hd
    rw [← hW]
    have rz := RZ.out
    have r0 := f3 0 rz.1
    have r1 := f3 1 rz.2.1
    have r2 := f3 2 rz.2.2
    have g0 : ∀ o, W.frozen? ⟨w1.heap.size + 1, o, none⟩ = false := fun o => (f4 _ _).trans (ofz o)
    have g1 : ∀ o, W.frozen? ⟨w.heap.size, o, none⟩ = false := fun o => (f4 _ _).trans (rf o)
    clear hW f3 f4 FT RZ rz o0 o1 o2 ofz a0 rf
    refine (pk_any B g (q + 1) 40 _ f6 (by omega) (by omega) (by omega) (by omega)).mono ?_
    rintro e w3 ⟨z, rfl, z0, z1, hR3, hg3⟩
    obtain ⟨hc3, hf3⟩ := gcell hg3
    have hz3 : w1.heap.size + 1 < w3.heap.size := by have := hg3.size; omega
    have hz3' : w.heap.size < w3.heap.size := by omega
    have k0 := (hc3 (w1.heap.size + 1) 0 (by omega) jO).trans f0
    have k1 := (hc3 (w1.heap.size + 1) 1 (by omega) jO).trans f1
    have k2 := (hc3 (w1.heap.size + 1) 2 (by omega) jO).trans f2
    have s0 := (hc3 w.heap.size 0 (by omega) jR).trans r0
    have s1 := (hc3 w.heap.size 1 (by omega) jR).trans r1
    have s2 := (hc3 w.heap.size 2 (by omega) jR).trans r2
    have g2 : ∀ o, w3.frozen? ⟨w1.heap.size + 1, o, none⟩ = false := fun o => (hf3 _ _ (by omega) jO).trans (g0 o)
    have g3 : ∀ o, w3.frozen? ⟨w.heap.size, o, none⟩ = false := fun o => (hf3 _ _ (by omega) jR).trans (g1 o)
    have hgw3 := gtrans f7 hg3
    have hR3' : Rd B w3 g (q + 2) := by have := hR3; rw [show q + 1 + 1 = q + 2 from by omega] at this; exact this
    clear f0 f1 f2 f5 f6 f7 r0 r1 r2 g0 g1 hc3 hf3 hg3 W
    have u0 : ∀ (i j : Nat) (u : Value), w3.cell? ⟨w.heap.size, i, none⟩ = some (.int .i64 0) → (w3.setCell ⟨w1.heap.size + 1, j, none⟩ u).cell? ⟨w.heap.size, i, none⟩ = some (.int .i64 0) := fun i j u h => kset h (by omega)
    have u1 : ∀ (i : Nat) (u u' : Value), w3.cell? ⟨w.heap.size, i, none⟩ = some (.int .i64 0) → ((w3.setCell ⟨w1.heap.size + 1, 1, none⟩ u).setCell ⟨w1.heap.size + 1, 2, none⟩ u').cell? ⟨w.heap.size, i, none⟩ = some (.int .i64 0) := fun i u u' h => kset (kset h (by omega)) (by omega)
    have U0 := Lib.hid u0
    have U1 := Lib.hid u1
    have m1 : (w3.setCell ⟨w1.heap.size + 1, 1, none⟩ (.int .i64 (-1))).cell? ⟨w1.heap.size + 1, 1, none⟩ = some (.int .i64 (-1)) := World.cell?_setCell_same _ _ _ k1
    have m2 : ((w3.setCell ⟨w1.heap.size + 1, 1, none⟩ (.int .i64 (-1))).setCell ⟨w1.heap.size + 1, 2, none⟩ (.int .i64 2)).cell? ⟨w1.heap.size + 1, 2, none⟩ = some (.int .i64 2) := World.cell?_setCell_same _ _ _ ((World.cell?_setCell_other _ _ _ _ (by simp)).trans k2)
    clear u0 u1
    go_wp2
    · have u0 := U0.out
      have u1 := U1.out
      exact bodyPost_ret (v := .agg #[.int .i64 2, .int .i64 x, .int .i64 d]) (by simp [results, Try.results38, go_sem, two0 _ (u0 0 _ _ s0), three1 _ _ (u0 1 _ _ s1), three2 _ _ _ (u0 2 _ _ s2), two0 _ k0]) rfl ⟨2, x, d, q + 2, rfl, by omega, by omega, by omega, by omega, by omega, ((((hR3'.set_other jO jB _ _).set_other jR hBw _ _).set_other jR hBw _ _).set_other jR hBw _ _), (gset (gset (gset (gset hgw3 (.inr hle) _) (.inr (Nat.le_refl _)) _) (.inr (Nat.le_refl _)) _) (.inr (Nat.le_refl _)) _)⟩
    · have u0 := U0.out
      have u1 := U1.out
      exact bodyPost_ret (v := .agg #[.int .i64 0, .int .i64 x, .int .i64 d]) (by simp [results, Try.results38, go_sem, two0 _ (u0 0 _ _ s0), three1 _ _ (u0 1 _ _ s1), three2 _ _ _ (u0 2 _ _ s2), two0 _ k0]) rfl ⟨0, x, d, q + 2, rfl, by omega, by omega, by omega, by omega, by omega, ((((hR3'.set_other jO jB _ _).set_other jR hBw _ _).set_other jR hBw _ _).set_other jR hBw _ _), (gset (gset (gset (gset hgw3 (.inr hle) _) (.inr (Nat.le_refl _)) _) (.inr (Nat.le_refl _)) _) (.inr (Nat.le_refl _)) _)⟩
    · have u0 := U0.out
      have u1 := U1.out
      exact bodyPost_ret (v := .agg #[.int .i64 v, .int .i64 (-1), .int .i64 2]) (by simp [results, Try.results38, go_sem, two0 _ (u1 0 _ _ s0), three1 _ _ (u1 1 _ _ s1), three2 _ _ _ (u1 2 _ _ s2)]) rfl ⟨v, -1, 2, q + 2, rfl, by omega, by omega, by omega, by omega, by omega, (((((hR3'.set_other jO jB _ _).set_other jO jB _ _).set_other jR hBw _ _).set_other jR hBw _ _).set_other jR hBw _ _), (gset (gset (gset (gset (gset hgw3 (.inr hle) _) (.inr hle) _) (.inr (Nat.le_refl _)) _) (.inr (Nat.le_refl _)) _) (.inr (Nat.le_refl _)) _)⟩
    · have u0 := U0.out
      have u1 := U1.out
      exact bodyPost_ret (v := .agg #[.int .i64 v, .int .i64 x, .int .i64 d]) (by simp [results, Try.results38, go_sem, two0 _ s0, three1 _ _ s1, three2 _ _ _ s2]) rfl ⟨v, x, d, q + 2, rfl, by omega, by omega, by omega, by omega, by omega, (((hR3'.set_other jR hBw _ _).set_other jR hBw _ _).set_other jR hBw _ _), (gset (gset (gset hgw3 (.inr (Nat.le_refl _)) _) (.inr (Nat.le_refl _)) _) (.inr (Nat.le_refl _)) _)⟩
end Go.Proofs.Ytecoekenkjgijaa
