/-
  Products of roots and roots of numbers, program and reference alike.
-/
import Derived.Test.YtecoekenkjgijaaHeld
import Derived.Test.YtecoekenkjgijaaRootSide
import Derived.Deep.RegionWith
import Derived.Deep.CutRange
namespace Go.Proofs.Ytecoekenkjgijaa
open Go.RowKit
set_option linter.unusedSimpArgs false
set_option linter.unusedVariables false
attribute [local go_sem ↓] Go.wp_at_zero Go.wp_at_succ

set_option maxHeartbeats 2000000 in
theorem impl_rof (n num den : Int) (w : World) : Calls Try.prog 21 #[.int .i64 n, .int .i64 num, .int .i64 den] w (RO w (rootR n num den)) := by
  by_cases hb : (-1000000000 ≤ n ∧ n ≤ 1000000000) ∧ (1 ≤ num ∧ num ≤ 4000000000000000000) ∧ (1 ≤ den ∧ den ≤ 4000000000000000000)
  · obtain ⟨⟨n1, n2⟩, ⟨m1, m2⟩, ⟨d1, d2⟩⟩ := hb
    by_cases hn : n = 0
    · subst hn
      rw [rootR_yes ⟨⟨by omega, by omega⟩, ⟨m1, m2⟩, ⟨d1, d2⟩, .inl rfl⟩, show (0 : Int) * 0 * num = 0 from by simp, show sgn 0 = 0 from rfl]
      have HM : Hid (∀ W, Calls Try.prog 26 #[.int .i64 0, .int .i64 den] W (Res W (ofR 0 den))) := fun W => impl_of 0 den W
      generalize ofR 0 den = o at *
      rcases o with _ | ⟨x, y⟩
      · show Calls _ _ _ _ (RO1 w 0 0 0 false)
        go_enter Try.func21, Try.ntmps21
        go_wp2_with fail
        refine (HM.out _).mono ?_
        rintro e w1 ⟨rfl, hb1⟩
        obtain ⟨hc1, hf1⟩ := bcell hb1
        have hz1 : w.heap.size < w1.heap.size := by have := hb1.size; simp at this; omega
        have c0 : w1.cell? ⟨w.heap.size, 0, none⟩ = some (.int .i64 0) := by rw [hc1 _ _ (by simp)]; go_simp
        have c1 : w1.cell? ⟨w.heap.size, 1, none⟩ = some (.int .i64 0) := by rw [hc1 _ _ (by simp)]; go_simp
        have c2 : w1.cell? ⟨w.heap.size, 2, none⟩ = some (.int .i64 0) := by rw [hc1 _ _ (by simp)]; go_simp
        have f0 : ∀ o, w1.frozen? ⟨w.heap.size, o, none⟩ = false := fun o => by rw [hf1 _ _ (by simp)]; go_simp
        have hl1 : Below w.heap.size w w1 := ((Below.refl _ _).alloc (Nat.le_refl _) _).trans (hb1.mono (by simp))
        go_wp2
        obtain ⟨g0, g1, g2⟩ := threeA (.int .i64 0) (.int .i64 0) (.int .i64 0) (.cells #[.int .i64 0, .int .i64 0] 27) c0 c1 c2
        exact bodyPost_ret (v := .tuple #[.agg #[.int .i64 0, .int .i64 0, .int .i64 0], .bool false]) (by simp [results, Try.results21, go_sem, g0, g1, g2]) rfl ⟨rfl, (bset3 hl1 (Nat.le_refl _)).alloc (by have := hl1.size; simpa [World.setCell] using this) _⟩
      · show Calls _ _ _ _ (RO1 w 0 x y true)
        go_enter Try.func21, Try.ntmps21
        go_wp2_with fail
        refine (HM.out _).mono ?_
        rintro e w1 ⟨rfl, hb1⟩
        obtain ⟨hc1, hf1⟩ := bcell hb1
        have hz1 : w.heap.size < w1.heap.size := by have := hb1.size; simp at this; omega
        have c0 : w1.cell? ⟨w.heap.size, 0, none⟩ = some (.int .i64 0) := by rw [hc1 _ _ (by simp)]; go_simp
        have c1 : w1.cell? ⟨w.heap.size, 1, none⟩ = some (.int .i64 0) := by rw [hc1 _ _ (by simp)]; go_simp
        have c2 : w1.cell? ⟨w.heap.size, 2, none⟩ = some (.int .i64 0) := by rw [hc1 _ _ (by simp)]; go_simp
        have f0 : ∀ o, w1.frozen? ⟨w.heap.size, o, none⟩ = false := fun o => by rw [hf1 _ _ (by simp)]; go_simp
        have hl1 : Below w.heap.size w w1 := ((Below.refl _ _).alloc (Nat.le_refl _) _).trans (hb1.mono (by simp))
        go_wp2_with fail
        go_region_with (go_at_call 37; refine (impl_sign _ 0 _ (by omega)).mono ?_; rintro e w' ⟨rfl, rfl⟩)
        all_goals
          go_wp2
          obtain ⟨g0, g1, g2⟩ := threeA (.int .i64 0) (.int .i64 x) (.int .i64 y) (.cells #[.int .i64 x, .int .i64 y] 27) c0 c1 c2
          exact bodyPost_ret (v := .tuple #[.agg #[.int .i64 0, .int .i64 x, .int .i64 y], .bool true]) (by simp [results, Try.results21, go_sem, g0, g1, g2]) rfl ⟨rfl, by first | exact ((bset3 hl1 (Nat.le_refl _)).alloc (by have := hl1.size; simpa [World.setCell] using this) _) | exact ((bset3 hl1 (Nat.le_refl _)).alloc (by have := hl1.size; simpa [World.setCell] using this) _).drew⟩
    · obtain ⟨q, hq⟩ : ∃ q : Int, 4000000000000000000 / (n * n) = q := ⟨_, rfl⟩
      obtain ⟨s0, s1⟩ := sq_le ⟨n1, n2⟩
      have sp := sq_pos hn
      have q1 : (4000000000000000000 : Int).tdiv (n * n) = q := by rw [Int.tdiv_eq_ediv_of_nonneg (by omega)]; exact hq
      have q2 : 0 ≤ q := by rw [← hq]; exact Int.ediv_nonneg (by omega) (by omega)
      have q3 : q ≤ 4000000000000000000 := by rw [← hq]; exact Int.ediv_le_self _ (by omega)
      have hn' : (n != 0) = true := by simpa using hn
      have sp' : (n * n == 0) = false := by simp; omega
      by_cases hnum : q < num
      · rw [rootR_no (fun h => by have := h.2.2.2; omega)]
        show Calls _ _ _ _ (RO1 w 0 0 0 false)
        go_enter Try.func21, Try.ntmps21
        go_wp2_with fail
        exact bodyPost_ret (v := .tuple #[.agg #[.int .i64 0, .int .i64 0, .int .i64 0], .bool false]) (by simp [results, Try.results21, go_sem]) rfl ⟨rfl, (Below.refl _ _).alloc (Nat.le_refl _) _⟩
      · have hnum : num ≤ q := by omega
        obtain ⟨u1, u2⟩ := sq_num ⟨n1, n2⟩ m1 (.inr (by omega))
        rw [rootR_yes ⟨⟨by omega, by omega⟩, ⟨m1, m2⟩, ⟨d1, d2⟩, .inr (by omega)⟩]
        have HM : Hid (∀ W, Calls Try.prog 26 #[.int .i64 (n * n * num), .int .i64 den] W (Res W (ofR (n * n * num) den))) := fun W => impl_of (n * n * num) den W
        generalize ofR (n * n * num) den = o at *
        rcases o with _ | ⟨x, y⟩
        · show Calls _ _ _ _ (RO1 w 0 0 0 false)
          go_enter Try.func21, Try.ntmps21
          go_wp2_with fail
          refine (HM.out _).mono ?_
          rintro e w1 ⟨rfl, hb1⟩
          obtain ⟨hc1, hf1⟩ := bcell hb1
          have hz1 : w.heap.size < w1.heap.size := by have := hb1.size; simp at this; omega
          have c0 : w1.cell? ⟨w.heap.size, 0, none⟩ = some (.int .i64 0) := by rw [hc1 _ _ (by simp)]; go_simp
          have c1 : w1.cell? ⟨w.heap.size, 1, none⟩ = some (.int .i64 0) := by rw [hc1 _ _ (by simp)]; go_simp
          have c2 : w1.cell? ⟨w.heap.size, 2, none⟩ = some (.int .i64 0) := by rw [hc1 _ _ (by simp)]; go_simp
          have f0 : ∀ o, w1.frozen? ⟨w.heap.size, o, none⟩ = false := fun o => by rw [hf1 _ _ (by simp)]; go_simp
          have hl1 : Below w.heap.size w w1 := ((Below.refl _ _).alloc (Nat.le_refl _) _).trans (hb1.mono (by simp))
          go_wp2
          obtain ⟨g0, g1, g2⟩ := threeA (.int .i64 0) (.int .i64 0) (.int .i64 0) (.cells #[.int .i64 0, .int .i64 0] 27) c0 c1 c2
          exact bodyPost_ret (v := .tuple #[.agg #[.int .i64 0, .int .i64 0, .int .i64 0], .bool false]) (by simp [results, Try.results21, go_sem, g0, g1, g2]) rfl ⟨rfl, (bset3 hl1 (Nat.le_refl _)).alloc (by have := hl1.size; simpa [World.setCell] using this) _⟩
        · rcases (by omega : n < 0 ∨ 0 < n) with hs | hs
          · rw [show sgn n = (-1) from by unfold sgn; rw [if_pos hs]]
            show Calls _ _ _ _ (RO1 w (-1) x y true)
            go_enter Try.func21, Try.ntmps21
            go_wp2_with fail
            refine (HM.out _).mono ?_
            rintro e w1 ⟨rfl, hb1⟩
            obtain ⟨hc1, hf1⟩ := bcell hb1
            have hz1 : w.heap.size < w1.heap.size := by have := hb1.size; simp at this; omega
            have c0 : w1.cell? ⟨w.heap.size, 0, none⟩ = some (.int .i64 0) := by rw [hc1 _ _ (by simp)]; go_simp
            have c1 : w1.cell? ⟨w.heap.size, 1, none⟩ = some (.int .i64 0) := by rw [hc1 _ _ (by simp)]; go_simp
            have c2 : w1.cell? ⟨w.heap.size, 2, none⟩ = some (.int .i64 0) := by rw [hc1 _ _ (by simp)]; go_simp
            have f0 : ∀ o, w1.frozen? ⟨w.heap.size, o, none⟩ = false := fun o => by rw [hf1 _ _ (by simp)]; go_simp
            have hl1 : Below w.heap.size w w1 := ((Below.refl _ _).alloc (Nat.le_refl _) _).trans (hb1.mono (by simp))
            go_wp2_with fail
            go_region_with (go_at_call 37; refine (impl_sign _ (-1) _ (by omega)).mono ?_; rintro e w' ⟨rfl, rfl⟩)
            all_goals
              go_wp2
              obtain ⟨g0, g1, g2⟩ := threeA (.int .i64 (-1)) (.int .i64 x) (.int .i64 y) (.cells #[.int .i64 x, .int .i64 y] 27) c0 c1 c2
              exact bodyPost_ret (v := .tuple #[.agg #[.int .i64 (-1), .int .i64 x, .int .i64 y], .bool true]) (by simp [results, Try.results21, go_sem, g0, g1, g2]) rfl ⟨rfl, by first | exact ((bset3 hl1 (Nat.le_refl _)).alloc (by have := hl1.size; simpa [World.setCell] using this) _) | exact ((bset3 hl1 (Nat.le_refl _)).alloc (by have := hl1.size; simpa [World.setCell] using this) _).drew⟩
          · rw [show sgn n = 1 from by unfold sgn; rw [if_neg (by omega), if_pos hs]]
            show Calls _ _ _ _ (RO1 w 1 x y true)
            go_enter Try.func21, Try.ntmps21
            go_wp2_with fail
            refine (HM.out _).mono ?_
            rintro e w1 ⟨rfl, hb1⟩
            obtain ⟨hc1, hf1⟩ := bcell hb1
            have hz1 : w.heap.size < w1.heap.size := by have := hb1.size; simp at this; omega
            have c0 : w1.cell? ⟨w.heap.size, 0, none⟩ = some (.int .i64 0) := by rw [hc1 _ _ (by simp)]; go_simp
            have c1 : w1.cell? ⟨w.heap.size, 1, none⟩ = some (.int .i64 0) := by rw [hc1 _ _ (by simp)]; go_simp
            have c2 : w1.cell? ⟨w.heap.size, 2, none⟩ = some (.int .i64 0) := by rw [hc1 _ _ (by simp)]; go_simp
            have f0 : ∀ o, w1.frozen? ⟨w.heap.size, o, none⟩ = false := fun o => by rw [hf1 _ _ (by simp)]; go_simp
            have hl1 : Below w.heap.size w w1 := ((Below.refl _ _).alloc (Nat.le_refl _) _).trans (hb1.mono (by simp))
            go_wp2_with fail
            go_region_with (go_at_call 37; refine (impl_sign _ 1 _ (by omega)).mono ?_; rintro e w' ⟨rfl, rfl⟩)
            all_goals
              go_wp2
              obtain ⟨g0, g1, g2⟩ := threeA (.int .i64 1) (.int .i64 x) (.int .i64 y) (.cells #[.int .i64 x, .int .i64 y] 27) c0 c1 c2
              exact bodyPost_ret (v := .tuple #[.agg #[.int .i64 1, .int .i64 x, .int .i64 y], .bool true]) (by simp [results, Try.results21, go_sem, g0, g1, g2]) rfl ⟨rfl, by first | exact ((bset3 hl1 (Nat.le_refl _)).alloc (by have := hl1.size; simpa [World.setCell] using this) _) | exact ((bset3 hl1 (Nat.le_refl _)).alloc (by have := hl1.size; simpa [World.setCell] using this) _).drew⟩
  · rw [rootR_no (fun h => hb ⟨h.1, h.2.1, h.2.2.1⟩)]
    show Calls _ _ _ _ (RO1 w 0 0 0 false)
    rcases (by omega : n < -1000000000 ∨ (-1000000000 ≤ n ∧ 1000000000 < n) ∨ ((-1000000000 ≤ n ∧ n ≤ 1000000000) ∧ num < 1) ∨ ((-1000000000 ≤ n ∧ n ≤ 1000000000) ∧ 1 ≤ num ∧ 4000000000000000000 < num) ∨ ((-1000000000 ≤ n ∧ n ≤ 1000000000) ∧ 1 ≤ num ∧ num ≤ 4000000000000000000 ∧ den < 1) ∨ ((-1000000000 ≤ n ∧ n ≤ 1000000000) ∧ 1 ≤ num ∧ num ≤ 4000000000000000000 ∧ 1 ≤ den ∧ 4000000000000000000 < den)) with h | ⟨h1, h⟩ | ⟨⟨h1, h2⟩, h⟩ | ⟨⟨h1, h2⟩, h3, h⟩ | ⟨⟨h1, h2⟩, h3, h4, h⟩ | ⟨⟨h1, h2⟩, h3, h4, h5, h⟩
    all_goals
      clear hb
      go_enter Try.func21, Try.ntmps21
      go_wp2
      exact bodyPost_ret (v := .tuple #[.agg #[.int .i64 0, .int .i64 0, .int .i64 0], .bool false]) (by simp [results, Try.results21, go_sem]) rfl ⟨rfl, (Below.refl _ _).alloc (Nat.le_refl _) _⟩
end Go.Proofs.Ytecoekenkjgijaa
