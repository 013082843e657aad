/-
  Products of roots and roots of numbers, program and reference alike.
-/
import Derived.Test.YtecoekenkjgijaaHeld
import Derived.Test.YtecoekenkjgijaaRootSide
import Derived.Deep.RegionWith
import Derived.Deep.CutRange
namespace Go.Proofs.Ytecoekenkjgijaa
open Go.RowKit
set_option linter.unusedSimpArgs false
set_option linter.unusedVariables false
attribute [local go_sem ↓] Go.wp_at_zero Go.wp_at_succ

set_option maxHeartbeats 1000000 in
theorem impl_rmul (s n d s' n' d' : Int) (w : World) : Calls Try.prog 19 #[.agg #[.int .i64 s, .int .i64 n, .int .i64 d], .agg #[.int .i64 s', .int .i64 n', .int .i64 d']] w (RO w (mulO s n d s' n' d')) := by
  rcases h1 : rootB s n d with _ | _
  · rw [mulO_no (by simp [h1])]
    show Calls _ _ _ _ (RO1 w 0 0 0 false)
    go_enter Try.func19, Try.ntmps19
    go_wp2_with fail
    refine (impl_rvalid s n d _).mono ?_
    rintro e w1 ⟨rfl, hb1⟩
    obtain ⟨hc1, hf1⟩ := bcell hb1
    have hz1 : w.heap.size + 2 < w1.heap.size := by have := hb1.size; simp at this; omega
    have zw10 : w.heap.size < w1.heap.size := by omega
    have zw11 : w.heap.size + 1 < w1.heap.size := by omega
    have zw12 : w.heap.size + 2 < w1.heap.size := by omega
    have c0 : w1.cell? ⟨w.heap.size + 2, 0, none⟩ = some (.int .i64 0) := by rw [hc1 _ _ (by simp)]; go_simp
    have c1 : w1.cell? ⟨w.heap.size + 2, 1, none⟩ = some (.int .i64 0) := by rw [hc1 _ _ (by simp)]; go_simp
    have c2 : w1.cell? ⟨w.heap.size + 2, 2, none⟩ = some (.int .i64 0) := by rw [hc1 _ _ (by simp)]; go_simp
    have hl1 : Below w.heap.size w w1 := ((((Below.refl _ _).alloc (Nat.le_refl _) _).alloc (by simp) _).alloc (by simp; omega) _).trans (hb1.mono (by simp; omega))
    go_wp2
    exact bodyPost_ret (v := .tuple #[.agg #[.int .i64 0, .int .i64 0, .int .i64 0], .bool false]) (by simp [results, Try.results19, go_sem, two0 _ c0, three1 _ _ c1, three2 _ _ _ c2]) rfl ⟨rfl, bset3 hl1 (by omega)⟩
  · rcases h2 : rootB s' n' d' with _ | _
    · rw [mulO_no (by simp [h2])]
      show Calls _ _ _ _ (RO1 w 0 0 0 false)
      go_enter Try.func19, Try.ntmps19
      go_wp2_with fail
      refine (impl_rvalid s n d _).mono ?_
      rintro e w1 ⟨rfl, hb1⟩
      obtain ⟨hc1, hf1⟩ := bcell hb1
      have hz1 : w.heap.size + 2 < w1.heap.size := by have := hb1.size; simp at this; omega
      have zw10 : w.heap.size < w1.heap.size := by omega
      have zw11 : w.heap.size + 1 < w1.heap.size := by omega
      have zw12 : w.heap.size + 2 < w1.heap.size := by omega
      have c0 : w1.cell? ⟨w.heap.size + 2, 0, none⟩ = some (.int .i64 0) := by rw [hc1 _ _ (by simp)]; go_simp
      have c1 : w1.cell? ⟨w.heap.size + 2, 1, none⟩ = some (.int .i64 0) := by rw [hc1 _ _ (by simp)]; go_simp
      have c2 : w1.cell? ⟨w.heap.size + 2, 2, none⟩ = some (.int .i64 0) := by rw [hc1 _ _ (by simp)]; go_simp
      have hl1 : Below w.heap.size w w1 := ((((Below.refl _ _).alloc (Nat.le_refl _) _).alloc (by simp) _).alloc (by simp; omega) _).trans (hb1.mono (by simp; omega))
      go_wp2_with fail
      refine (impl_rvalid s' n' d' _).mono ?_
      rintro e w2 ⟨rfl, hb2⟩
      obtain ⟨hc2, hf2⟩ := bcell hb2
      have hz2 : w.heap.size + 2 < w2.heap.size := by have := hb2.size; omega
      have zw20 : w.heap.size < w2.heap.size := by omega
      have zw21 : w.heap.size + 1 < w2.heap.size := by omega
      have zw22 : w.heap.size + 2 < w2.heap.size := by omega
      have c0 := keep0 hb2 c0
      have c1 := keep0 hb2 c1
      have c2 := keep0 hb2 c2
      have hl2 := hl1.trans (hb2.mono hl1.size)
      go_wp2
      exact bodyPost_ret (v := .tuple #[.agg #[.int .i64 0, .int .i64 0, .int .i64 0], .bool false]) (by simp [results, Try.results19, go_sem, two0 _ c0, three1 _ _ c1, three2 _ _ _ c2]) rfl ⟨rfl, bset3 hl2 (by omega)⟩
    · rw [mulO_yes h1 h2]
      obtain ⟨p1, p2⟩ := sign_prod h1 h2
      have HM : Hid (∀ W, Calls Try.prog 28 #[.agg #[.int .i64 n, .int .i64 d], .agg #[.int .i64 n', .int .i64 d']] W (Res W (mulR n d n' d'))) := fun W => impl_mul n d n' d' W
      generalize mulR n d n' d' = o at *
      rcases o with _ | ⟨x, y⟩
      · show Calls _ _ _ _ (RO1 w 0 0 0 false)
        go_enter Try.func19, Try.ntmps19
        go_wp2_with fail
        refine (impl_rvalid s n d _).mono ?_
        rintro e w1 ⟨rfl, hb1⟩
        obtain ⟨hc1, hf1⟩ := bcell hb1
        have hz1 : w.heap.size + 2 < w1.heap.size := by have := hb1.size; simp at this; omega
        have zw10 : w.heap.size < w1.heap.size := by omega
        have zw11 : w.heap.size + 1 < w1.heap.size := by omega
        have zw12 : w.heap.size + 2 < w1.heap.size := by omega
        have c0 : w1.cell? ⟨w.heap.size + 2, 0, none⟩ = some (.int .i64 0) := by rw [hc1 _ _ (by simp)]; go_simp
        have c1 : w1.cell? ⟨w.heap.size + 2, 1, none⟩ = some (.int .i64 0) := by rw [hc1 _ _ (by simp)]; go_simp
        have c2 : w1.cell? ⟨w.heap.size + 2, 2, none⟩ = some (.int .i64 0) := by rw [hc1 _ _ (by simp)]; go_simp
        have hl1 : Below w.heap.size w w1 := ((((Below.refl _ _).alloc (Nat.le_refl _) _).alloc (by simp) _).alloc (by simp; omega) _).trans (hb1.mono (by simp; omega))
        go_wp2_with fail
        refine (impl_rvalid s' n' d' _).mono ?_
        rintro e w2 ⟨rfl, hb2⟩
        obtain ⟨hc2, hf2⟩ := bcell hb2
        have hz2 : w.heap.size + 2 < w2.heap.size := by have := hb2.size; omega
        have zw20 : w.heap.size < w2.heap.size := by omega
        have zw21 : w.heap.size + 1 < w2.heap.size := by omega
        have zw22 : w.heap.size + 2 < w2.heap.size := by omega
        have c0 := keep0 hb2 c0
        have c1 := keep0 hb2 c1
        have c2 := keep0 hb2 c2
        have hl2 := hl1.trans (hb2.mono hl1.size)
        go_wp2_with fail
        refine (HM.out _).mono ?_
        rintro e w3 ⟨rfl, hb3⟩
        obtain ⟨hc3, hf3⟩ := bcell hb3
        have hz3 : w.heap.size + 2 < w3.heap.size := by have := hb3.size; omega
        have zw30 : w.heap.size < w3.heap.size := by omega
        have zw31 : w.heap.size + 1 < w3.heap.size := by omega
        have zw32 : w.heap.size + 2 < w3.heap.size := by omega
        have c0 := keep0 hb3 c0
        have c1 := keep0 hb3 c1
        have c2 := keep0 hb3 c2
        have hl3 := hl2.trans (hb3.mono hl2.size)
        go_wp2
        obtain ⟨g0, g1, g2⟩ := threeA (.int .i64 0) (.int .i64 0) (.int .i64 0) (.cells #[.int .i64 0, .int .i64 0] 27) c0 c1 c2
        exact bodyPost_ret (v := .tuple #[.agg #[.int .i64 0, .int .i64 0, .int .i64 0], .bool false]) (by simp [results, Try.results19, go_sem, g0, g1, g2]) rfl ⟨rfl, (bset3 hl3 (by omega)).alloc (by have := hl3.size; simpa [World.setCell] using this) _⟩
      · show Calls _ _ _ _ (RO1 w (s * s') x y true)
        go_enter Try.func19, Try.ntmps19
        go_wp2_with fail
        refine (impl_rvalid s n d _).mono ?_
        rintro e w1 ⟨rfl, hb1⟩
        obtain ⟨hc1, hf1⟩ := bcell hb1
        have hz1 : w.heap.size + 2 < w1.heap.size := by have := hb1.size; simp at this; omega
        have zw10 : w.heap.size < w1.heap.size := by omega
        have zw11 : w.heap.size + 1 < w1.heap.size := by omega
        have zw12 : w.heap.size + 2 < w1.heap.size := by omega
        have c0 : w1.cell? ⟨w.heap.size + 2, 0, none⟩ = some (.int .i64 0) := by rw [hc1 _ _ (by simp)]; go_simp
        have c1 : w1.cell? ⟨w.heap.size + 2, 1, none⟩ = some (.int .i64 0) := by rw [hc1 _ _ (by simp)]; go_simp
        have c2 : w1.cell? ⟨w.heap.size + 2, 2, none⟩ = some (.int .i64 0) := by rw [hc1 _ _ (by simp)]; go_simp
        have hl1 : Below w.heap.size w w1 := ((((Below.refl _ _).alloc (Nat.le_refl _) _).alloc (by simp) _).alloc (by simp; omega) _).trans (hb1.mono (by simp; omega))
        go_wp2_with fail
        refine (impl_rvalid s' n' d' _).mono ?_
        rintro e w2 ⟨rfl, hb2⟩
        obtain ⟨hc2, hf2⟩ := bcell hb2
        have hz2 : w.heap.size + 2 < w2.heap.size := by have := hb2.size; omega
        have zw20 : w.heap.size < w2.heap.size := by omega
        have zw21 : w.heap.size + 1 < w2.heap.size := by omega
        have zw22 : w.heap.size + 2 < w2.heap.size := by omega
        have c0 := keep0 hb2 c0
        have c1 := keep0 hb2 c1
        have c2 := keep0 hb2 c2
        have hl2 := hl1.trans (hb2.mono hl1.size)
        go_wp2_with fail
        refine (HM.out _).mono ?_
        rintro e w3 ⟨rfl, hb3⟩
        obtain ⟨hc3, hf3⟩ := bcell hb3
        have hz3 : w.heap.size + 2 < w3.heap.size := by have := hb3.size; omega
        have zw30 : w.heap.size < w3.heap.size := by omega
        have zw31 : w.heap.size + 1 < w3.heap.size := by omega
        have zw32 : w.heap.size + 2 < w3.heap.size := by omega
        have c0 := keep0 hb3 c0
        have c1 := keep0 hb3 c1
        have c2 := keep0 hb3 c2
        have hl3 := hl2.trans (hb3.mono hl2.size)
        go_wp2
        obtain ⟨g0, g1, g2⟩ := threeA (.int .i64 (s * s')) (.int .i64 x) (.int .i64 y) (.cells #[.int .i64 x, .int .i64 y] 27) c0 c1 c2
        exact bodyPost_ret (v := .tuple #[.agg #[.int .i64 (s * s'), .int .i64 x, .int .i64 y], .bool true]) (by simp [results, Try.results19, go_sem, g0, g1, g2]) rfl ⟨rfl, (bset3 hl3 (by omega)).alloc (by have := hl3.size; simpa [World.setCell] using this) _⟩
end Go.Proofs.Ytecoekenkjgijaa
