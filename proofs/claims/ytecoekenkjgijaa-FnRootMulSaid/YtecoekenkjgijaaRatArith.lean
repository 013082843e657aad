/-
  Sums, differences, products, quotients and the order of rationals, program and reference alike.
-/
import Derived.Test.YtecoekenkjgijaaRatOps
import Derived.Deep.RegionWith
namespace Go.Proofs.Ytecoekenkjgijaa
open Go.RowKit
set_option linter.unusedSimpArgs false
set_option linter.unusedVariables false

theorem ratB_bd {n d : Int} (h : ratB n d = true) : 1 ≤ d ∧ d ≤ 1000000000 ∧ -1000000000 ≤ n ∧ n ≤ 1000000000 := by
  obtain ⟨h1, h2, h3, h4, _⟩ := (ratB_iff n d).1 h
  exact ⟨h1, h2, h3, h4⟩
theorem prod_in {a b : Int} (ha : -1000000000 ≤ a ∧ a ≤ 1000000000) (hb : -1000000000 ≤ b ∧ b ≤ 1000000000) : -1000000000000000000 ≤ a * b ∧ a * b ≤ 1000000000000000000 := by
  have h := Int.natAbs_mul a b
  have h2 : a.natAbs * b.natAbs ≤ 1000000000 * 1000000000 := Nat.mul_le_mul (by omega) (by omega)
  omega
theorem addR_no {an ad bn bd : Int} (h : ¬ (ratB an ad = true ∧ ratB bn bd = true)) : addR an ad bn bd = none := by unfold addR; rw [if_neg h]
theorem subR_no {an ad bn bd : Int} (h : ¬ (ratB an ad = true ∧ ratB bn bd = true)) : subR an ad bn bd = none := by unfold subR; rw [if_neg h]
theorem mulR_no {an ad bn bd : Int} (h : ¬ (ratB an ad = true ∧ ratB bn bd = true)) : mulR an ad bn bd = none := by unfold mulR; rw [if_neg h]
theorem divR_no {an ad bn bd : Int} (h : ¬ (ratB an ad = true ∧ ratB bn bd = true)) : divR an ad bn bd = none := by unfold divR; rw [if_neg (fun h' => h ⟨h'.1, h'.2.1⟩)]
theorem addR_yes {an ad bn bd : Int} (h1 : ratB an ad = true) (h2 : ratB bn bd = true) : addR an ad bn bd = mk (an * bd + bn * ad) (ad * bd) := by unfold addR; rw [if_pos ⟨h1, h2⟩]
theorem subR_yes {an ad bn bd : Int} (h1 : ratB an ad = true) (h2 : ratB bn bd = true) : subR an ad bn bd = mk (an * bd - bn * ad) (ad * bd) := by unfold subR; rw [if_pos ⟨h1, h2⟩]
theorem mulR_yes {an ad bn bd : Int} (h1 : ratB an ad = true) (h2 : ratB bn bd = true) : mulR an ad bn bd = mk (an * bn) (ad * bd) := by unfold mulR; rw [if_pos ⟨h1, h2⟩]
theorem divR_yes {an ad bn bd : Int} (h1 : ratB an ad = true) (h2 : ratB bn bd = true) (h3 : bn ≠ 0) : divR an ad bn bd = mk (an * bd) (ad * bn) := by unfold divR; rw [if_pos ⟨h1, h2, h3⟩]
theorem ofR_mk {num den : Int} (h0 : den ≠ 0) (h1 : -4000000000000000000 ≤ num) (h2 : num ≤ 4000000000000000000) (h3 : -4000000000000000000 ≤ den) (h4 : den ≤ 4000000000000000000) : ofR num den = mk num den := by unfold ofR; rw [if_pos ⟨h0, h1, h2, h3, h4⟩]
theorem ofR_zero (num : Int) : ofR num 0 = none := by unfold ofR; rw [if_neg (by simp)]


set_option maxHeartbeats 1000000 in
theorem impl_mul (an ad bn bd : Int) (w : World) : Calls Try.prog 28 #[.agg #[.int .i64 an, .int .i64 ad], .agg #[.int .i64 bn, .int .i64 bd]] w (Res w (mulR an ad bn bd)) := by
  by_cases h1 : ratB an ad = true
  · by_cases h2 : ratB bn bd = true
    · obtain ⟨b1, b2, b3, b4⟩ := ratB_bd h2
      obtain ⟨a1, a2, a3, a4⟩ := ratB_bd h1
      obtain ⟨p1, p2⟩ := prod_in (a := an) (b := bd) ⟨a3, a4⟩ ⟨by omega, b2⟩
      obtain ⟨p3, p4⟩ := prod_in (a := bn) (b := ad) ⟨b3, b4⟩ ⟨by omega, a2⟩
      obtain ⟨p5, p6⟩ := prod_in (a := ad) (b := bd) ⟨by omega, a2⟩ ⟨by omega, b2⟩
      obtain ⟨p7, p8⟩ := prod_in (a := an) (b := bn) ⟨a3, a4⟩ ⟨b3, b4⟩
      obtain ⟨p9, p10⟩ := prod_in (a := ad) (b := bn) ⟨by omega, a2⟩ ⟨b3, b4⟩
      have ho : mulR an ad bn bd = ofR (an * bn) (ad * bd) := by rw [mulR_yes h1 h2, ofR_mk (mul_ne a1 b1) (by omega) (by omega) (by omega) (by omega)]
      rw [ho]
      have HO : Hid (∀ W, Calls Try.prog 26 #[.int .i64 (an * bn), .int .i64 (ad * bd)] W (Res W (ofR (an * bn) (ad * bd)))) := fun W => impl_of _ _ W
      clear ho
      generalize ofR (an * bn) (ad * bd) = o at *
      rcases o with _ | ⟨x, y⟩
      all_goals
        go_enter Try.func28, Try.ntmps28
        go_wp2_with fail
        refine (impl_valid an ad _).mono ?_
        rintro e w1 ⟨rfl, hb1⟩
        obtain ⟨hc1, hf1⟩ := bcell hb1
        have hz1 : w.heap.size + 2 < w1.heap.size := by have := hb1.size; simp at this; omega
        go_wp2_with fail
        refine (impl_valid bn bd _).mono ?_
        rintro e w2 ⟨rfl, hb2⟩
        obtain ⟨hc2, hf2⟩ := bcell hb2
        have hz2 : w.heap.size + 2 < w2.heap.size := by have := hb2.size; omega
        have d0 : w2.cell? ⟨w.heap.size, 0, none⟩ = some (.int .i64 an) := by rw [hc2 _ _ (by omega), hc1 _ _ (by simp; omega)]; go_simp
        have d1 : w2.cell? ⟨w.heap.size, 1, none⟩ = some (.int .i64 ad) := by rw [hc2 _ _ (by omega), hc1 _ _ (by simp; omega)]; go_simp
        have d2 : w2.cell? ⟨w.heap.size + 1, 0, none⟩ = some (.int .i64 bn) := by rw [hc2 _ _ (by omega), hc1 _ _ (by simp)]; go_simp
        have d3 : w2.cell? ⟨w.heap.size + 1, 1, none⟩ = some (.int .i64 bd) := by rw [hc2 _ _ (by omega), hc1 _ _ (by simp)]; go_simp
        go_wp2_with fail
        refine (HO.out _).mono ?_
        rintro e w3 ⟨rfl, hb3⟩
        obtain ⟨hc3, hf3⟩ := bcell hb3
        have hz3 : w.heap.size + 2 < w3.heap.size := by have := hb3.size; omega
        have hbl : Below w.heap.size w w3 := ((((((Below.refl _ _).alloc (Nat.le_refl _) _).alloc (by simp) _).alloc (by simp; omega) _).trans (hb1.mono (by simp; omega))).trans (hb2.mono (by omega))).trans (hb3.mono (by omega))
        have c0 : w3.cell? ⟨w.heap.size + 2, 0, none⟩ = some (.int .i64 0) := by rw [hc3 _ _ (by omega), hc2 _ _ (by omega), hc1 _ _ (by simp)]; go_simp
        have c1 : w3.cell? ⟨w.heap.size + 2, 1, none⟩ = some (.int .i64 0) := by rw [hc3 _ _ (by omega), hc2 _ _ (by omega), hc1 _ _ (by simp)]; go_simp
        go_wp2
        first
          | exact bodyPost_ret (v := .tuple #[.agg #[.int .i64 x, .int .i64 y], .bool true]) (by simp [results, Try.results28, go_sem, two0 _ c0, two1 _ _ c1]) rfl ⟨rfl, (hbl.setCell (by simp; omega) _).setCell (by simp; omega) _⟩
          | exact bodyPost_ret (v := .tuple #[.agg #[.int .i64 0, .int .i64 0], .bool false]) (by simp [results, Try.results28, go_sem, two0 _ c0, two1 _ _ c1]) rfl ⟨rfl, (hbl.setCell (by simp; omega) _).setCell (by simp; omega) _⟩
    · have h2 : ratB bn bd = false := by simpa using h2
      rw [mulR_no (by simp [h2])]
      show Calls _ _ _ _ (Res1 w 0 0 false)
      go_enter Try.func28, Try.ntmps28
      go_wp2_with fail
      refine (impl_valid an ad _).mono ?_
      rintro e w1 ⟨rfl, hb1⟩
      obtain ⟨hc1, hf1⟩ := bcell hb1
      have hz1 : w.heap.size + 2 < w1.heap.size := by have := hb1.size; simp at this; omega
      go_wp2_with fail
      refine (impl_valid bn bd _).mono ?_
      rintro e w2 ⟨rfl, hb2⟩
      obtain ⟨hc2, hf2⟩ := bcell hb2
      have hz2 : w.heap.size + 2 < w2.heap.size := by have := hb2.size; omega
      have hbl : Below w.heap.size w w2 := (((((Below.refl _ _).alloc (Nat.le_refl _) _).alloc (by simp) _).alloc (by simp; omega) _).trans (hb1.mono (by simp; omega))).trans (hb2.mono (by omega))
      have c0 : w2.cell? ⟨w.heap.size + 2, 0, none⟩ = some (.int .i64 0) := by rw [hc2 _ _ (by omega), hc1 _ _ (by simp)]; go_simp
      have c1 : w2.cell? ⟨w.heap.size + 2, 1, none⟩ = some (.int .i64 0) := by rw [hc2 _ _ (by omega), hc1 _ _ (by simp)]; go_simp
      go_wp2
      exact bodyPost_ret (v := .tuple #[.agg #[.int .i64 0, .int .i64 0], .bool false]) (by simp [results, Try.results28, go_sem, two0 _ c0, two1 _ _ c1]) rfl ⟨rfl, (hbl.setCell (by simp; omega) _).setCell (by simp; omega) _⟩
  · have h1 : ratB an ad = false := by simpa using h1
    rw [mulR_no (by simp [h1])]
    show Calls _ _ _ _ (Res1 w 0 0 false)
    go_enter Try.func28, Try.ntmps28
    go_wp2_with fail
    refine (impl_valid an ad _).mono ?_
    rintro e w1 ⟨rfl, hb1⟩
    obtain ⟨hc1, hf1⟩ := bcell hb1
    have hz1 : w.heap.size + 2 < w1.heap.size := by have := hb1.size; simp at this; omega
    have hbl : Below w.heap.size w w1 := ((((Below.refl _ _).alloc (Nat.le_refl _) _).alloc (by simp) _).alloc (by simp; omega) _).trans (hb1.mono (by simp; omega))
    have c0 : w1.cell? ⟨w.heap.size + 2, 0, none⟩ = some (.int .i64 0) := by rw [hc1 _ _ (by simp)]; go_simp
    have c1 : w1.cell? ⟨w.heap.size + 2, 1, none⟩ = some (.int .i64 0) := by rw [hc1 _ _ (by simp)]; go_simp
    go_wp2
    exact bodyPost_ret (v := .tuple #[.agg #[.int .i64 0, .int .i64 0], .bool false]) (by simp [results, Try.results28, go_sem, two0 _ c0, two1 _ _ c1]) rfl ⟨rfl, (hbl.setCell (by simp; omega) _).setCell (by simp; omega) _⟩
set_option maxHeartbeats 1000000 in
theorem spec_mul (an ad bn bd : Int) (w : World) : Calls Try.prog 34 #[.agg #[.int .i64 an, .int .i64 ad], .agg #[.int .i64 bn, .int .i64 bd]] w (Res w (mulR an ad bn bd)) := by
  by_cases h : ratB an ad = true ∧ ratB bn bd = true
  · obtain ⟨h1, h2⟩ := h
    obtain ⟨b1, b2, b3, b4⟩ := ratB_bd h2
    obtain ⟨a1, a2, a3, a4⟩ := ratB_bd h1
    obtain ⟨p1, p2⟩ := prod_in (a := an) (b := bd) ⟨a3, a4⟩ ⟨by omega, b2⟩
    obtain ⟨p3, p4⟩ := prod_in (a := bn) (b := ad) ⟨b3, b4⟩ ⟨by omega, a2⟩
    obtain ⟨p5, p6⟩ := prod_in (a := ad) (b := bd) ⟨by omega, a2⟩ ⟨by omega, b2⟩
    obtain ⟨p7, p8⟩ := prod_in (a := an) (b := bn) ⟨a3, a4⟩ ⟨b3, b4⟩
    obtain ⟨p9, p10⟩ := prod_in (a := ad) (b := bn) ⟨by omega, a2⟩ ⟨b3, b4⟩
    rw [mulR_yes h1 h2]
    have HO : Hid (∀ W, Calls Try.prog 45 #[.int .i64 (an * bn), .int .i64 (ad * bd)] W (Res W (mk (an * bn) (ad * bd)))) := fun W => spec_make _ _ W (mul_ne a1 b1) (by omega) (by omega) (by omega) (by omega)
    generalize mk (an * bn) (ad * bd) = o at *
    rcases o with _ | ⟨x, y⟩
    all_goals
      go_enter Try.func34, Try.ntmps34
      go_wp2_with fail
      refine (two_any an ad bn bd _).mono ?_
      rintro e w1 ⟨rfl, hb1⟩
      obtain ⟨hc1, hf1⟩ := bcell hb1
      have hz1 : w.heap.size + 2 < w1.heap.size := by have := hb1.size; simp at this; omega
      go_wp2_with fail
      refine (HO.out _).mono ?_
      rintro e w3 ⟨rfl, hb3⟩
      obtain ⟨hc3, hf3⟩ := bcell hb3
      have hz3 : w.heap.size + 2 < w3.heap.size := by have := hb3.size; omega
      have hbl : Below w.heap.size w w3 := (((((Below.refl _ _).alloc (Nat.le_refl _) _).alloc (by simp) _).alloc (by simp; omega) _).trans (hb1.mono (by simp; omega))).trans (hb3.mono (by omega))
      have c0 : w3.cell? ⟨w.heap.size + 2, 0, none⟩ = some (.int .i64 0) := by rw [hc3 _ _ (by omega), hc1 _ _ (by simp)]; go_simp
      have c1 : w3.cell? ⟨w.heap.size + 2, 1, none⟩ = some (.int .i64 0) := by rw [hc3 _ _ (by omega), hc1 _ _ (by simp)]; go_simp
      go_wp2
      first
        | exact bodyPost_ret (v := .tuple #[.agg #[.int .i64 x, .int .i64 y], .bool true]) (by simp [results, Try.results34, go_sem, two0 _ c0, two1 _ _ c1]) rfl ⟨rfl, (hbl.setCell (by simp; omega) _).setCell (by simp; omega) _⟩
        | exact bodyPost_ret (v := .tuple #[.agg #[.int .i64 0, .int .i64 0], .bool false]) (by simp [results, Try.results34, go_sem, two0 _ c0, two1 _ _ c1]) rfl ⟨rfl, (hbl.setCell (by simp; omega) _).setCell (by simp; omega) _⟩
  · have h' : (ratB an ad && ratB bn bd) = false := by rw [← Bool.not_eq_true, Bool.and_eq_true]; exact h
    rw [mulR_no h]
    clear h
    show Calls _ _ _ _ (Res1 w 0 0 false)
    go_enter Try.func34, Try.ntmps34
    go_wp2_with fail
    refine (two_any an ad bn bd _).mono ?_
    rintro e w1 ⟨rfl, hb1⟩
    obtain ⟨hc1, hf1⟩ := bcell hb1
    have hz1 : w.heap.size + 2 < w1.heap.size := by have := hb1.size; simp at this; omega
    have hbl : Below w.heap.size w w1 := ((((Below.refl _ _).alloc (Nat.le_refl _) _).alloc (by simp) _).alloc (by simp; omega) _).trans (hb1.mono (by simp; omega))
    have c0 : w1.cell? ⟨w.heap.size + 2, 0, none⟩ = some (.int .i64 0) := by rw [hc1 _ _ (by simp)]; go_simp
    have c1 : w1.cell? ⟨w.heap.size + 2, 1, none⟩ = some (.int .i64 0) := by rw [hc1 _ _ (by simp)]; go_simp
    go_wp2
    exact bodyPost_ret (v := .tuple #[.agg #[.int .i64 0, .int .i64 0], .bool false]) (by simp [results, Try.results34, go_sem, two0 _ c0, two1 _ _ c1]) rfl ⟨rfl, (hbl.setCell (by simp; omega) _).setCell (by simp; omega) _⟩

end Go.Proofs.Ytecoekenkjgijaa
