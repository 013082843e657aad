/-
  What the functions on roots answer, program and reference alike.
-/
import Derived.Test.YtecoekenkjgijaaKeep
import Derived.Test.YtecoekenkjgijaaPlainRoot
namespace Go.Proofs.Ytecoekenkjgijaa
open Go.RowKit
set_option linter.unusedSimpArgs false
set_option linter.unusedVariables false

theorem three1 {w1 : World} {b : Nat} {u : Value} (x y : Value) (c1 : w1.cell? ⟨b, 1, none⟩ = some u) : ((w1.setCell ⟨b, 0, none⟩ x).setCell ⟨b, 1, none⟩ y).cell? ⟨b, 1, none⟩ = some y :=
  World.cell?_setCell_same _ _ _ ((World.cell?_setCell_other _ _ _ _ (by simp)).trans c1)
theorem three2 {w1 : World} {b : Nat} {u : Value} (x y z : Value) (c2 : w1.cell? ⟨b, 2, none⟩ = some u) : (((w1.setCell ⟨b, 0, none⟩ x).setCell ⟨b, 1, none⟩ y).setCell ⟨b, 2, none⟩ z).cell? ⟨b, 2, none⟩ = some z :=
  World.cell?_setCell_same _ _ _ ((World.cell?_setCell_other _ _ _ _ (by simp)).trans ((World.cell?_setCell_other _ _ _ _ (by simp)).trans c2))
theorem bset3 {B : Nat} {w W : World} {c i j k : Nat} {u v x : Value} (h : Below B w W) (hc : B ≤ c) : Below B w (((W.setCell ⟨c, i, none⟩ u).setCell ⟨c, j, none⟩ v).setCell ⟨c, k, none⟩ x) := ((h.setCell hc _).setCell hc _).setCell hc _
/-- A root and whether there is one come back; what was there is as it was. -/
def RO1 (w : World) (s x y : Int) (ok : Bool) (e : Ending) (w' : World) : Prop := e = .returned (.tuple #[.agg #[.int .i64 s, .int .i64 x, .int .i64 y], .bool ok]) ∧ Below w.heap.size w w'
def RO (w : World) (o : Option (Int × Int × Int)) : Ending → World → Prop := match o with
  | none => RO1 w 0 0 0 false
  | some (s, x, y) => RO1 w s x y true
theorem ro_one (o : Option (Int × Int × Int)) : ∃ s x y ok, ∀ W, RO W o = RO1 W s x y ok := by
  rcases o with _ | ⟨s, x, y⟩
  · exact ⟨0, 0, 0, false, fun _ => rfl⟩
  · exact ⟨s, x, y, true, fun _ => rfl⟩
theorem keep3c {w w1 : World} {a b c : Value} {T : TypeId} (hb : Below (w.alloc (.cells #[a, b, c] T)).heap.size (w.alloc (.cells #[a, b, c] T)) w1) :
    w.heap.size < w1.heap.size ∧ w1.cell? ⟨w.heap.size, 0, none⟩ = some a ∧ w1.cell? ⟨w.heap.size, 1, none⟩ = some b ∧ w1.cell? ⟨w.heap.size, 2, none⟩ = some c ∧ Below w.heap.size w w1 := by
  obtain ⟨hc, hf⟩ := bcell hb
  refine ⟨by have := hb.size; simp at this; omega, ?_, ?_, ?_, ((Below.refl _ _).alloc (Nat.le_refl _) _).trans (hb.mono (by simp))⟩
  · rw [hc _ _ (by simp)]; go_simp
  · rw [hc _ _ (by simp)]; go_simp
  · rw [hc _ _ (by simp)]; go_simp

theorem impl_rvalid (s n d : Int) (w : World) : Calls Try.prog 14 #[.agg #[.int .i64 s, .int .i64 n, .int .i64 d]] w (Said w (rootB s n d)) := by
  by_cases hs : -1 ≤ s ∧ s ≤ 1
  · obtain ⟨h1, h2⟩ := hs
    by_cases hv : ratB n d = true
    · by_cases hn : 0 ≤ n
      · rcases (by omega : (n = 0 ∧ s = 0) ∨ (n = 0 ∧ s ≠ 0) ∨ (n ≠ 0 ∧ s = 0) ∨ (n ≠ 0 ∧ s ≠ 0)) with ⟨rfl, rfl⟩ | ⟨rfl, h3⟩ | ⟨h3, rfl⟩ | ⟨h3, h4⟩
        · have HB : Hid (rootB 0 0 d = true) := (rootB_iff _ _ _).2 ⟨⟨by omega, by omega⟩, hv, hn, by omega⟩
          clear h1 h2
          go_enter Try.func14, Try.ntmps14
          go_wp2_with fail
          refine (impl_valid 0 d _).mono ?_
          rintro e w1 ⟨rfl, hb⟩
          obtain ⟨hz, k0, k1, k2, hl⟩ := keep3c hb
          go_wp2
          go_ret
          exact ⟨ret_bool HB.out.symm, hl⟩
        · have HB : Hid (rootB s 0 d = false) := rootB_false (fun h => by have := h.2.2.2; omega)
          have e1 : (s == 0) = false := by simpa using h3
          clear h3
          go_enter Try.func14, Try.ntmps14
          go_wp2_with fail
          refine (impl_valid 0 d _).mono ?_
          rintro e w1 ⟨rfl, hb⟩
          obtain ⟨hz, k0, k1, k2, hl⟩ := keep3c hb
          go_wp2
          go_ret
          exact ⟨ret_bool HB.out.symm, hl⟩
        · have HB : Hid (rootB 0 n d = false) := rootB_false (fun h => by have := h.2.2.2; omega)
          have e1 : (n == 0) = false := by simpa using h3
          clear h3 h1 h2
          go_enter Try.func14, Try.ntmps14
          go_wp2_with fail
          refine (impl_valid n d _).mono ?_
          rintro e w1 ⟨rfl, hb⟩
          obtain ⟨hz, k0, k1, k2, hl⟩ := keep3c hb
          go_wp2
          go_ret
          exact ⟨ret_bool HB.out.symm, hl⟩
        · have HB : Hid (rootB s n d = true) := (rootB_iff _ _ _).2 ⟨⟨by omega, by omega⟩, hv, hn, by omega⟩
          have e1 : (n == 0) = false := by simpa using h3
          have e2 : (s == 0) = false := by simpa using h4
          clear h3 h4
          go_enter Try.func14, Try.ntmps14
          go_wp2_with fail
          refine (impl_valid n d _).mono ?_
          rintro e w1 ⟨rfl, hb⟩
          obtain ⟨hz, k0, k1, k2, hl⟩ := keep3c hb
          go_wp2
          go_ret
          exact ⟨ret_bool HB.out.symm, hl⟩
      · have HB : Hid (rootB s n d = false) := rootB_false (fun h => hn h.2.2.1)
        go_enter Try.func14, Try.ntmps14
        go_wp2_with fail
        refine (impl_valid n d _).mono ?_
        rintro e w1 ⟨rfl, hb⟩
        obtain ⟨hz, k0, k1, k2, hl⟩ := keep3c hb
        go_wp2
        go_ret
        exact ⟨ret_bool HB.out.symm, hl⟩
    · have HB : Hid (rootB s n d = false) := rootB_false (fun h => hv h.2.1)
      have hv : ratB n d = false := by simpa using hv
      go_enter Try.func14, Try.ntmps14
      go_wp2_with fail
      refine (impl_valid n d _).mono ?_
      rintro e w1 ⟨rfl, hb⟩
      obtain ⟨hz, k0, k1, k2, hl⟩ := keep3c hb
      go_wp2
      go_ret
      exact ⟨ret_bool HB.out.symm, hl⟩
  · have HB : Hid (rootB s n d = false) := rootB_false (fun h => hs h.1)
    rcases (by omega : s < -1 ∨ (-1 ≤ s ∧ 1 < s)) with h | ⟨h1, h⟩
    all_goals
      clear hs
      go_enter Try.func14, Try.ntmps14
      go_wp2
      go_ret
      exact ⟨ret_bool HB.out.symm, (Below.refl _ _).alloc (Nat.le_refl _) _⟩

theorem spec_rvalid (s n d : Int) (w : World) : Calls Try.prog 12 #[.agg #[.int .i64 s, .int .i64 n, .int .i64 d]] w (Said w (rootB s n d)) := by
  by_cases hs : -1 ≤ s ∧ s ≤ 1
  · obtain ⟨h1, h2⟩ := hs
    have f1 : inB s (-1) 1 = true := inB_yes ⟨h1, h2⟩
    by_cases hv : ratB n d = true
    · by_cases hn : 0 ≤ n
      · rcases (by omega : (n = 0 ∧ s = 0) ∨ (n = 0 ∧ s ≠ 0) ∨ (n ≠ 0 ∧ s = 0) ∨ (n ≠ 0 ∧ s ≠ 0)) with ⟨rfl, rfl⟩ | ⟨rfl, h3⟩ | ⟨h3, rfl⟩ | ⟨h3, h4⟩
        · have HB : Hid (rootB 0 0 d = true) := (rootB_iff _ _ _).2 ⟨⟨by omega, by omega⟩, hv, hn, by omega⟩
          clear h1 h2
          go_enter Try.func12, Try.ntmps12
          go_wp2_with (go_at_call 29; refine (in_any _ _ _ _).mono ?_; rintro e w' ⟨rfl, rfl⟩)
          refine (spec_valid 0 d _).mono ?_
          rintro e w1 ⟨rfl, hb⟩
          obtain ⟨hz, k0, k1, k2, hl⟩ := keep3c hb
          go_wp2
          go_ret
          exact ⟨ret_bool HB.out.symm, hl⟩
        · have HB : Hid (rootB s 0 d = false) := rootB_false (fun h => by have := h.2.2.2; omega)
          have e1 : (s == 0) = false := by simpa using h3
          clear h3
          go_enter Try.func12, Try.ntmps12
          go_wp2_with (go_at_call 29; refine (in_any _ _ _ _).mono ?_; rintro e w' ⟨rfl, rfl⟩)
          refine (spec_valid 0 d _).mono ?_
          rintro e w1 ⟨rfl, hb⟩
          obtain ⟨hz, k0, k1, k2, hl⟩ := keep3c hb
          go_wp2
          go_ret
          exact ⟨ret_bool HB.out.symm, hl⟩
        · have HB : Hid (rootB 0 n d = false) := rootB_false (fun h => by have := h.2.2.2; omega)
          have e1 : (n == 0) = false := by simpa using h3
          clear h3 h1 h2
          go_enter Try.func12, Try.ntmps12
          go_wp2_with (go_at_call 29; refine (in_any _ _ _ _).mono ?_; rintro e w' ⟨rfl, rfl⟩)
          refine (spec_valid n d _).mono ?_
          rintro e w1 ⟨rfl, hb⟩
          obtain ⟨hz, k0, k1, k2, hl⟩ := keep3c hb
          go_wp2
          go_ret
          exact ⟨ret_bool HB.out.symm, hl⟩
        · have HB : Hid (rootB s n d = true) := (rootB_iff _ _ _).2 ⟨⟨by omega, by omega⟩, hv, hn, by omega⟩
          have e1 : (n == 0) = false := by simpa using h3
          have e2 : (s == 0) = false := by simpa using h4
          clear h3 h4
          go_enter Try.func12, Try.ntmps12
          go_wp2_with (go_at_call 29; refine (in_any _ _ _ _).mono ?_; rintro e w' ⟨rfl, rfl⟩)
          refine (spec_valid n d _).mono ?_
          rintro e w1 ⟨rfl, hb⟩
          obtain ⟨hz, k0, k1, k2, hl⟩ := keep3c hb
          go_wp2
          go_ret
          exact ⟨ret_bool HB.out.symm, hl⟩
      · have HB : Hid (rootB s n d = false) := rootB_false (fun h => hn h.2.2.1)
        go_enter Try.func12, Try.ntmps12
        go_wp2_with (go_at_call 29; refine (in_any _ _ _ _).mono ?_; rintro e w' ⟨rfl, rfl⟩)
        refine (spec_valid n d _).mono ?_
        rintro e w1 ⟨rfl, hb⟩
        obtain ⟨hz, k0, k1, k2, hl⟩ := keep3c hb
        go_wp2
        go_ret
        exact ⟨ret_bool HB.out.symm, hl⟩
    · have HB : Hid (rootB s n d = false) := rootB_false (fun h => hv h.2.1)
      have hv : ratB n d = false := by simpa using hv
      go_enter Try.func12, Try.ntmps12
      go_wp2_with (go_at_call 29; refine (in_any _ _ _ _).mono ?_; rintro e w' ⟨rfl, rfl⟩)
      refine (spec_valid n d _).mono ?_
      rintro e w1 ⟨rfl, hb⟩
      obtain ⟨hz, k0, k1, k2, hl⟩ := keep3c hb
      go_wp2
      go_ret
      exact ⟨ret_bool HB.out.symm, hl⟩
  · have HB : Hid (rootB s n d = false) := rootB_false (fun h => hs h.1)
    have f1 : inB s (-1) 1 = false := inB_no hs
    clear hs
    go_enter Try.func12, Try.ntmps12
    go_wp2_with (go_at_call 29; refine (in_any _ _ _ _).mono ?_; rintro e w' ⟨rfl, rfl⟩)
    go_ret
    exact ⟨ret_bool HB.out.symm, (Below.refl _ _).alloc (Nat.le_refl _) _⟩

theorem times_any (s t n d : Int) (w : World) (hs : (s = -1 ∧ t = 1) ∨ (s = 0 ∧ t = 0) ∨ (s = 1 ∧ t = -1)) : Calls Try.prog 32 #[.agg #[.int .i64 s, .int .i64 n, .int .i64 d], .int .i64 (-1)] w fun e w' => e = .returned (.agg #[.int .i64 t, .int .i64 n, .int .i64 d]) ∧ Below w.heap.size w w' := by
  rcases hs with ⟨rfl, rfl⟩ | ⟨rfl, rfl⟩ | ⟨rfl, rfl⟩
  all_goals
    go_enter Try.func32, Try.ntmps32
    go_wp2
    first
      | exact bodyPost_ret (v := .agg #[.int .i64 1, .int .i64 n, .int .i64 d]) (by simp [results, Try.results32, go_sem]) rfl ⟨rfl, ((Below.refl _ _).alloc (Nat.le_refl _) _).alloc (by simp) _⟩
      | exact bodyPost_ret (v := .agg #[.int .i64 0, .int .i64 n, .int .i64 d]) (by simp [results, Try.results32, go_sem]) rfl ⟨rfl, ((Below.refl _ _).alloc (Nat.le_refl _) _).alloc (by simp) _⟩
      | exact bodyPost_ret (v := .agg #[.int .i64 (-1), .int .i64 n, .int .i64 d]) (by simp [results, Try.results32, go_sem]) rfl ⟨rfl, ((Below.refl _ _).alloc (Nat.le_refl _) _).alloc (by simp) _⟩

theorem impl_rneg (s n d : Int) (w : World) : Calls Try.prog 16 #[.agg #[.int .i64 s, .int .i64 n, .int .i64 d]] w (RO w (negO s n d)) := by
  rcases hr : rootB s n d with _ | _
  · rw [negO_no hr]
    show Calls _ _ _ _ (RO1 w 0 0 0 false)
    go_enter Try.func16, Try.ntmps16
    go_wp2_with fail
    refine (impl_rvalid s n d _).mono ?_
    rintro e w1 ⟨rfl, hb⟩
    obtain ⟨hc, hf⟩ := bcell hb
    have hz : w.heap.size + 1 < w1.heap.size := by have := hb.size; simp at this; omega
    have hz0 : w.heap.size < w1.heap.size := by omega
    have c0 : w1.cell? ⟨w.heap.size + 1, 0, none⟩ = some (.int .i64 0) := by rw [hc _ _ (by simp)]; go_simp
    have c1 : w1.cell? ⟨w.heap.size + 1, 1, none⟩ = some (.int .i64 0) := by rw [hc _ _ (by simp)]; go_simp
    have c2 : w1.cell? ⟨w.heap.size + 1, 2, none⟩ = some (.int .i64 0) := by rw [hc _ _ (by simp)]; go_simp
    have hl : Below w.heap.size w w1 := (((Below.refl _ _).alloc (Nat.le_refl _) _).alloc (by simp) _).trans (hb.mono (by simp; omega))
    go_wp2
    exact bodyPost_ret (v := .tuple #[.agg #[.int .i64 0, .int .i64 0, .int .i64 0], .bool false]) (by simp [results, Try.results16, go_sem, two0 _ c0, three1 _ _ c1, three2 _ _ _ c2]) rfl ⟨rfl, bset3 hl (by simp)⟩
  · rw [negO_yes hr]
    show Calls _ _ _ _ (RO1 w (-s) n d true)
    obtain ⟨hv, hcs⟩ := rootB_cases hr
    rcases (by omega : s = 0 ∨ s = 1 ∨ s = -1) with rfl | rfl | rfl
    · show Calls _ _ _ _ (RO1 w 0 n d true)
      clear hcs
      go_enter Try.func16, Try.ntmps16
      go_wp2_with fail
      refine (impl_rvalid _ n d _).mono ?_
      rintro e w1 ⟨rfl, hb⟩
      obtain ⟨hc, hf⟩ := bcell hb
      have hz : w.heap.size + 1 < w1.heap.size := by have := hb.size; simp at this; omega
      have hz0 : w.heap.size < w1.heap.size := by omega
      have c0 : w1.cell? ⟨w.heap.size + 1, 0, none⟩ = some (.int .i64 0) := by rw [hc _ _ (by simp)]; go_simp
      have c1 : w1.cell? ⟨w.heap.size + 1, 1, none⟩ = some (.int .i64 0) := by rw [hc _ _ (by simp)]; go_simp
      have c2 : w1.cell? ⟨w.heap.size + 1, 2, none⟩ = some (.int .i64 0) := by rw [hc _ _ (by simp)]; go_simp
      have hl : Below w.heap.size w w1 := (((Below.refl _ _).alloc (Nat.le_refl _) _).alloc (by simp) _).trans (hb.mono (by simp; omega))
      go_wp2_with fail
      refine (times_any _ 0 n d _ (by omega)).mono ?_
      rintro e w2 ⟨rfl, hb2⟩
      have c0 := keep0 hb2 c0
      have c1 := keep0 hb2 c1
      have c2 := keep0 hb2 c2
      obtain ⟨hc2, hf2⟩ := bcell hb2
      have hz2 : w.heap.size + 1 < w2.heap.size := by have := hb2.size; omega
      have hl := hl.trans (hb2.mono hl.size)
      go_wp2
      first
        | exact bodyPost_ret (v := .tuple #[.agg #[.int .i64 0, .int .i64 n, .int .i64 d], .bool true]) (by simp [results, Try.results16, go_sem, two0 _ c0, three1 _ _ c1, three2 _ _ _ c2]) rfl ⟨rfl, bset3 hl (by simp)⟩
        | exact bodyPost_ret (v := .tuple #[.agg #[.int .i64 (-1), .int .i64 n, .int .i64 d], .bool true]) (by simp [results, Try.results16, go_sem, two0 _ c0, three1 _ _ c1, three2 _ _ _ c2]) rfl ⟨rfl, bset3 hl (by simp)⟩
        | exact bodyPost_ret (v := .tuple #[.agg #[.int .i64 1, .int .i64 n, .int .i64 d], .bool true]) (by simp [results, Try.results16, go_sem, two0 _ c0, three1 _ _ c1, three2 _ _ _ c2]) rfl ⟨rfl, bset3 hl (by simp)⟩
    · show Calls _ _ _ _ (RO1 w (-1) n d true)
      clear hcs
      go_enter Try.func16, Try.ntmps16
      go_wp2_with fail
      refine (impl_rvalid _ n d _).mono ?_
      rintro e w1 ⟨rfl, hb⟩
      obtain ⟨hc, hf⟩ := bcell hb
      have hz : w.heap.size + 1 < w1.heap.size := by have := hb.size; simp at this; omega
      have hz0 : w.heap.size < w1.heap.size := by omega
      have c0 : w1.cell? ⟨w.heap.size + 1, 0, none⟩ = some (.int .i64 0) := by rw [hc _ _ (by simp)]; go_simp
      have c1 : w1.cell? ⟨w.heap.size + 1, 1, none⟩ = some (.int .i64 0) := by rw [hc _ _ (by simp)]; go_simp
      have c2 : w1.cell? ⟨w.heap.size + 1, 2, none⟩ = some (.int .i64 0) := by rw [hc _ _ (by simp)]; go_simp
      have hl : Below w.heap.size w w1 := (((Below.refl _ _).alloc (Nat.le_refl _) _).alloc (by simp) _).trans (hb.mono (by simp; omega))
      go_wp2_with fail
      refine (times_any _ (-1) n d _ (by omega)).mono ?_
      rintro e w2 ⟨rfl, hb2⟩
      have c0 := keep0 hb2 c0
      have c1 := keep0 hb2 c1
      have c2 := keep0 hb2 c2
      obtain ⟨hc2, hf2⟩ := bcell hb2
      have hz2 : w.heap.size + 1 < w2.heap.size := by have := hb2.size; omega
      have hl := hl.trans (hb2.mono hl.size)
      go_wp2
      first
        | exact bodyPost_ret (v := .tuple #[.agg #[.int .i64 0, .int .i64 n, .int .i64 d], .bool true]) (by simp [results, Try.results16, go_sem, two0 _ c0, three1 _ _ c1, three2 _ _ _ c2]) rfl ⟨rfl, bset3 hl (by simp)⟩
        | exact bodyPost_ret (v := .tuple #[.agg #[.int .i64 (-1), .int .i64 n, .int .i64 d], .bool true]) (by simp [results, Try.results16, go_sem, two0 _ c0, three1 _ _ c1, three2 _ _ _ c2]) rfl ⟨rfl, bset3 hl (by simp)⟩
        | exact bodyPost_ret (v := .tuple #[.agg #[.int .i64 1, .int .i64 n, .int .i64 d], .bool true]) (by simp [results, Try.results16, go_sem, two0 _ c0, three1 _ _ c1, three2 _ _ _ c2]) rfl ⟨rfl, bset3 hl (by simp)⟩
    · show Calls _ _ _ _ (RO1 w 1 n d true)
      clear hcs
      go_enter Try.func16, Try.ntmps16
      go_wp2_with fail
      refine (impl_rvalid _ n d _).mono ?_
      rintro e w1 ⟨rfl, hb⟩
      obtain ⟨hc, hf⟩ := bcell hb
      have hz : w.heap.size + 1 < w1.heap.size := by have := hb.size; simp at this; omega
      have hz0 : w.heap.size < w1.heap.size := by omega
      have c0 : w1.cell? ⟨w.heap.size + 1, 0, none⟩ = some (.int .i64 0) := by rw [hc _ _ (by simp)]; go_simp
      have c1 : w1.cell? ⟨w.heap.size + 1, 1, none⟩ = some (.int .i64 0) := by rw [hc _ _ (by simp)]; go_simp
      have c2 : w1.cell? ⟨w.heap.size + 1, 2, none⟩ = some (.int .i64 0) := by rw [hc _ _ (by simp)]; go_simp
      have hl : Below w.heap.size w w1 := (((Below.refl _ _).alloc (Nat.le_refl _) _).alloc (by simp) _).trans (hb.mono (by simp; omega))
      go_wp2_with fail
      refine (times_any _ 1 n d _ (by omega)).mono ?_
      rintro e w2 ⟨rfl, hb2⟩
      have c0 := keep0 hb2 c0
      have c1 := keep0 hb2 c1
      have c2 := keep0 hb2 c2
      obtain ⟨hc2, hf2⟩ := bcell hb2
      have hz2 : w.heap.size + 1 < w2.heap.size := by have := hb2.size; omega
      have hl := hl.trans (hb2.mono hl.size)
      go_wp2
      first
        | exact bodyPost_ret (v := .tuple #[.agg #[.int .i64 0, .int .i64 n, .int .i64 d], .bool true]) (by simp [results, Try.results16, go_sem, two0 _ c0, three1 _ _ c1, three2 _ _ _ c2]) rfl ⟨rfl, bset3 hl (by simp)⟩
        | exact bodyPost_ret (v := .tuple #[.agg #[.int .i64 (-1), .int .i64 n, .int .i64 d], .bool true]) (by simp [results, Try.results16, go_sem, two0 _ c0, three1 _ _ c1, three2 _ _ _ c2]) rfl ⟨rfl, bset3 hl (by simp)⟩
        | exact bodyPost_ret (v := .tuple #[.agg #[.int .i64 1, .int .i64 n, .int .i64 d], .bool true]) (by simp [results, Try.results16, go_sem, two0 _ c0, three1 _ _ c1, three2 _ _ _ c2]) rfl ⟨rfl, bset3 hl (by simp)⟩

theorem spec_rneg (s n d : Int) (w : World) : Calls Try.prog 15 #[.agg #[.int .i64 s, .int .i64 n, .int .i64 d]] w (RO w (negO s n d)) := by
  rcases hr : rootB s n d with _ | _
  · rw [negO_no hr]
    show Calls _ _ _ _ (RO1 w 0 0 0 false)
    go_enter Try.func15, Try.ntmps15
    go_wp2_with fail
    refine (spec_rvalid s n d _).mono ?_
    rintro e w1 ⟨rfl, hb⟩
    obtain ⟨hc, hf⟩ := bcell hb
    have hz : w.heap.size + 1 < w1.heap.size := by have := hb.size; simp at this; omega
    have hz0 : w.heap.size < w1.heap.size := by omega
    have c0 : w1.cell? ⟨w.heap.size + 1, 0, none⟩ = some (.int .i64 0) := by rw [hc _ _ (by simp)]; go_simp
    have c1 : w1.cell? ⟨w.heap.size + 1, 1, none⟩ = some (.int .i64 0) := by rw [hc _ _ (by simp)]; go_simp
    have c2 : w1.cell? ⟨w.heap.size + 1, 2, none⟩ = some (.int .i64 0) := by rw [hc _ _ (by simp)]; go_simp
    have hl : Below w.heap.size w w1 := (((Below.refl _ _).alloc (Nat.le_refl _) _).alloc (by simp) _).trans (hb.mono (by simp; omega))
    go_wp2
    exact bodyPost_ret (v := .tuple #[.agg #[.int .i64 0, .int .i64 0, .int .i64 0], .bool false]) (by simp [results, Try.results15, go_sem, two0 _ c0, three1 _ _ c1, three2 _ _ _ c2]) rfl ⟨rfl, bset3 hl (by simp)⟩
  · rw [negO_yes hr]
    show Calls _ _ _ _ (RO1 w (-s) n d true)
    obtain ⟨hv, hcs⟩ := rootB_cases hr
    rcases (by omega : s = 0 ∨ s = 1 ∨ s = -1) with rfl | rfl | rfl
    all_goals
      clear hcs
      go_enter Try.func15, Try.ntmps15
      go_wp2_with fail
      refine (spec_rvalid _ n d _).mono ?_
      rintro e w1 ⟨rfl, hb⟩
      obtain ⟨hc, hf⟩ := bcell hb
      have hz : w.heap.size + 1 < w1.heap.size := by have := hb.size; simp at this; omega
      have hz0 : w.heap.size < w1.heap.size := by omega
      have c0 : w1.cell? ⟨w.heap.size + 1, 0, none⟩ = some (.int .i64 0) := by rw [hc _ _ (by simp)]; go_simp
      have c1 : w1.cell? ⟨w.heap.size + 1, 1, none⟩ = some (.int .i64 0) := by rw [hc _ _ (by simp)]; go_simp
      have c2 : w1.cell? ⟨w.heap.size + 1, 2, none⟩ = some (.int .i64 0) := by rw [hc _ _ (by simp)]; go_simp
      have hl : Below w.heap.size w w1 := (((Below.refl _ _).alloc (Nat.le_refl _) _).alloc (by simp) _).trans (hb.mono (by simp; omega))
      go_wp2
      first
        | exact bodyPost_ret (v := .tuple #[.agg #[.int .i64 0, .int .i64 n, .int .i64 d], .bool true]) (by simp [results, Try.results15, go_sem, two0 _ c0, three1 _ _ c1, three2 _ _ _ c2]) rfl ⟨rfl, bset3 hl (by simp)⟩
        | exact bodyPost_ret (v := .tuple #[.agg #[.int .i64 (-1), .int .i64 n, .int .i64 d], .bool true]) (by simp [results, Try.results15, go_sem, two0 _ c0, three1 _ _ c1, three2 _ _ _ c2]) rfl ⟨rfl, bset3 hl (by simp)⟩
        | exact bodyPost_ret (v := .tuple #[.agg #[.int .i64 1, .int .i64 n, .int .i64 d], .bool true]) (by simp [results, Try.results15, go_sem, two0 _ c0, three1 _ _ c1, three2 _ _ _ c2]) rfl ⟨rfl, bset3 hl (by simp)⟩
end Go.Proofs.Ytecoekenkjgijaa
