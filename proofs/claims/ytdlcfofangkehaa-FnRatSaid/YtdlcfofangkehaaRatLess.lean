/-
  Differences and the order of rationals as the program makes them; the reference's order.
-/
import Derived.Test.YtdlcfofangkehaaRatArith
import Derived.OpenShut
namespace Go.Proofs.Ytdlcfofangkehaa
open Go.RowKit
set_option linter.unusedSimpArgs false
set_option linter.unusedVariables false

theorem wf_small {n : Int} (h : -4000000000000000000 ≤ n ∧ n ≤ 4000000000000000000) : (Lit.int .i64 n).wf = true := by
  have e1 : IntKind.i64.min = -9223372036854775808 := by rfl
  have e2 : IntKind.i64.max = 9223372036854775807 := by rfl
  simp only [Lit.wf, e1, e2, Bool.and_eq_true, decide_eq_true_eq]; omega
theorem wf_bounds {n : Int} (h : (Lit.int .i64 n).wf = true) : -9223372036854775808 ≤ n ∧ n ≤ 9223372036854775807 := by
  have e1 : IntKind.i64.min = -9223372036854775808 := by rfl
  have e2 : IntKind.i64.max = 9223372036854775807 := by rfl
  simp only [Lit.wf, e1, e2, Bool.and_eq_true, decide_eq_true_eq] at h; omega
theorem wrap_out {n : Int} (h : (Lit.int .i64 n).wf = true) (ho : ¬ (-4000000000000000000 ≤ n ∧ n ≤ 4000000000000000000)) : ∃ c : Int, IntKind.i64.wrap (-n) = c ∧ wrap64 (-n) = c ∧ ¬ (-1000000000 ≤ c ∧ c ≤ 1000000000) := by
  have hb := wf_bounds h
  refine ⟨IntKind.i64.wrap (-n), rfl, by unfold wrap64; rw [IntKind.wrap_i64], ?_⟩
  rw [IntKind.wrap_i64]
  omega
theorem ratB_far {n d : Int} (h : ¬ (-1000000000 ≤ n ∧ n ≤ 1000000000)) : ratB n d = false := ratB_no (fun h' => h ⟨h'.2.2.1, h'.2.2.2⟩)

theorem neg_in (n d : Int) (w : World) (h1 : -4000000000000000000 ≤ n) (h2 : n ≤ 4000000000000000000) : Calls Try.prog 40 #[.agg #[.int .i64 n, .int .i64 d]] w fun e w' => e = .returned (.agg #[.int .i64 (-n), .int .i64 d]) ∧ Below w.heap.size w w' := by
  go_enter Try.func40, Try.ntmps40
  go_wp2
  exact bodyPost_ret (v := .agg #[.int .i64 (-n), .int .i64 d]) (by simp [results, Try.results40, go_sem]) rfl ⟨rfl, ((Below.refl _ _).alloc (Nat.le_refl _) _).alloc (by simp) _⟩
theorem neg_out (n d c : Int) (w : World) (h1 : IntKind.i64.wrap (-n) = c) (h2 : wrap64 (-n) = c) : Calls Try.prog 40 #[.agg #[.int .i64 n, .int .i64 d]] w fun e w' => e = .returned (.agg #[.int .i64 c, .int .i64 d]) ∧ Below w.heap.size w w' := by
  go_enter Try.func40, Try.ntmps40
  go_wp2
  exact bodyPost_ret (v := .agg #[.int .i64 c, .int .i64 d]) (by simp [results, Try.results40, go_sem, h1, h2]) rfl ⟨rfl, ((Below.refl _ _).alloc (Nat.le_refl _) _).alloc (by simp) _⟩

theorem box3 {w w1 : World} {a b c d : Int} {T : TypeId} (hb : Below ((((w.alloc (.cells #[.int .i64 a, .int .i64 b] T)).alloc (.cells #[.int .i64 c, .int .i64 d] T)).alloc (.cells #[.int .i64 0, .int .i64 0] T)).drew).heap.size ((((w.alloc (.cells #[.int .i64 a, .int .i64 b] T)).alloc (.cells #[.int .i64 c, .int .i64 d] T)).alloc (.cells #[.int .i64 0, .int .i64 0] T)).drew) w1) :
    w.heap.size + 2 < w1.heap.size ∧ w1.cell? ⟨w.heap.size, 0, none⟩ = some (.int .i64 a) ∧ w1.cell? ⟨w.heap.size, 1, none⟩ = some (.int .i64 b) ∧
    w1.cell? ⟨w.heap.size + 2, 0, none⟩ = some (.int .i64 0) ∧ w1.cell? ⟨w.heap.size + 2, 1, none⟩ = some (.int .i64 0) ∧
    w1.frozen? ⟨w.heap.size + 2, 0, none⟩ = false ∧ w1.frozen? ⟨w.heap.size + 2, 1, none⟩ = false ∧ Below w.heap.size w w1 := by
  obtain ⟨hc, hf⟩ := bcell hb
  have hs : w.heap.size + 2 < w1.heap.size := by have := hb.size; simp at this; omega
  refine ⟨hs, ?_, ?_, ?_, ?_, ?_, ?_, ?_⟩
  · rw [hc _ _ (by simp; omega)]; go_simp
  · rw [hc _ _ (by simp; omega)]; go_simp
  · rw [hc _ _ (by simp)]; go_simp
  · rw [hc _ _ (by simp)]; go_simp
  · rw [hf _ _ (by simp)]; go_simp
  · rw [hf _ _ (by simp)]; go_simp
  · exact ((((Below.refl _ _).alloc (Nat.le_refl _) _).alloc (by simp) _).alloc (by simp; omega) _).drew.trans (hb.mono (by simp; omega))

set_option maxHeartbeats 2000000 in
theorem impl_sub_at (an ad bn bd c : Int) (o : Option (Int × Int)) (w : World)
    (HN : Hid (∀ W, Calls Try.prog 40 #[.agg #[.int .i64 bn, .int .i64 bd]] W fun e w' => e = .returned (.agg #[.int .i64 c, .int .i64 bd]) ∧ Below W.heap.size W w'))
    (HA : Hid (∀ W, Calls Try.prog 22 #[.agg #[.int .i64 an, .int .i64 ad], .agg #[.int .i64 c, .int .i64 bd]] W (Res W o))) :
    Calls Try.prog 20 #[.agg #[.int .i64 an, .int .i64 ad], .agg #[.int .i64 bn, .int .i64 bd]] w (Res w o) := by
  rcases o with _ | ⟨x, y⟩
  all_goals
    go_enter Try.func20, Try.ntmps20
    go_wp2_with fail
    go_region_with (first | (go_at_call 40; refine (HN.out _).mono ?_; rintro e w1 ⟨rfl, hb1⟩; obtain ⟨hs1, a0, a1, a4, a5, a6, a7, hl1⟩ := box3 hb1) | (go_at_call 22; refine (HA.out _).mono ?_; rintro e w2 ⟨rfl, hb2⟩; have hs2 := hb2.size; have c0 := (hb2.cell (p := ⟨w.heap.size + 2, 0, none⟩) hs1).trans a4; have c1 := (hb2.cell (p := ⟨w.heap.size + 2, 1, none⟩) hs1).trans a5; have c2 := (hb2.frozen (p := ⟨w.heap.size + 2, 0, none⟩) hs1).trans a6; have c3 := (hb2.frozen (p := ⟨w.heap.size + 2, 1, none⟩) hs1).trans a7))
    all_goals
      have hbl := hl1.trans (hb2.mono (by omega))
      go_wp2
      first
        | exact bodyPost_ret (v := .tuple #[.agg #[.int .i64 x, .int .i64 y], .bool true]) (by simp [results, Try.results20, go_sem, two0 _ c0, two1 _ _ c1]) rfl ⟨rfl, (hbl.setCell (by simp; omega) _).setCell (by simp; omega) _⟩
        | exact bodyPost_ret (v := .tuple #[.agg #[.int .i64 0, .int .i64 0], .bool false]) (by simp [results, Try.results20, go_sem, two0 _ c0, two1 _ _ c1]) rfl ⟨rfl, (hbl.setCell (by simp; omega) _).setCell (by simp; omega) _⟩
theorem impl_sub (an ad bn bd : Int) (w : World) (hw : (Lit.int .i64 bn).wf = true) : Calls Try.prog 20 #[.agg #[.int .i64 an, .int .i64 ad], .agg #[.int .i64 bn, .int .i64 bd]] w (Res w (subR an ad bn bd)) := by
  by_cases h : -4000000000000000000 ≤ bn ∧ bn ≤ 4000000000000000000
  · rw [sub_eq]
    exact impl_sub_at an ad bn bd (-bn) _ w (fun W => neg_in bn bd W h.1 h.2) (fun W => impl_add an ad (-bn) bd W)
  · obtain ⟨c, e1, e2, hc⟩ := wrap_out hw h
    have hb : ratB bn bd = false := ratB_far (by omega)
    have hcb : ratB c bd = false := ratB_far hc
    have e : subR an ad bn bd = addR an ad c bd := by rw [subR_no (by simp [hb]), addR_no (by simp [hcb])]
    rw [e]
    exact impl_sub_at an ad bn bd c _ w (fun W => neg_out bn bd c W e1 e2) (fun W => impl_add an ad c bd W)

theorem box2 {w w1 : World} {a b c d : Int} {T : TypeId} (hb : Below ((w.alloc (.cells #[.int .i64 a, .int .i64 b] T)).alloc (.cells #[.int .i64 c, .int .i64 d] T)).heap.size ((w.alloc (.cells #[.int .i64 a, .int .i64 b] T)).alloc (.cells #[.int .i64 c, .int .i64 d] T)) w1) :
    w.heap.size + 1 < w1.heap.size ∧ w1.cell? ⟨w.heap.size, 0, none⟩ = some (.int .i64 a) ∧ w1.cell? ⟨w.heap.size, 1, none⟩ = some (.int .i64 b) ∧
    w1.cell? ⟨w.heap.size + 1, 0, none⟩ = some (.int .i64 c) ∧ w1.cell? ⟨w.heap.size + 1, 1, none⟩ = some (.int .i64 d) ∧ Below w.heap.size w w1 := by
  obtain ⟨hc, hf⟩ := bcell hb
  have hs : w.heap.size + 1 < w1.heap.size := by have := hb.size; simp at this; omega
  refine ⟨hs, ?_, ?_, ?_, ?_, ?_⟩
  · rw [hc _ _ (by simp; omega)]; go_simp
  · rw [hc _ _ (by simp; omega)]; go_simp
  · rw [hc _ _ (by simp)]; go_simp
  · rw [hc _ _ (by simp)]; go_simp
  · exact (((Below.refl _ _).alloc (Nat.le_refl _) _).alloc (by simp) _).trans (hb.mono (by simp; omega))

theorem spec_less (an ad bn bd : Int) (w : World) : Calls Try.prog 24 #[.agg #[.int .i64 an, .int .i64 ad], .agg #[.int .i64 bn, .int .i64 bd]] w (Said w (lessB an ad bn bd)) := by
  by_cases h : ratB an ad = true ∧ ratB bn bd = true
  · obtain ⟨h1, h2⟩ := h
    obtain ⟨b1, b2, b3, b4⟩ := ratB_bd h2
    obtain ⟨a1, a2, a3, a4⟩ := ratB_bd h1
    obtain ⟨p1, p2⟩ := prod_in (a := an) (b := bd) ⟨a3, a4⟩ ⟨by omega, b2⟩
    obtain ⟨p3, p4⟩ := prod_in (a := bn) (b := ad) ⟨b3, b4⟩ ⟨by omega, a2⟩
    have HB : Hid (lessB an ad bn bd = decide (an * bd < bn * ad)) := by show _ = _; unfold lessB; simp [h1, h2]
    go_enter Try.func24, Try.ntmps24
    go_wp2_with fail
    refine (two_any an ad bn bd _).mono ?_
    rintro e w1 ⟨rfl, hb1⟩
    obtain ⟨hs1, a0, a1', a2', a3', hbl⟩ := box2 hb1
    go_wp2
    go_ret
    exact ⟨ret_bool HB.out.symm, hbl⟩
  · have h' : (ratB an ad && ratB bn bd) = false := by rw [← Bool.not_eq_true, Bool.and_eq_true]; exact h
    have HB : Hid (lessB an ad bn bd = false) := by
      show _ = _
      unfold lessB
      rw [← Bool.and_assoc, h']; rfl
    clear h
    go_enter Try.func24, Try.ntmps24
    go_wp2_with fail
    refine (two_any an ad bn bd _).mono ?_
    rintro e w1 ⟨rfl, hb1⟩
    obtain ⟨hs1, a0, a1', a2', a3', hbl⟩ := box2 hb1
    go_wp2
    go_ret
    exact ⟨ret_bool HB.out.symm, hbl⟩
theorem cmp_any (x y : Int) (w : World) (b : Bool) (hb : b = decide (x < y)) : Calls Try.prog 49 #[.int .i64 x, .int .i64 y] w fun e w' => ∃ c : Int, e = .returned (.int .i64 c) ∧ decide (c < 0) = b ∧ w = w' := by
  have HB := Lib.hid hb
  clear hb
  rcases Int.lt_trichotomy x y with h | h | h
  · go_enter Try.func49, Try.ntmps49
    go_wp2
    go_ret
    exact ⟨-1, rfl, by rw [HB.out]; simp [h], rfl⟩
  · subst h
    go_enter Try.func49, Try.ntmps49
    go_wp2
    go_ret
    exact ⟨0, rfl, by rw [HB.out]; simp, rfl⟩
  · go_enter Try.func49, Try.ntmps49
    go_wp2
    go_ret
    exact ⟨1, rfl, by rw [HB.out]; simp; omega, rfl⟩
theorem compare_any (an ad bn bd : Int) (b : Bool) (w : World) (h1 : ratB an ad = true) (h2 : ratB bn bd = true) (hb : b = decide (an * bd < bn * ad)) : Calls Try.prog 41 #[.agg #[.int .i64 an, .int .i64 ad], .agg #[.int .i64 bn, .int .i64 bd]] w fun e w' => ∃ c : Int, e = .returned (.int .i64 c) ∧ decide (c < 0) = b ∧ Below w.heap.size w w' := by
  obtain ⟨b1, b2, b3, b4⟩ := ratB_bd h2
  obtain ⟨a1, a2, a3, a4⟩ := ratB_bd h1
  obtain ⟨p1, p2⟩ := prod_in (a := an) (b := bd) ⟨a3, a4⟩ ⟨by omega, b2⟩
  obtain ⟨p3, p4⟩ := prod_in (a := bn) (b := ad) ⟨b3, b4⟩ ⟨by omega, a2⟩
  have HB := Lib.hid hb
  clear hb h1 h2
  go_enter Try.func41, Try.ntmps41
  go_wp2_with fail
  refine (cmp_any _ _ _ b HB.out).mono ?_
  rintro e w' ⟨c, rfl, hc, rfl⟩
  go_wp2
  go_ret
  exact ⟨c, rfl, hc, ((Below.refl _ _).alloc (Nat.le_refl _) _).alloc (by simp) _⟩
theorem impl_less (an ad bn bd : Int) (w : World) : Calls Try.prog 26 #[.agg #[.int .i64 an, .int .i64 ad], .agg #[.int .i64 bn, .int .i64 bd]] w (Said w (lessB an ad bn bd)) := by
  by_cases h1 : ratB an ad = true
  · by_cases h2 : ratB bn bd = true
    · have HB : Hid (decide (an * bd < bn * ad) = lessB an ad bn bd) := by show _ = _; unfold lessB; simp [h1, h2]
      have HC : Hid (∀ W, Calls Try.prog 41 #[.agg #[.int .i64 an, .int .i64 ad], .agg #[.int .i64 bn, .int .i64 bd]] W fun e w' => ∃ c : Int, e = .returned (.int .i64 c) ∧ decide (c < 0) = lessB an ad bn bd ∧ Below W.heap.size W w') := fun W => compare_any an ad bn bd _ W h1 h2 HB.out.symm
      go_enter Try.func26, Try.ntmps26
      go_wp2_with fail
      refine (impl_valid an ad _).mono ?_
      rintro e w1 ⟨rfl, hb1⟩
      obtain ⟨hs1, a0, a1, a2, a3, hl1⟩ := box2 hb1
      go_wp2_with fail
      refine (impl_valid bn bd _).mono ?_
      rintro e w2 ⟨rfl, hb2⟩
      have hs2 := hb2.size
      have c0 := (hb2.cell (p := ⟨w.heap.size, 0, none⟩) (by show w.heap.size < _; omega)).trans a0
      have c1 := (hb2.cell (p := ⟨w.heap.size, 1, none⟩) (by show w.heap.size < _; omega)).trans a1
      have c2 := (hb2.cell (p := ⟨w.heap.size + 1, 0, none⟩) hs1).trans a2
      have c3 := (hb2.cell (p := ⟨w.heap.size + 1, 1, none⟩) hs1).trans a3
      go_wp2_with fail
      refine (HC.out _).mono ?_
      rintro e w3 ⟨c, rfl, hc, hb3⟩
      go_wp2
      go_ret
      exact ⟨ret_bool (by first | exact hc | (rw [← hc])), (hl1.trans (hb2.mono (by omega))).trans (hb3.mono (by omega))⟩
    · have h2 : ratB bn bd = false := by simpa using h2
      have HB : Hid (lessB an ad bn bd = false) := by show _ = _; unfold lessB; simp [h2]
      go_enter Try.func26, Try.ntmps26
      go_wp2_with fail
      refine (impl_valid an ad _).mono ?_
      rintro e w1 ⟨rfl, hb1⟩
      obtain ⟨hs1, a0, a1, a2, a3, hl1⟩ := box2 hb1
      go_wp2_with fail
      refine (impl_valid bn bd _).mono ?_
      rintro e w2 ⟨rfl, hb2⟩
      go_wp2
      go_ret
      exact ⟨ret_bool HB.out.symm, hl1.trans (hb2.mono (by omega))⟩
  · have h1 : ratB an ad = false := by simpa using h1
    have HB : Hid (lessB an ad bn bd = false) := by show _ = _; unfold lessB; simp [h1]
    go_enter Try.func26, Try.ntmps26
    go_wp2_with fail
    refine (impl_valid an ad _).mono ?_
    rintro e w1 ⟨rfl, hb1⟩
    obtain ⟨hs1, a0, a1, a2, a3, hl1⟩ := box2 hb1
    go_wp2
    go_ret
    exact ⟨ret_bool HB.out.symm, hl1⟩
end Go.Proofs.Ytdlcfofangkehaa
