/-
  What the functions on rationals answer, program and reference alike.
-/
import Derived.Test.YtkmakknjackdiaaDoorRat
namespace Go.Proofs.YtkmakknjackdiaaDoor
open Go.RowKit
set_option linter.unusedSimpArgs false
set_option linter.unusedVariables false

/-- A rational and whether there is one come back; what was there is as it was. -/
def Res1 (w : World) (x y : Int) (ok : Bool) (e : Ending) (w' : World) : Prop := e = .returned (.tuple #[.agg #[.int .i64 x, .int .i64 y], .bool ok]) ∧ Below w.heap.size w w'
def Res (w : World) (o : Option (Int × Int)) : Ending → World → Prop := match o with
  | none => Res1 w 0 0 false
  | some (x, y) => Res1 w x y true

theorem two0 {w1 : World} {b : Nat} {u : Value} (x : Value) (c0 : w1.cell? ⟨b, 0, none⟩ = some u) : (w1.setCell ⟨b, 0, none⟩ x).cell? ⟨b, 0, none⟩ = some x := World.cell?_setCell_same _ _ _ c0
theorem two1 {w1 : World} {b : Nat} {u : Value} (x y : Value) (c1 : w1.cell? ⟨b, 1, none⟩ = some u) : ((w1.setCell ⟨b, 0, none⟩ x).setCell ⟨b, 1, none⟩ y).cell? ⟨b, 1, none⟩ = some y :=
  World.cell?_setCell_same _ _ _ ((World.cell?_setCell_other _ _ _ _ (by simp)).trans c1)

/-- The parts of a reduction. -/
theorem make_parts (num den : Int) (h0 : den ≠ 0) (h1 : -4000000000000000000 ≤ num) (h2 : num ≤ 4000000000000000000) (h3 : -4000000000000000000 ≤ den) (h4 : den ≤ 4000000000000000000) :
    ∃ G q1 q2 : Int, G = (Int.gcd num den : Int) ∧ 0 < G ∧ G ≤ 4000000000000000000 ∧ num.tdiv (if den < 0 then -G else G) = q1 ∧ den.tdiv (if den < 0 then -G else G) = q2 ∧ IntKind.i64.wrap q1 = q1 ∧ IntKind.i64.wrap q2 = q2 ∧
      mk num den = (if ratB q1 q2 then some (q1, q2) else none) := by
  have gp : 0 < Int.gcd num den := Int.gcd_pos_of_ne_zero_right _ h0
  have gd : Int.gcd num den ≤ den.natAbs := Nat.le_of_dvd (by omega) (Int.natAbs_dvd_natAbs.2 (Int.gcd_dvd_right num den))
  have b1 := Int.natAbs_tdiv_le_natAbs num (sg num den)
  have b2 := Int.natAbs_tdiv_le_natAbs den (sg num den)
  exact ⟨_, num.tdiv (sg num den), den.tdiv (sg num den), rfl, by omega, by omega, rfl, rfl, IntWalk.i64_in _ (by omega), IntWalk.i64_in _ (by omega), rfl⟩

set_option maxHeartbeats 1000000 in
theorem spec_make (num den : Int) (w : World) (h0 : den ≠ 0) (h1 : -4000000000000000000 ≤ num) (h2 : num ≤ 4000000000000000000) (h3 : -4000000000000000000 ≤ den) (h4 : den ≤ 4000000000000000000) :
    Calls Tryd.prog 53 #[.int .i64 num, .int .i64 den] w (Res w (mk num den)) := by
  obtain ⟨G, q1, q2, hG, G0, G1, hq1, hq2, w1, w2, hm⟩ := make_parts num den h0 h1 h2 h3 h4
  have z1 : ¬ G = 0 := by omega
  have z2 : ¬ -G = 0 := by omega
  obtain ⟨x, hx⟩ : ∃ x : Int, x = (num.natAbs : Int) := ⟨_, rfl⟩
  obtain ⟨y, hy⟩ : ∃ y : Int, y = (den.natAbs : Int) := ⟨_, rfl⟩
  have HX := Lib.hid hx
  have HY := Lib.hid hy
  have HG : Hid (G = (Int.gcd x y : Int)) := by show _ = _; rw [hG, hx, hy]; unfold Int.gcd; simp
  have x0 : 0 ≤ x := by omega
  have x1 : x ≤ 4000000000000000000 := by omega
  have y0 : 0 ≤ y := by omega
  have y1 : y ≤ 4000000000000000000 := by omega
  rw [hm]
  clear hG hx hy hm
  by_cases hd : den < 0 <;> by_cases hv : ratB q1 q2 = true
  all_goals
    first
      | rw [if_pos hd] at hq1 hq2
      | rw [if_neg hd] at hq1 hq2
    first
      | (rw [if_pos hv]; show Calls _ _ _ _ (Res1 w q1 q2 true))
      | (rw [if_neg hv]; have hv : ratB q1 q2 = false := (by simpa using hv); show Calls _ _ _ _ (Res1 w 0 0 false))
    go_enter Tryd.func53, Tryd.ntmps53
    go_wp2_with fail
    refine (abs_at num x _ h1 h2 HX.out).mono ?_
    rintro e w' ⟨rfl, rfl⟩
    go_wp2_with fail
    refine (abs_at den y _ h3 h4 HY.out).mono ?_
    rintro e w' ⟨rfl, rfl⟩
    go_wp2_with fail
    refine (gcd_any x y G _ x0 x1 y0 y1 HG.out).mono ?_
    rintro e w' ⟨rfl, rfl⟩
    go_wp2_with fail
    go_region
    go_wp2_with fail
    refine (spec_valid q1 q2 _).mono ?_
    rintro e w1 ⟨rfl, hb⟩
    obtain ⟨hc, hf⟩ := bcell hb
    have hz : w.heap.size + 1 < w1.heap.size := by have := hb.size; simp at this; omega
    have c0 : w1.cell? ⟨w.heap.size, 0, none⟩ = some (.int .i64 0) := by rw [hc _ _ (by simp; omega)]; go_simp
    have c1 : w1.cell? ⟨w.heap.size, 1, none⟩ = some (.int .i64 0) := by rw [hc _ _ (by simp; omega)]; go_simp
    have hbl : Below w.heap.size w w1 := (((Below.refl _ _).alloc (Nat.le_refl _) _).alloc (by simp) _).drew.trans (hb.mono (by simp; omega))
    go_wp2
    first
      | exact bodyPost_ret (v := .tuple #[.agg #[.int .i64 q1, .int .i64 q2], .bool true]) (by simp [results, Tryd.results53, go_sem, two0 _ c0, two1 _ _ c1]) rfl ⟨rfl, (hbl.setCell (Nat.le_refl _) _).setCell (Nat.le_refl _) _⟩
      | exact bodyPost_ret (v := .tuple #[.agg #[.int .i64 0, .int .i64 0], .bool false]) (by simp [results, Tryd.results53, go_sem, two0 _ c0, two1 _ _ c1]) rfl ⟨rfl, (hbl.setCell (Nat.le_refl _) _).setCell (Nat.le_refl _) _⟩

set_option maxHeartbeats 1000000 in
theorem spec_of (num den : Int) (w : World) : Calls Tryd.prog 44 #[.int .i64 num, .int .i64 den] w (Res w (ofR num den)) := by
  by_cases h : den ≠ 0 ∧ -4000000000000000000 ≤ num ∧ num ≤ 4000000000000000000 ∧ -4000000000000000000 ≤ den ∧ den ≤ 4000000000000000000
  · obtain ⟨h0, h1, h2, h3, h4⟩ := h
    have hd0 : (den == 0) = false := by simpa using h0
    have ho : ofR num den = mk num den := by unfold ofR; rw [if_pos ⟨h0, h1, h2, h3, h4⟩]
    have f1 : inB num (-4000000000000000000) 4000000000000000000 = true := inB_yes ⟨h1, h2⟩
    have f2 : inB den (-4000000000000000000) 4000000000000000000 = true := inB_yes ⟨h3, h4⟩
    rw [ho]
    have HM : Hid (∀ W, Calls Tryd.prog 53 #[.int .i64 num, .int .i64 den] W (Res W (mk num den))) := fun W => spec_make num den W h0 h1 h2 h3 h4
    clear ho h0 h1 h2 h3 h4
    rcases hmk : mk num den with _ | ⟨x, y⟩
    all_goals
      rw [hmk] at HM
      clear hmk
      go_enter Tryd.func44, Tryd.ntmps44
      go_wp2_with (go_at_call 36; refine (in_any _ _ _ _).mono ?_; rintro e w' ⟨rfl, rfl⟩)
      refine (HM.out _).mono ?_
      rintro e w1 ⟨rfl, hb⟩
      obtain ⟨hc, hf⟩ := bcell hb
      have hz : w.heap.size < w1.heap.size := by have := hb.size; simp at this; omega
      have c0 : w1.cell? ⟨w.heap.size, 0, none⟩ = some (.int .i64 0) := by rw [hc _ _ (by simp)]; go_simp
      have c1 : w1.cell? ⟨w.heap.size, 1, none⟩ = some (.int .i64 0) := by rw [hc _ _ (by simp)]; go_simp
      have hbl : Below w.heap.size w w1 := ((Below.refl _ _).alloc (Nat.le_refl _) _).trans (hb.mono (by simp))
      go_wp2
      first
        | exact bodyPost_ret (v := .tuple #[.agg #[.int .i64 x, .int .i64 y], .bool true]) (by simp [results, Tryd.results44, go_sem, two0 _ c0, two1 _ _ c1]) rfl ⟨rfl, (hbl.setCell (Nat.le_refl _) _).setCell (Nat.le_refl _) _⟩
        | exact bodyPost_ret (v := .tuple #[.agg #[.int .i64 0, .int .i64 0], .bool false]) (by simp [results, Tryd.results44, go_sem, two0 _ c0, two1 _ _ c1]) rfl ⟨rfl, (hbl.setCell (Nat.le_refl _) _).setCell (Nat.le_refl _) _⟩
  · have ho : ofR num den = none := by unfold ofR; rw [if_neg h]
    rw [ho]
    show Calls _ _ _ _ (Res1 w 0 0 false)
    by_cases h0 : den = 0
    · subst h0
      have hd0 : ((0 : Int) == 0) = true := rfl
      clear h ho
      go_enter Tryd.func44, Tryd.ntmps44
      go_wp2_with (go_at_call 36; refine (in_any _ _ _ _).mono ?_; rintro e w' ⟨rfl, rfl⟩)
      exact bodyPost_ret (v := .tuple #[.agg #[.int .i64 0, .int .i64 0], .bool false]) (by simp [results, Tryd.results44, go_sem]) rfl ⟨rfl, (Below.refl _ _).alloc (Nat.le_refl _) _⟩
    · have hd0 : (den == 0) = false := by simpa using h0
      by_cases hn : -4000000000000000000 ≤ num ∧ num ≤ 4000000000000000000
      · have f1 : inB num (-4000000000000000000) 4000000000000000000 = true := inB_yes hn
        have f2 : inB den (-4000000000000000000) 4000000000000000000 = false := inB_no (fun h' => h ⟨h0, hn.1, hn.2, h'.1, h'.2⟩)
        clear h ho h0 hn
        go_enter Tryd.func44, Tryd.ntmps44
        go_wp2_with (go_at_call 36; refine (in_any _ _ _ _).mono ?_; rintro e w' ⟨rfl, rfl⟩)
        exact bodyPost_ret (v := .tuple #[.agg #[.int .i64 0, .int .i64 0], .bool false]) (by simp [results, Tryd.results44, go_sem]) rfl ⟨rfl, (Below.refl _ _).alloc (Nat.le_refl _) _⟩
      · have f1 : inB num (-4000000000000000000) 4000000000000000000 = false := inB_no hn
        clear h ho h0 hn
        go_enter Tryd.func44, Tryd.ntmps44
        go_wp2_with (go_at_call 36; refine (in_any _ _ _ _).mono ?_; rintro e w' ⟨rfl, rfl⟩)
        exact bodyPost_ret (v := .tuple #[.agg #[.int .i64 0, .int .i64 0], .bool false]) (by simp [results, Tryd.results44, go_sem]) rfl ⟨rfl, (Below.refl _ _).alloc (Nat.le_refl _) _⟩

end Go.Proofs.YtkmakknjackdiaaDoor
