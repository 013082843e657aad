/-
  Marking a list's cells and asking for the marks; the exact law of 'SpinCoupled': alike, and in memory of its own.
-/
import Derived.Test.YtfmlejliphjeoaaLawsB
namespace Go.Proofs.Ytfmlejliphjeoaa
open Go.RowKit
set_option linter.unusedSimpArgs false
set_option linter.unusedVariables false

/-- After j marks: the places below j hold their marks. -/
def mk (f : Nat → Int) (j : Nat) : Nat → Int := fun i => if i < j then (i : Int) + 1 else f i
theorem mk_zero (f : Nat → Int) (i : Nat) : mk f 0 i = f i := by unfold mk; rw [if_neg (by omega)]

theorem mark_ints (B n c : Nat) (A : Option Addr) (f : Nat → Int) (w : World) (h : Seen w B A n f) (hn : n ≤ 1000000) :
    Calls Try.prog 28 #[.slice A n c, .int .i64 1] w fun e w' => e = .returned (.int .i64 ((n : Int) + 1)) ∧ Seen w' B A n (fun i => (i : Int) + 1) ∧ Below B w w' := by
  by_cases h0 : n = 0
  · subst h0
    clear h
    go_enter Try.func28, Try.ntmps28
    go_wp2
    go_loop [1, 5] (fun k i => k = .int .i64 1 ∧ i = .int .i64 0) (fun _ _ => 0)
    case atStart => exact ⟨rfl, rfl⟩
    case round =>
      obtain ⟨rfl, rfl⟩ := hrel
      go_wp2
      go_ret
      exact ⟨rfl, fun h => absurd h (by omega), Below.refl _ _⟩
  · obtain ⟨g, rfl, hg1, hg2, hcell⟩ := h (by omega)
    clear h
    have HS : Hid (∀ i, i < n → w.cell? ⟨g, i, none⟩ = some (.int .i64 (mk f 0 i)) ∧ w.frozen? ⟨g, i, none⟩ = false) := fun i hi => by rw [mk_zero]; exact hcell i hi
    clear hcell
    go_enter Try.func28, Try.ntmps28
    go_wp2
    go_loopw [1, 5] (fun kv iv wr => ∃ j : Nat, j ≤ n ∧ iv = .int .i64 (j : Int) ∧ kv = .int .i64 ((j : Int) + 1) ∧ g < wr.heap.size ∧ Hid (∀ i, i < n → wr.cell? ⟨g, i, none⟩ = some (.int .i64 (mk f j i)) ∧ wr.frozen? ⟨g, i, none⟩ = false) ∧ Below B w wr) (fun _ i _ => n - (intOf i).toNat)
    case atStart => exact ⟨0, by omega, rfl, rfl, hg2, HS, Below.refl _ _⟩
    case round =>
      obtain ⟨j, hj, rfl, rfl, hgr, hc, hb⟩ := hrel
      by_cases hlt : j < n
      · have q1 := (hc.out j hlt).1
        have q2 := (hc.out j hlt).2
        go_wp2
        go_roundw
        case rel =>
          refine ⟨j + 1, by omega, by go_num, by go_num, by simpa [World.setCell] using hgr, fun i hi => ⟨?_, (World.frozen?_setCell _ _ _ _).trans (hc.out i hi).2⟩, hb.setCell hg1 _⟩
          by_cases hij : i = j
          · subst hij
            rw [World.cell?_setCell_same _ _ _ q1]
            unfold mk
            rw [if_pos (by omega)]
          · refine (World.cell?_setCell_other _ _ _ _ (fun e => hij (by injection e; omega))).trans ((hc.out i hi).1.trans ?_)
            unfold mk
            by_cases h1 : i < j
            · rw [if_pos h1, if_pos (by omega)]
            · rw [if_neg h1, if_neg (by omega)]
        case measure => simp [intOf]; omega
      · obtain rfl : j = n := by omega
        go_wp2
        go_ret
        refine ⟨rfl, fun _ => ⟨g, rfl, hg1, hgr, fun i hi => ⟨?_, (hc.out i hi).2⟩⟩, hb⟩
        rw [(hc.out i hi).1]
        unfold mk
        rw [if_pos hi]

theorem held_ints (B n c : Nat) (A : Option Addr) (w : World) (h : Seen w B A n (fun i => (i : Int) + 1)) (hn : n ≤ 1000000) :
    Calls Try.prog 29 #[.slice A n c, .int .i64 1] w fun e w' => e = .returned (.int .i64 ((n : Int) + 1)) ∧ w = w' := by
  by_cases h0 : n = 0
  · subst h0
    clear h
    go_enter Try.func29, Try.ntmps29
    go_wp2
    go_loop [1, 5] (fun k i => k = .int .i64 1 ∧ i = .int .i64 0) (fun _ _ => 0)
    case atStart => exact ⟨rfl, rfl⟩
    case round =>
      obtain ⟨rfl, rfl⟩ := hrel
      go_wp2
      go_ret
      exact ⟨rfl, rfl⟩
  · obtain ⟨g, rfl, hg1, hg2, hcell⟩ := h (by omega)
    clear h
    have HS := Lib.hid hcell
    clear hcell
    go_enter Try.func29, Try.ntmps29
    go_wp2
    go_loop [1, 5] (fun kv iv => ∃ j : Nat, j ≤ n ∧ iv = .int .i64 (j : Int) ∧ kv = .int .i64 ((j : Int) + 1)) (fun _ i => n - (intOf i).toNat)
    case atStart => exact ⟨0, by omega, rfl, rfl⟩
    case round =>
      obtain ⟨j, hj, rfl, rfl⟩ := hrel
      by_cases hlt : j < n
      · have q1 := (HS.out j hlt).1
        go_wp2
        go_round
        case rel => exact ⟨j + 1, by omega, by go_num, by go_num⟩
        case measure => simp [intOf]; omega
      · obtain rfl : j = n := by omega
        go_wp2
        go_ret
        exact ⟨rfl, rfl⟩

theorem walk_FnExactSpinCoupled (a b : Int) (w : World) (_h0 : (Lit.int .i64 a).wf = true) (_h1 : (Lit.int .i64 b).wf = true) : Calls Try.prog 10 #[.int .i64 a, .int .i64 b] w (Holds w) := by
  clear _h0 _h1
  obtain ⟨d, n, hc⟩ := cpl_ex a b
  obtain ⟨n1, d1⟩ := hc.bd
  go_enter Try.func10, Try.ntmps10
  go_wp2_with fail
  refine (spec_coupled hc _).mono ?_
  rintro e w1 ⟨A0, c0, rfl, S0, hb1⟩
  go_wp2_with fail
  refine (impl_coupled hc _).mono ?_
  rintro e w2 ⟨A1, c1, rfl, S1, hb2⟩
  go_wp2_with fail
  refine (eq_ints n c1 c0 A1 A0 _ _ _ _ S1 (S0.below hb2) (by omega)).mono ?_
  rintro e w3 ⟨rfl, m1, rfl⟩
  go_wp2_with fail
  refine (mark_ints _ n c1 A1 _ _ (S1.drewN m1) (by omega)).mono ?_
  rintro e w4 ⟨rfl, S2, hb4⟩
  have hb5 : Below w1.heap.size w1 w4 := (below_drewN hb2 m1).trans hb4
  go_wp2_with fail
  refine (held_ints _ n c1 A1 _ S2 (by omega)).mono ?_
  rintro e w' ⟨rfl, rfl⟩
  have hq : ((n : Int) + 1 != (n : Int) + 1) = false := by simp
  go_wp2_with fail
  refine (impl_coupled hc _).mono ?_
  rintro e w6 ⟨A3, c3, rfl, S3, hb6⟩
  have hb7 : Below w1.heap.size w1 w6 := hb5.trans (hb6.mono hb5.size)
  go_wp2_with fail
  refine (eq_ints n c3 c0 A3 A0 _ _ _ _ S3 (S0.below hb7) (by omega)).mono ?_
  rintro e w7 ⟨rfl, m2, rfl⟩
  go_wp2_with fail
  refine (held_ints _ n c1 A1 _ ((S2.below hb6).drewN m2) (by omega)).mono ?_
  rintro e w' ⟨rfl, rfl⟩
  go_wp2
  go_ret
  exact ⟨rfl, below_drewN (hb1.trans (hb7.mono hb1.size)) m2⟩
end Go.Proofs.Ytfmlejliphjeoaa
