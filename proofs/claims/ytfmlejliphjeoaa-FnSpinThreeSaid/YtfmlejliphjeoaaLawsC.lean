/-
  More laws on coupled spins: they are those of a triangle; three spins couple to the same in any order.
-/
import Derived.Test.YtfmlejliphjeoaaLawsB
namespace Go.Proofs.Ytfmlejliphjeoaa
open Go.RowKit
set_option linter.unusedSimpArgs false
set_option linter.unusedVariables false

theorem walk_FnSpinCoupled (A : Option Addr) (n0 c0 : Nat) (w : World) (h : Code w.heap.size w A n0 c0) : Calls Try.prog 14 #[.slice A n0 c0] w (Holds w) := by
  have HC := draw_coupled w.heap.size n0 c0 A w h (Nat.le_refl _)
  have HO := Lib.hid HC
  clear h HC
  go_enter Try.func14, Try.ntmps14
  go_wp2_with fail
  · go_ret
    exact holds_same _
  · refine HO.out.mono ?_
    rintro e w1 ⟨a, b, ⟨a0, a1, b0, b1⟩, rfl, hb1⟩
    clear HO
    obtain ⟨d, n, hc⟩ := cpl_ex a b
    obtain ⟨n1, d1⟩ := hc.bd
    go_wp2_with fail
    refine (impl_coupled hc _).mono ?_
    rintro e w2 ⟨A1, c1, rfl, S1, hb2⟩
    go_wp2_with fail
    refine (spec_coupled hc _).mono ?_
    rintro e w3 ⟨A2, c2, rfl, S2, hb3⟩
    have S3 := S1.below hb3
    have hbl : Below w.heap.size w w3 := (hb1.trans (hb2.mono hb1.size)).trans (hb3.mono (Nat.le_trans hb1.size hb2.size))
    clear S1 hb1 hb2 hb3
    go_wp2_with fail
    refine (same_ints n c1 c2 A1 A2 _ _ _ _ S3 S2 (by omega)).mono ?_
    rintro e w4 ⟨rfl, m1, rfl⟩
    by_cases hn : n = 0
    · have hz : ((n : Int) == 0) = true := by rw [hn]; rfl
      clear hn
      go_wp2_with fail
      refine (same_ints n c1 c2 A1 A2 _ _ _ _ (S3.drewN _) (S2.drewN _) (by omega)).mono ?_
      rintro e w5 ⟨rfl, m2, rfl⟩
      go_wp2
      go_ret
      exact ⟨rfl, below_drewN hbl _⟩
    · have hz : ((n : Int) == 0) = false := by simp; omega
      have hn1 : 0 < n := by omega
      clear hn
      obtain ⟨g, rfl, hg1, hg2, hcell⟩ := S3 hn1
      have HCE := Lib.hid hcell
      clear hcell
      rcases hc with ⟨⟨a2, a3⟩, ⟨b2, b3⟩, hs, hd, hm⟩ | ⟨_, h0, _⟩
      case inr => omega
      have HD := Lib.hid hd
      have HM := Lib.hid hm
      clear hd hm
      go_wp2_with fail
      go_loop [7, 8] (fun kv cv => ∃ j k : Nat, j ≤ 25 ∧ k ≤ n ∧ cv = .int .i64 (j : Int) ∧ kv = .int .i64 (k : Int) ∧ Hid ((k = n ∨ j ≤ d + 2 * k) ∧ (k = 0 ∨ d + 2 * k < j + 2))) (fun _ i => 25 - (intOf i).toNat)
      case atStart => exact ⟨0, 0, by omega, by omega, rfl, rfl, by show _ ∧ _; omega⟩
      case round =>
        obtain ⟨j, k, hj, hk, rfl, rfl, hr⟩ := hrel
        by_cases hlt : j < 25
        · by_cases ht : triB a b (j : Int) = true
          · have hf : j = d + 2 * k ∧ k < n := by
              obtain ⟨_, _, _, h4, h5, h6, h7⟩ := (triB_iff a b (j : Int)).1 ht
              have h1 := HD.out
              have h2 := HM.out
              obtain ⟨r1, r2⟩ := hr.out
              omega
            have hne : ((d : Int) + 2 * (k : Int) != (j : Int)) = false := by rw [bne_eq_false_iff_eq]; omega
            have hkn := hf.2
            have q1 := (HCE.out k hkn).1
            have HF := Lib.hid hf.1
            clear hf
            go_wp2_with (go_at_call 22; refine (impl_tri _ _ _ _).mono ?_; rintro e w' ⟨rfl, rfl⟩)
            go_round
            case rel => exact ⟨j + 1, k + 1, by omega, by omega, by go_num, by go_num, by show _ ∧ _; have := HF.out; omega⟩
            case measure => simp [intOf]; omega
          · have ht : triB a b (j : Int) = false := by simpa using ht
            go_wp2_with (go_at_call 22; refine (impl_tri _ _ _ _).mono ?_; rintro e w' ⟨rfl, rfl⟩)
            go_round
            case rel =>
              refine ⟨j + 1, k, by omega, by omega, by go_num, rfl, ?_⟩
              show _ ∧ _
              have h0 := (triB_not a b (j : Int)).1 ht
              have h1 := HD.out
              have h2 := HM.out
              obtain ⟨r1, r2⟩ := hr.out
              refine ⟨?_, by omega⟩
              rcases r1 with r1 | r1
              · exact .inl r1
              · by_cases hkn : k = n
                · exact .inl hkn
                · right
                  by_cases he : j = d + 2 * k
                  · exfalso
                    apply h0
                    omega
                  · omega
            case measure => simp [intOf]; omega
        · obtain rfl : j = 25 := by omega
          have hkn : k = n := by
            have h1 := HD.out
            have h2 := HM.out
            obtain ⟨r1, r2⟩ := hr.out
            omega
          have hq : ((k : Int) == (n : Int)) = true := by rw [hkn]; exact beq_self_eq_true _
          clear hkn
          go_wp2
          go_ret
          exact ⟨rfl, below_drewN hbl _⟩

/-- How many numbers below k fulfil f. -/
def cnt (f : Nat → Bool) : Nat → Nat
  | 0 => 0
  | k + 1 => cnt f k + if f k then 1 else 0
theorem cnt_le (f : Nat → Bool) (k : Nat) : cnt f k ≤ k := by
  induction k with
  | zero => exact Nat.le_refl _
  | succ k ih => simp only [cnt]; split <;> omega
theorem cnt_yes {f : Nat → Bool} {k : Nat} (h : f k = true) : cnt f (k + 1) = cnt f k + 1 := by simp [cnt, h]
theorem cnt_no {f : Nat → Bool} {k : Nat} (h : f k = false) : cnt f (k + 1) = cnt f k := by simp [cnt, h]
def fst3 (d j : Nat) (i : Nat) : Bool := triB ((d : Int) + 2 * (i : Int)) 3 (j : Int)
def snd3 (a e j : Nat) (i : Nat) : Bool := triB (a : Int) ((e : Int) + 2 * (i : Int)) (j : Int)
theorem three_all : ((List.range 13).all fun a => (List.range 13).all fun b => decide (12 < a + b) || (List.range 25).all fun j => cnt (fst3 (max a b - min a b) j) (min a b + 1) == cnt (snd3 a (max b 3 - min b 3) j) (min b 3 + 1)) = true := by decide +kernel
theorem three_fin (a b j : Nat) (h : a + b ≤ 12) (hj : j < 25) : cnt (fst3 (max a b - min a b) j) (min a b + 1) = cnt (snd3 a (max b 3 - min b 3) j) (min b 3 + 1) := by
  have h1 := List.all_eq_true.1 three_all a (List.mem_range.2 (by omega))
  have h2 := List.all_eq_true.1 h1 b (List.mem_range.2 (by omega))
  rw [Bool.or_eq_true, decide_eq_true_eq] at h2
  rcases h2 with h2 | h2
  · omega
  · exact beq_iff_eq.1 (List.all_eq_true.1 h2 j (List.mem_range.2 hj))

theorem walk_FnSpinThree (A : Option Addr) (n0 c0 : Nat) (w : World) (h : Code w.heap.size w A n0 c0) : Calls Try.prog 15 #[.slice A n0 c0] w (Holds w) := by
  have HC := draw_coupled w.heap.size n0 c0 A w h (Nat.le_refl _)
  have HO := Lib.hid HC
  clear h HC
  go_enter Try.func15, Try.ntmps15
  go_wp2_with fail
  · go_ret
    exact holds_same _
  · refine HO.out.mono ?_
    rintro e w1 ⟨a, b, ⟨a0, a1, b0, b1⟩, rfl, hb1⟩
    clear HO
    obtain ⟨d, n, hc⟩ := cpl_ex a b
    obtain ⟨n1, d1⟩ := hc.bd
    go_wp2_with fail
    refine (impl_coupled hc _).mono ?_
    rintro e w2 ⟨A1, c1, rfl, S1, hb2⟩
    go_wp2_with fail
    refine (spec_coupled hc _).mono ?_
    rintro e w3 ⟨A2, c2, rfl, S2, hb3⟩
    have S3 := S1.below hb3
    have hbl : Below w.heap.size w w3 := (hb1.trans (hb2.mono hb1.size)).trans (hb3.mono (Nat.le_trans hb1.size hb2.size))
    clear S1 hb1 hb2 hb3
    go_wp2_with fail
    refine (same_ints n c1 c2 A1 A2 _ _ _ _ S3 S2 (by omega)).mono ?_
    rintro e w4 ⟨rfl, m1, rfl⟩
    by_cases hn : n = 0
    · have hz : ((n : Int) == 0) = true := by rw [hn]; rfl
      clear hn
      go_wp2_with fail
      refine (same_ints n c1 c2 A1 A2 _ _ _ _ (S3.drewN _) (S2.drewN _) (by omega)).mono ?_
      rintro e w5 ⟨rfl, m2, rfl⟩
      go_wp2
      go_ret
      exact ⟨rfl, below_drewN hbl _⟩
    · have hz : ((n : Int) == 0) = false := by simp; omega
      have hn1 : 0 < n := by omega
      clear hn
      by_cases h12 : 12 < a + b
      · go_wp2
        go_ret
        exact ⟨rfl, below_drewN hbl _⟩
      · obtain ⟨g, rfl, hg1, hg2, hcell⟩ := S3 hn1
        have HCE := Lib.hid hcell
        clear hcell S2
        rcases hc with ⟨⟨a2, a3⟩, ⟨b2, b3⟩, hs, hd, hm⟩ | ⟨_, h0, _⟩
        case inr => omega
        obtain ⟨a, rfl⟩ : ∃ x : Nat, a = x := ⟨a.toNat, by omega⟩
        obtain ⟨b, rfl⟩ : ∃ x : Nat, b = x := ⟨b.toNat, by omega⟩
        obtain rfl : d = max a b - min a b := by omega
        obtain rfl : n = min a b + 1 := by omega
        have h12n : a + b ≤ 12 := by omega
        have hcs : Cpl (b : Int) 3 (max b 3 - min b 3) (min b 3 + 1) := .inl ⟨⟨b2, b3⟩, by omega, by omega, by omega, by omega⟩
        have HT := Lib.hid (fun j hj => three_fin a b j h12n hj)
        clear hd hm
        generalize hde : max a b - min a b = d at *
        generalize hne : min a b + 1 = n at *
        generalize hee : max b 3 - min b 3 = e3 at *
        generalize hme : min b 3 + 1 = m at *
        have m1 : m ≤ 4 := by omega
        have m0 : 0 < m := by omega
        clear hde hne hee hme
        go_wp2_with fail
        refine (impl_coupled hcs _).mono ?_
        rintro e w5 ⟨A3, c3, rfl, S4, hb5⟩
        obtain ⟨g3, rfl, hg3, hg4, hcell3⟩ := S4 m0
        have HC3 := Lib.hid hcell3
        have HC1 : Hid (∀ i, i < n → w5.cell? ⟨g, i, none⟩ = some (.int .i64 ((d : Int) + 2 * (i : Int)))) := fun i hi => (hb5.cell (p := ⟨g, i, none⟩) hg2).trans (HCE.out i hi).1
        have hbl5 : Below w.heap.size w w5 := (below_drewN hbl _).trans (hb5.mono hbl.size)
        clear hcell3 HCE hb5 hbl S3 S4
        go_wp2_with fail
        go_loop [8] (fun jv => ∃ j : Nat, j ≤ 25 ∧ jv = .int .i64 (j : Int)) (fun i => 25 - (intOf i).toNat)
        case atStart => exact ⟨0, by omega, rfl⟩
        case round =>
          obtain ⟨j, hj, rfl⟩ := hrel
          by_cases hlt : j < 25
          · go_wp2_with fail
            go_loop [9, 10] (fun nv iv => ∃ k : Nat, k ≤ n ∧ iv = .int .i64 (k : Int) ∧ nv = .int .i64 (cnt (fst3 d j) k : Int)) (fun _ i => n - (intOf i).toNat)
            case atStart => exact ⟨0, by omega, rfl, rfl⟩
            case round =>
              obtain ⟨k, hk, rfl, rfl⟩ := hrel
              have ck := cnt_le (fst3 d j) k
              by_cases hkn : k < n
              · have q1 := HC1.out k hkn
                by_cases hf : triB ((d : Int) + 2 * (k : Int)) 3 (j : Int) = true
                · have HY := Lib.hid (cnt_yes (f := fst3 d j) (k := k) hf)
                  go_wp2_with (go_at_call 22; refine (impl_tri _ _ _ _).mono ?_; rintro e w' ⟨rfl, rfl⟩)
                  go_round
                  case rel => exact ⟨k + 1, by omega, by go_num, by rw [HY.out]; go_num⟩
                  case measure => simp [intOf]; omega
                · have hf : triB ((d : Int) + 2 * (k : Int)) 3 (j : Int) = false := by simpa using hf
                  have HY := Lib.hid (cnt_no (f := fst3 d j) (k := k) hf)
                  go_wp2_with (go_at_call 22; refine (impl_tri _ _ _ _).mono ?_; rintro e w' ⟨rfl, rfl⟩)
                  go_round
                  case rel => exact ⟨k + 1, by omega, by go_num, by rw [HY.out]⟩
                  case measure => simp [intOf]; omega
              · obtain rfl : k = n := by omega
                go_wp2_with fail
                go_loop [9, 11] (fun nv iv => ∃ q : Nat, q ≤ m ∧ iv = .int .i64 (q : Int) ∧ nv = .int .i64 ((cnt (fst3 d j) k : Int) - (cnt (snd3 a e3 j) q : Int))) (fun _ i => m - (intOf i).toNat)
                case atStart => exact ⟨0, by omega, rfl, by simp [cnt]⟩
                case round =>
                  obtain ⟨q, hq, rfl, rfl⟩ := hrel
                  have cq := cnt_le (snd3 a e3 j) q
                  by_cases hqm : q < m
                  · have q3 := (HC3.out q hqm).1
                    by_cases hf : triB (a : Int) ((e3 : Int) + 2 * (q : Int)) (j : Int) = true
                    · have HY := Lib.hid (cnt_yes (f := snd3 a e3 j) (k := q) hf)
                      go_wp2_with (go_at_call 22; refine (impl_tri _ _ _ _).mono ?_; rintro e w' ⟨rfl, rfl⟩)
                      go_round
                      case rel => exact ⟨q + 1, by omega, by go_num, by rw [HY.out]; go_num⟩
                      case measure => simp [intOf]; omega
                    · have hf : triB (a : Int) ((e3 : Int) + 2 * (q : Int)) (j : Int) = false := by simpa using hf
                      have HY := Lib.hid (cnt_no (f := snd3 a e3 j) (k := q) hf)
                      go_wp2_with (go_at_call 22; refine (impl_tri _ _ _ _).mono ?_; rintro e w' ⟨rfl, rfl⟩)
                      go_round
                      case rel => exact ⟨q + 1, by omega, by go_num, by rw [HY.out]⟩
                      case measure => simp [intOf]; omega
                  · obtain rfl : q = m := by omega
                    have hz : ((cnt (fst3 d j) k : Int) - (cnt (snd3 a e3 j) q : Int) != 0) = false := by
                      have := HT.out j hlt
                      rw [bne_eq_false_iff_eq]; omega
                    go_wp2
                    go_round
                    case rel => exact ⟨j + 1, by omega, by go_num⟩
                    case measure => simp [intOf]; omega
          · obtain rfl : j = 25 := by omega
            go_wp2
            go_ret
            exact ⟨rfl, hbl5⟩
end Go.Proofs.Ytfmlejliphjeoaa
