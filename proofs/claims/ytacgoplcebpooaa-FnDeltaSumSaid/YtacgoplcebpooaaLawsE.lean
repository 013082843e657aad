/-
  The laws on binomials.
-/
import Derived.Test.YtacgoplcebpooaaDelta
namespace Go.Proofs.Ytacgoplcebpooaa
open Go.RowKit
set_option linter.unusedSimpArgs false
set_option linter.unusedVariables false

/-- A law's walk ends so. -/
def Holds (w : World) (e : Ending) (w' : World) : Prop := e = .returned (.bool true) ∧ Below w.heap.size w w'
theorem holds_same (w : World) : Holds w (.returned (.bool true)) w := ⟨rfl, Below.refl _ _⟩

theorem walk_FnExactChoose (n k : Int) (w : World) (_h0 : (Lit.int .i64 n).wf = true) (_h1 : (Lit.int .i64 k).wf = true) : Calls Try.prog 3 #[.int .i64 n, .int .i64 k] w (Holds w) := by
  have hbl : Below w.heap.size w w := Below.refl _ _
  go_enter Try.func3, Try.ntmps3
  go_wp2_with (first | (go_at_call 14; refine (impl_choose _ _ _).mono ?_; rintro e w' ⟨rfl, hb'⟩; replace hbl := hbl.trans (hb'.mono hbl.size); clear hb') | (go_at_call 13; refine (spec_choose _ _ _).mono ?_; rintro e w' ⟨rfl, hb'⟩; replace hbl := hbl.trans (hb'.mono hbl.size); clear hb'))
  go_ret
  exact ⟨rfl, hbl⟩
theorem walk_FnExactDelta (a b c : Int) (w : World) (_h0 : (Lit.int .i64 a).wf = true) (_h1 : (Lit.int .i64 b).wf = true) (_h2 : (Lit.int .i64 c).wf = true) : Calls Try.prog 4 #[.int .i64 a, .int .i64 b, .int .i64 c] w (Holds w) := by
  have hbl : Below w.heap.size w w := Below.refl _ _
  go_enter Try.func4, Try.ntmps4
  go_wp2_with (first | (go_at_call 16; refine (impl_delta _ _ _ _).mono ?_; rintro e w' ⟨rfl, rfl⟩) | (go_at_call 15; refine (spec_delta _ _ _ _).mono ?_; rintro e w' ⟨rfl, hb'⟩; replace hbl := hbl.trans (hb'.mono hbl.size); clear hb'))
  go_ret
  exact ⟨rfl, hbl⟩

theorem walk_FnChoose (A : Option Addr) (n0 c0 : Nat) (w : World) (h : Code w.heap.size w A n0 c0) : Calls Try.prog 5 #[.slice A n0 c0] w (Holds w) := by
  have HC := draw_choose w.heap.size n0 c0 A w h (Nat.le_refl _)
  have HO := Lib.hid HC
  clear h HC
  go_enter Try.func5, Try.ntmps5
  go_wp2_with fail
  · go_ret
    exact holds_same _
  · refine HO.out.mono ?_
    rintro e w1 ⟨n, k, ⟨n1, n2, k1, k2⟩, rfl, hbl⟩
    clear HO
    by_cases hn : 0 ≤ n ∧ n ≤ 40
    · obtain ⟨x1, x2⟩ := chI_bd (k := k) hn
      by_cases hz : n = 0
      · subst hz
        have hz : ((0 : Int) == 0) = true := rfl
        by_cases hk : k = 0
        · subst hk
          have hx : chI 0 0 = 1 := rfl
          clear hn
          go_wp2_with (first | (go_at_call 14; refine (impl_choose _ _ _).mono ?_; rintro e w' ⟨rfl, hb'⟩; replace hbl := hbl.trans (hb'.mono hbl.size); clear hb') | (go_at_call 13; refine (spec_choose _ _ _).mono ?_; rintro e w' ⟨rfl, hb'⟩; replace hbl := hbl.trans (hb'.mono hbl.size); clear hb'))
          go_ret
          exact ⟨rfl, hbl⟩
        · have hx : chI 0 k = 0 := by rw [chI_nil, if_neg hk]
          clear hn hk
          go_wp2_with (first | (go_at_call 14; refine (impl_choose _ _ _).mono ?_; rintro e w' ⟨rfl, hb'⟩; replace hbl := hbl.trans (hb'.mono hbl.size); clear hb') | (go_at_call 13; refine (spec_choose _ _ _).mono ?_; rintro e w' ⟨rfl, hb'⟩; replace hbl := hbl.trans (hb'.mono hbl.size); clear hb'))
          go_ret
          exact ⟨rfl, hbl⟩
      · have hq : (n == 0) = false := by simpa using hz
        have hp := chI_pascal (n := n) (k := k) (by omega)
        have hp2 : (chI n k == chI (n - 1) (k - 1) + chI (n - 1) k) = true := by rw [hp]; exact beq_self_eq_true _
        obtain ⟨y1, y2⟩ := chI_lo (n - 1) (k - 1)
        obtain ⟨z1, z2⟩ := chI_lo (n - 1) k
        clear hn hp hz
        go_wp2_with (first | (go_at_call 14; refine (impl_choose _ _ _).mono ?_; rintro e w' ⟨rfl, hb'⟩; replace hbl := hbl.trans (hb'.mono hbl.size); clear hb') | (go_at_call 13; refine (spec_choose _ _ _).mono ?_; rintro e w' ⟨rfl, hb'⟩; replace hbl := hbl.trans (hb'.mono hbl.size); clear hb'))
        go_ret
        exact ⟨rfl, hbl⟩
    · have hx : chI n k = -1 := chI_out (by omega)
      clear hn
      go_wp2_with (first | (go_at_call 14; refine (impl_choose _ _ _).mono ?_; rintro e w' ⟨rfl, hb'⟩; replace hbl := hbl.trans (hb'.mono hbl.size); clear hb') | (go_at_call 13; refine (spec_choose _ _ _).mono ?_; rintro e w' ⟨rfl, hb'⟩; replace hbl := hbl.trans (hb'.mono hbl.size); clear hb'))
      go_ret
      exact ⟨rfl, hbl⟩

theorem walk_FnChooseMirror (A : Option Addr) (n0 c0 : Nat) (w : World) (h : Code w.heap.size w A n0 c0) : Calls Try.prog 6 #[.slice A n0 c0] w (Holds w) := by
  have HC := draw_choose w.heap.size n0 c0 A w h (Nat.le_refl _)
  have HO := Lib.hid HC
  clear h HC
  go_enter Try.func6, Try.ntmps6
  go_wp2_with fail
  · go_ret
    exact holds_same _
  · refine HO.out.mono ?_
    rintro e w1 ⟨n, k, ⟨n1, n2, k1, k2⟩, rfl, hbl⟩
    clear HO
    by_cases hn : 0 ≤ n ∧ n ≤ 40
    · obtain ⟨x1, x2⟩ := chI_bd (k := k) hn
      have hm := chI_mirror (k := k) hn
      have hm2 : (chI n (n - k) == chI n k) = true := by rw [hm]; exact beq_self_eq_true _
      have hp := chI_pos (k := k) hn
      by_cases hk : 0 ≤ k ∧ k ≤ n
      · have x3 : 0 < chI n k := hp.2 hk
        obtain ⟨k3, k4⟩ := hk
        clear hm hp hn
        go_wp2_with (first | (go_at_call 14; refine (impl_choose _ _ _).mono ?_; rintro e w' ⟨rfl, hb'⟩; replace hbl := hbl.trans (hb'.mono hbl.size); clear hb') | (go_at_call 13; refine (spec_choose _ _ _).mono ?_; rintro e w' ⟨rfl, hb'⟩; replace hbl := hbl.trans (hb'.mono hbl.size); clear hb'))
        go_ret
        exact ⟨ret_bool (by first | rfl | (simp; omega)), hbl⟩
      · have x3 : ¬ 0 < chI n k := fun h => hk (hp.1 h)
        have x4 : chI n k ≤ 0 := by omega
        have x5 : chI n k = 0 := by omega
        have hm3 : (chI n (n - k) == 0) = true := by rw [hm, x5]; rfl
        clear hm2 x1 x2 x4
        clear hm hp hn x3
        rcases (by omega : k < 0 ∨ (0 ≤ k ∧ n < k)) with hk | ⟨k3, hk⟩
        all_goals
          go_wp2_with (first | (go_at_call 14; refine (impl_choose _ _ _).mono ?_; rintro e w' ⟨rfl, hb'⟩; replace hbl := hbl.trans (hb'.mono hbl.size); clear hb') | (go_at_call 13; refine (spec_choose _ _ _).mono ?_; rintro e w' ⟨rfl, hb'⟩; replace hbl := hbl.trans (hb'.mono hbl.size); clear hb'))
          go_ret
          exact ⟨ret_bool (by first | rfl | (simp; omega)), hbl⟩
    · have hx : chI n k = -1 := chI_out (by omega)
      clear hn
      go_wp2_with (first | (go_at_call 14; refine (impl_choose _ _ _).mono ?_; rintro e w' ⟨rfl, hb'⟩; replace hbl := hbl.trans (hb'.mono hbl.size); clear hb') | (go_at_call 13; refine (spec_choose _ _ _).mono ?_; rintro e w' ⟨rfl, hb'⟩; replace hbl := hbl.trans (hb'.mono hbl.size); clear hb'))
      go_ret
      exact ⟨ret_bool (by first | rfl | (simp; omega)), hbl⟩

theorem walk_FnChooseTimes (A : Option Addr) (n0 c0 : Nat) (w : World) (h : Code w.heap.size w A n0 c0) : Calls Try.prog 10 #[.slice A n0 c0] w (Holds w) := by
  have HC := draw_choose w.heap.size n0 c0 A w h (Nat.le_refl _)
  have HO := Lib.hid HC
  clear h HC
  go_enter Try.func10, Try.ntmps10
  go_wp2_with fail
  · go_ret
    exact holds_same _
  · refine HO.out.mono ?_
    rintro e w1 ⟨n, k, ⟨n1, n2, k1, k2⟩, rfl, hbl⟩
    clear HO
    by_cases hn : 0 ≤ n ∧ n ≤ 40
    · obtain ⟨x1, x2⟩ := chI_bd (k := k) hn
      by_cases hz : n = 0
      · subst hz
        have hz : ((0 : Int) == 0) = true := rfl
        clear hn
        go_wp2_with (first | (go_at_call 14; refine (impl_choose _ _ _).mono ?_; rintro e w' ⟨rfl, hb'⟩; replace hbl := hbl.trans (hb'.mono hbl.size); clear hb') | (go_at_call 13; refine (spec_choose _ _ _).mono ?_; rintro e w' ⟨rfl, hb'⟩; replace hbl := hbl.trans (hb'.mono hbl.size); clear hb'))
        go_ret
        exact ⟨rfl, hbl⟩
      · have hq : (n == 0) = false := by simpa using hz
        by_cases hk : k ≤ 0
        · clear hn hz
          go_wp2_with (first | (go_at_call 14; refine (impl_choose _ _ _).mono ?_; rintro e w' ⟨rfl, hb'⟩; replace hbl := hbl.trans (hb'.mono hbl.size); clear hb') | (go_at_call 13; refine (spec_choose _ _ _).mono ?_; rintro e w' ⟨rfl, hb'⟩; replace hbl := hbl.trans (hb'.mono hbl.size); clear hb'))
          go_ret
          exact ⟨rfl, hbl⟩
        · have ht := chI_times (n := n) (k := k) (by omega) (by omega)
          have ht2 : (k * chI n k == n * chI (n - 1) (k - 1)) = true := by rw [ht]; exact beq_self_eq_true _
          obtain ⟨y1, y2⟩ := chI_bd (n := n - 1) (k := k - 1) (by omega)
          have b1 : 0 ≤ n * chI (n - 1) (k - 1) := Int.mul_nonneg hn.1 y1
          have b2 : n * chI (n - 1) (k - 1) ≤ 40 * 1099511627776 := Int.mul_le_mul hn.2 y2 y1 (by omega)
          have b3 : 0 ≤ k * chI n k := by rw [ht]; exact b1
          have b4 : k * chI n k ≤ 40 * 1099511627776 := by rw [ht]; exact b2
          have hk1 : 0 < k := by omega
          clear hn hz ht hk
          go_wp2_with (first | (go_at_call 14; refine (impl_choose _ _ _).mono ?_; rintro e w' ⟨rfl, hb'⟩; replace hbl := hbl.trans (hb'.mono hbl.size); clear hb') | (go_at_call 13; refine (spec_choose _ _ _).mono ?_; rintro e w' ⟨rfl, hb'⟩; replace hbl := hbl.trans (hb'.mono hbl.size); clear hb'))
          go_ret
          exact ⟨rfl, hbl⟩
    · have hx : chI n k = -1 := chI_out (by omega)
      clear hn
      go_wp2_with (first | (go_at_call 14; refine (impl_choose _ _ _).mono ?_; rintro e w' ⟨rfl, hb'⟩; replace hbl := hbl.trans (hb'.mono hbl.size); clear hb') | (go_at_call 13; refine (spec_choose _ _ _).mono ?_; rintro e w' ⟨rfl, hb'⟩; replace hbl := hbl.trans (hb'.mono hbl.size); clear hb'))
      go_ret
      exact ⟨rfl, hbl⟩

theorem walk_FnChooseRises (A : Option Addr) (n0 c0 : Nat) (w : World) (h : Code w.heap.size w A n0 c0) : Calls Try.prog 8 #[.slice A n0 c0] w (Holds w) := by
  have HC := draw_choose w.heap.size n0 c0 A w h (Nat.le_refl _)
  have HO := Lib.hid HC
  clear h HC
  go_enter Try.func8, Try.ntmps8
  go_wp2_with fail
  · go_ret
    exact holds_same _
  · refine HO.out.mono ?_
    rintro e w1 ⟨n, k, ⟨n1, n2, k1, k2⟩, rfl, hbl⟩
    clear HO
    by_cases hn : 0 ≤ n ∧ n ≤ 40
    · obtain ⟨x1, x2⟩ := chI_bd (k := k) hn
      by_cases hk : 0 ≤ k ∧ 2 * k + 1 ≤ n
      · obtain ⟨y1, y2⟩ := chI_bd (k := k + 1) hn
        have hr := chI_rises hn hk
        obtain ⟨k3, k4⟩ := hk
        rcases hr with hr | ⟨hr1, hr2⟩
        · clear hn
          go_wp2_with (first | (go_at_call 14; refine (impl_choose _ _ _).mono ?_; rintro e w' ⟨rfl, hb'⟩; replace hbl := hbl.trans (hb'.mono hbl.size); clear hb') | (go_at_call 13; refine (spec_choose _ _ _).mono ?_; rintro e w' ⟨rfl, hb'⟩; replace hbl := hbl.trans (hb'.mono hbl.size); clear hb'))
          all_goals
            go_ret
            exact ⟨rfl, hbl⟩
        · have e1 : (2 * k + 1 == n) = true := by simpa using hr1
          have e2 : (chI n (k + 1) == chI n k) = true := by simpa using hr2
          have e3 : ¬ chI n k < chI n (k + 1) := by omega
          have e4 : chI n (k + 1) ≤ chI n k := by omega
          clear hn hr1 hr2 e3
          go_wp2_with (first | (go_at_call 14; refine (impl_choose _ _ _).mono ?_; rintro e w' ⟨rfl, hb'⟩; replace hbl := hbl.trans (hb'.mono hbl.size); clear hb') | (go_at_call 13; refine (spec_choose _ _ _).mono ?_; rintro e w' ⟨rfl, hb'⟩; replace hbl := hbl.trans (hb'.mono hbl.size); clear hb'))
          all_goals
            go_ret
            exact ⟨rfl, hbl⟩
      · rcases (by omega : k < 0 ∨ (0 ≤ k ∧ n < 2 * k + 1)) with hk | ⟨k3, hk⟩
        all_goals
          clear hn
          go_wp2_with (first | (go_at_call 14; refine (impl_choose _ _ _).mono ?_; rintro e w' ⟨rfl, hb'⟩; replace hbl := hbl.trans (hb'.mono hbl.size); clear hb') | (go_at_call 13; refine (spec_choose _ _ _).mono ?_; rintro e w' ⟨rfl, hb'⟩; replace hbl := hbl.trans (hb'.mono hbl.size); clear hb'))
          go_ret
          exact ⟨rfl, hbl⟩
    · have hx : chI n k = -1 := chI_out (by omega)
      clear hn
      go_wp2_with (first | (go_at_call 14; refine (impl_choose _ _ _).mono ?_; rintro e w' ⟨rfl, hb'⟩; replace hbl := hbl.trans (hb'.mono hbl.size); clear hb') | (go_at_call 13; refine (spec_choose _ _ _).mono ?_; rintro e w' ⟨rfl, hb'⟩; replace hbl := hbl.trans (hb'.mono hbl.size); clear hb'))
      go_ret
      exact ⟨rfl, hbl⟩

theorem walk_FnChooseSum (A : Option Addr) (n0 c0 : Nat) (w : World) (h : Code w.heap.size w A n0 c0) : Calls Try.prog 9 #[.slice A n0 c0] w (Holds w) := by
  have HC := draw_choose w.heap.size n0 c0 A w h (Nat.le_refl _)
  have HO := Lib.hid HC
  clear h HC
  go_enter Try.func9, Try.ntmps9
  go_wp2_with fail
  · go_ret
    exact holds_same _
  · refine HO.out.mono ?_
    rintro e w1 ⟨n, k, ⟨n1, n2, k1, k2⟩, rfl, hbl⟩
    clear HO
    by_cases hn : 0 ≤ n ∧ n ≤ 40
    · obtain ⟨x1, x2⟩ := chI_bd (k := k) hn
      obtain ⟨N, rfl⟩ : ∃ N : Nat, n = N := ⟨n.toNat, by omega⟩
      have hN : N ≤ 40 := by omega
      clear hn
      go_wp2_with (first | (go_at_call 14; refine (impl_choose _ _ _).mono ?_; rintro e w' ⟨rfl, hb'⟩; replace hbl := hbl.trans (hb'.mono hbl.size); clear hb') | (go_at_call 13; refine (spec_choose _ _ _).mono ?_; rintro e w' ⟨rfl, hb'⟩; replace hbl := hbl.trans (hb'.mono hbl.size); clear hb'))
      go_loopw [7, 8, 9] (fun sv av iv wr => ∃ (i : Nat) (s al : Int), i ≤ N + 1 ∧ iv = .int .i64 (i : Int) ∧ sv = .int .i64 s ∧ av = .int .i64 al ∧ 0 ≤ s ∧ s ≤ 1099511627776 ∧ 1 ≤ al ∧ al ≤ 1099511627776 ∧ Hid (s = sumI (fun i => chI N i) i ∧ al = ((2 ^ (i - 1) : Nat) : Int)) ∧ Below w.heap.size w wr) (fun _ _ i _ => N + 1 - (intOf i).toNat)
      case atStart => exact ⟨0, 0, 1, by omega, rfl, rfl, rfl, by omega, by omega, by omega, by omega, ⟨rfl, rfl⟩, hbl⟩
      case round =>
        clear hbl
        obtain ⟨i, s, al, hi, rfl, rfl, rfl, s0, s1, al0, al1, hS, hbl⟩ := hrel
        by_cases hlt : i ≤ N
        · have hs2 : Hid (s + chI N i = sumI (fun i => chI N i) (i + 1)) := by show _ = _; rw [hS.out.1]; rfl
          have hsb : 0 ≤ s + chI N i ∧ s + chI N i ≤ 1099511627776 := by rw [hs2.out]; exact sum_all_bd hN (by omega)
          obtain ⟨c1, c2⟩ := hsb
          obtain ⟨z1, z2⟩ := chI_lo N i
          by_cases hi0 : i = 0
          · subst hi0
            have hA : Hid (al = ((2 ^ (0 + 1 - 1) : Nat) : Int)) := hS.out.2
            have e0 : ((0 : Nat) : Int) = 0 := rfl
            rw [e0] at hs2 c1 c2 z1 z2 ⊢
            clear e0
            go_wp2_with (first | (go_at_call 14; refine (impl_choose _ _ _).mono ?_; rintro e w' ⟨rfl, hb'⟩; replace hbl := hbl.trans (hb'.mono hbl.size); clear hb') | (go_at_call 13; refine (spec_choose _ _ _).mono ?_; rintro e w' ⟨rfl, hb'⟩; replace hbl := hbl.trans (hb'.mono hbl.size); clear hb'))
            go_roundw
            case rel => exact ⟨1, _, _, by omega, rfl, rfl, rfl, by omega, by omega, by omega, by omega, ⟨hs2.out, hA.out⟩, hbl⟩
            case measure => simp [intOf]
          · have hA : Hid (2 * al = ((2 ^ (i + 1 - 1) : Nat) : Int)) := by
              show _ = _
              rw [hS.out.2, show i + 1 - 1 = (i - 1) + 1 by omega, Nat.pow_succ]
              omega
            have hab : 2 * al ≤ 1099511627776 := by
              rw [hA.out]
              have : 2 ^ (i + 1 - 1) ≤ 2 ^ 40 := Nat.pow_le_pow_right (by omega) (by omega)
              omega
            have hi1 : 0 < (i : Int) := by omega
            go_wp2_with (first | (go_at_call 14; refine (impl_choose _ _ _).mono ?_; rintro e w' ⟨rfl, hb'⟩; replace hbl := hbl.trans (hb'.mono hbl.size); clear hb') | (go_at_call 13; refine (spec_choose _ _ _).mono ?_; rintro e w' ⟨rfl, hb'⟩; replace hbl := hbl.trans (hb'.mono hbl.size); clear hb'))
            go_roundw
            case rel => exact ⟨i + 1, _, _, by omega, by go_num, rfl, rfl, by omega, by omega, by omega, by omega, ⟨hs2.out, hA.out⟩, hbl⟩
            case measure => simp [intOf]; omega
        · obtain rfl : i = N + 1 := by omega
          have hq : (s == al) = true := by
            rw [hS.out.1, hS.out.2, sum_all hN]
            exact beq_self_eq_true _
          go_wp2
          go_ret
          exact ⟨rfl, hbl⟩
    · have hx : chI n k = -1 := chI_out (by omega)
      clear hn
      go_wp2_with (first | (go_at_call 14; refine (impl_choose _ _ _).mono ?_; rintro e w' ⟨rfl, hb'⟩; replace hbl := hbl.trans (hb'.mono hbl.size); clear hb') | (go_at_call 13; refine (spec_choose _ _ _).mono ?_; rintro e w' ⟨rfl, hb'⟩; replace hbl := hbl.trans (hb'.mono hbl.size); clear hb'))
      go_ret
      exact ⟨rfl, hbl⟩

theorem walk_FnChooseParts (A : Option Addr) (n0 c0 : Nat) (A' : Option Addr) (n0' c0' : Nat) (w : World) (h : Code w.heap.size w A n0 c0) (h' : Code w.heap.size w A' n0' c0') : Calls Try.prog 7 #[.slice A n0 c0, .slice A' n0' c0'] w (Holds w) := by
  have HC := draw_choose w.heap.size n0 c0 A w h (Nat.le_refl _)
  have HO := Lib.hid HC
  clear h HC
  obtain ⟨hnc', hc', _⟩ := h'
  by_cases hl1 : 1048576 < n0
  · go_enter Try.func7, Try.ntmps7
    go_wp2_with fail
    go_ret
    exact holds_same _
  by_cases hl2 : 1048576 < n0'
  · go_enter Try.func7, Try.ntmps7
    go_wp2_with fail
    go_ret
    exact holds_same _
  have dl1 : decide ((1048576 : Int) < (n0 : Int)) = false := by simp; omega
  have dl2 : decide ((1048576 : Int) < (n0' : Int)) = false := by simp; omega
  go_enter Try.func7, Try.ntmps7
  go_wp2_with fail
  · refine HO.out.mono ?_
    rintro e w1 ⟨n, k, ⟨n1, n2, k1, k2⟩, rfl, hbl⟩
    clear HO
    by_cases hn : 0 ≤ n ∧ n ≤ 40
    · obtain ⟨x1, x2⟩ := chI_bd (k := k) hn
      obtain ⟨N, rfl⟩ : ∃ N : Nat, n = N := ⟨n.toNat, by omega⟩
      have hN : N ≤ 40 := by omega
      obtain ⟨p, hp, hpN⟩ : ∃ p : Nat, (n0' : Int) % ((N : Int) + 1) = (p : Int) ∧ p ≤ N := ⟨n0' % (N + 1), by rw [show (N : Int) + 1 = ((N + 1 : Nat) : Int) by omega]; rfl, by have := Nat.mod_lt n0' (by omega : 0 < N + 1); omega⟩
      clear hn
      have dl3 : decide (chI (N : Int) k < 0) = false := by simp; omega
      go_wp2_with (first | (go_at_call 14; refine (impl_choose _ _ _).mono ?_; rintro e w' ⟨rfl, hb'⟩; replace hbl := hbl.trans (hb'.mono hbl.size); clear hb') | (go_at_call 13; refine (spec_choose _ _ _).mono ?_; rintro e w' ⟨rfl, hb'⟩; replace hbl := hbl.trans (hb'.mono hbl.size); clear hb'))
      rw [hp]
      have HP := Lib.hid hp
      clear hp
      go_loopw [10, 11] (fun sv iv wr => ∃ (i : Nat) (s : Int), i ≤ p + 1 ∧ iv = .int .i64 (i : Int) ∧ sv = .int .i64 s ∧ 0 ≤ s ∧ s ≤ 1099511627776 ∧ Hid (s = sumI (fun i => chI p i * chI ((N - p : Nat) : Int) (k - i)) i) ∧ Below w.heap.size w wr) (fun _ i _ => p + 1 - (intOf i).toNat)
      case atStart => exact ⟨0, 0, by omega, rfl, rfl, by omega, by omega, rfl, hbl⟩
      case round =>
        clear hbl
        obtain ⟨i, s, hi, rfl, rfl, s0, s1, hS, hbl⟩ := hrel
        by_cases hlt : i ≤ p
        · have eN : ((N - p : Nat) : Int) = (N : Int) - (p : Int) := by omega
          have hs2 : Hid (s + chI p i * chI ((N : Int) - (p : Int)) (k - i) = sumI (fun i => chI p i * chI ((N - p : Nat) : Int) (k - i)) (i + 1)) := by show _ = _; rw [hS.out, ← eN]; rfl
          have hsb : 0 ≤ s + chI p i * chI ((N : Int) - (p : Int)) (k - i) ∧ s + chI p i * chI ((N : Int) - (p : Int)) (k - i) ≤ 1099511627776 := by rw [hs2.out]; exact sum_parts_bd (by omega) (by omega)
          have hpb : 0 ≤ chI p i * chI ((N : Int) - (p : Int)) (k - i) ∧ chI p i * chI ((N : Int) - (p : Int)) (k - i) ≤ 1099511627776 := by rw [← eN]; exact part_bd (by omega) i (by omega)
          obtain ⟨c1, c2⟩ := hsb
          obtain ⟨d1, d2⟩ := hpb
          clear eN
          go_wp2_with (first | (go_at_call 14; refine (impl_choose _ _ _).mono ?_; rintro e w' ⟨rfl, hb'⟩; replace hbl := hbl.trans (hb'.mono hbl.size); clear hb') | (go_at_call 13; refine (spec_choose _ _ _).mono ?_; rintro e w' ⟨rfl, hb'⟩; replace hbl := hbl.trans (hb'.mono hbl.size); clear hb'))
          go_roundw
          case rel => exact ⟨i + 1, _, by omega, by go_num, rfl, by omega, by omega, hs2.out, hbl⟩
          case measure => simp [intOf]; omega
        · obtain rfl : i = p + 1 := by omega
          have hq : (s == chI N k) = true := by
            rw [hS.out, sum_parts (by omega), show p + (N - p) = N by omega]
            exact beq_self_eq_true _
          go_wp2
          go_ret
          exact ⟨rfl, hbl⟩
    · have hx : chI n k = -1 := chI_out (by omega)
      clear hn
      go_wp2_with (first | (go_at_call 14; refine (impl_choose _ _ _).mono ?_; rintro e w' ⟨rfl, hb'⟩; replace hbl := hbl.trans (hb'.mono hbl.size); clear hb') | (go_at_call 13; refine (spec_choose _ _ _).mono ?_; rintro e w' ⟨rfl, hb'⟩; replace hbl := hbl.trans (hb'.mono hbl.size); clear hb'))
      go_ret
      exact ⟨rfl, hbl⟩

/-- What a draw of three leaves. -/
theorem draw_three (B g : Nat) (p : Int) (w1 : World) (hR1 : Rd B w1 g p) (hp0 : 0 ≤ p) (hp1 : p ≤ 900000) : Calls Try.prog 25 #[.pointer (some ⟨g, 0, none⟩), .int .i64 8] w1 (Drew3 B w1 fun _ _ _ => True) := by
  go_enter Try.func25, Try.ntmps25
  go_wp2_with fail
  refine (pick_any B g _ _ _ hR1 (by omega) (by omega) (by omega) (by omega)).mono ?_
  rintro e w2 ⟨a, rfl, a0, a1, -, hR2, hb2⟩
  have a2 := a1 (by omega)
  clear a1
  go_wp2_with fail
  refine (pick_any B g _ _ _ hR2 (by omega) (by omega) (by omega) (by omega)).mono ?_
  rintro e w3 ⟨b, rfl, b0, b1, -, hR3, hb3⟩
  have b2 := b1 (by omega)
  clear b1
  go_wp2_with fail
  refine (abs_spec _ _ (by omega)).mono ?_
  rintro e w' ⟨rfl, rfl⟩
  go_wp2_with fail
  all_goals
    refine (pick_any B g _ _ _ hR3 (by omega) (by omega) (by omega) (by omega)).mono ?_
    rintro e w4 ⟨y, rfl, y0, y1, -, hR4, hb4⟩
    have y2 := y1 (by omega)
    clear y1
    go_wp2_with fail
    refine (pick_any B g _ _ _ hR4 (by omega) (by omega) (by omega) (by omega)).mono ?_
    rintro e w5 ⟨x, rfl, x0, x1, -, hR5, hb5⟩
    have x2 := x1 (by omega)
    clear x1
    go_wp2_with fail
    · refine (pick_any B g _ _ _ hR5 (by omega) (by omega) (by omega) (by omega)).mono ?_
      rintro e w6 ⟨z, rfl, z0, z1, -, hR6, hb6⟩
      go_wp2
      go_ret3
      exact ⟨_, _, _, trivial, rfl, (((hb2.trans hb3).trans hb4).trans hb5).trans hb6⟩
    · go_ret3
      exact ⟨_, _, _, trivial, rfl, ((hb2.trans hb3).trans hb4).trans hb5⟩

theorem draw_delta (B n c : Nat) (A : Option Addr) (w : World) (h : Code B w A n c) (hB : B ≤ w.heap.size) :
    Calls Try.prog 18 #[.slice A n c] w (Drew3 B w fun _ _ _ => True) := by
  have HC := open_any B n c A w h hB
  have HO := Lib.hid HC
  clear h HC
  go_enter Try.func18, Try.ntmps18
  go_wp2_with fail
  refine HO.out.mono ?_
  rintro e w1 ⟨g, rfl, hR1, hb1⟩
  go_wp2_with fail
  refine (pick_any B g _ _ _ hR1 (by omega) (by omega) (by omega) (by omega)).mono ?_
  rintro e w2 ⟨j, rfl, j0, j1, -, hR2, hb2⟩
  have j2 := j1 (by omega)
  clear j1
  go_wp2_with fail
  · go_ret3
    exact ⟨_, _, _, trivial, rfl, hb1.trans hb2⟩
  · refine (draw_three B g _ _ hR2 (by omega) (by omega)).mono ?_
    rintro e w3 ⟨a, b, c, -, rfl, hb3⟩
    go_wp2
    go_ret3
    exact ⟨_, _, _, trivial, rfl, (hb1.trans hb2).trans hb3⟩

theorem deltaI_none {a b c : Int} (h : triB a b c = false ∨ 18 < (a + b + c) / 2) : deltaI a b c = 0 := by unfold deltaI; rw [if_pos h]
theorem deltaI_some {a b c : Int} (h : triB a b c = true) (hs : (a + b + c) / 2 ≤ 18) : deltaI a b c = facI ((a + b + c) / 2 + 1) / (facI ((a + b - c) / 2) * facI ((a - b + c) / 2) * facI ((b + c - a) / 2)) := by
  unfold deltaI; rw [if_neg (by simp [h]; omega)]
theorem deltaI_pos {a b c : Int} (h : triB a b c = true) (hs : (a + b + c) / 2 ≤ 18) : 1 ≤ deltaI a b c := by
  obtain ⟨x, y, z, hb, e0, e1, e2, e3⟩ := delta_parts h hs
  rw [delta_choose h hs, e0, e1, e2, show ((x + y + z : Nat) : Int) - (x : Int) = ((y + z : Nat) : Int) by omega, chI_in (by omega), chI_in (by omega)]
  have := (delta_bd hb).2.2
  rw [show ((x + y + z : Nat) : Int) + 1 = ((x + y + z + 1 : Nat) : Int) by omega, ← Int.natCast_mul, ← Int.natCast_mul]
  omega
theorem deltaI_turn {a b c : Int} (h : triB a b c = true) (hs : (a + b + c) / 2 ≤ 18) : deltaI b c a = deltaI a b c ∧ deltaI c b a = deltaI a b c ∧ deltaI b a c = deltaI a b c := by
  obtain ⟨h1, h2, h3, h4, h5, h6, h7⟩ := (triB_iff a b c).1 h
  have f1 : triB b c a = true := (triB_iff _ _ _).2 (by omega)
  have f2 : triB c b a = true := (triB_iff _ _ _).2 (by omega)
  have f3 : triB b a c = true := (triB_iff _ _ _).2 (by omega)
  rw [deltaI_some h hs, deltaI_some f1 (by omega), deltaI_some f2 (by omega), deltaI_some f3 (by omega)]
  rw [show b + c + a = a + b + c by omega, show c + b + a = a + b + c by omega, show b + a + c = a + b + c by omega]
  rw [show b - c + a = a + b - c by omega, show c + a - b = a - b + c by omega, show c + b - a = b + c - a by omega, show c - b + a = a - b + c by omega, show b + a - c = a + b - c by omega, show b - a + c = b + c - a by omega, show a + c - b = a - b + c by omega]
  generalize facI ((a + b - c) / 2) = x
  generalize facI ((a - b + c) / 2) = y
  generalize facI ((b + c - a) / 2) = z
  refine ⟨?_, ?_, ?_⟩
  · rw [show z * x * y = x * y * z by grind]
  · rw [show z * y * x = x * y * z by grind]
  · rw [show x * z * y = x * y * z by grind]
theorem deltaI_sum {a b : Int} (ha : 0 ≤ a ∧ a ≤ 24) (hb : 0 ≤ b ∧ b ≤ 24) (hs : a + b ≤ 18) : deltaI a b (a + b) = (a + b + 1) * chI (a + b) a := by
  have ht : triB a b (a + b) = true := (triB_iff _ _ _).2 (by omega)
  rw [delta_choose ht (by omega), show (a + b + (a + b)) / 2 = a + b by omega, show (a + b - (a + b)) / 2 = 0 by omega, show (a - b + (a + b)) / 2 = a by omega, Int.sub_zero]
  have : chI (a + b) 0 = 1 := by
    unfold chI; rw [if_neg (by omega), if_neg (by omega), Int.toNat_zero, ch_zero]; rfl
  rw [this, Int.mul_one]

theorem walk_FnDelta (A : Option Addr) (n0 c0 : Nat) (w : World) (h : Code w.heap.size w A n0 c0) : Calls Try.prog 11 #[.slice A n0 c0] w (Holds w) := by
  have HC := draw_delta w.heap.size n0 c0 A w h (Nat.le_refl _)
  have HO := Lib.hid HC
  clear h HC
  go_enter Try.func11, Try.ntmps11
  go_wp2_with fail
  · go_ret
    exact holds_same _
  · refine HO.out.mono ?_
    rintro e w1 ⟨a, b, c, -, rfl, hbl⟩
    clear HO
    by_cases hd : triB a b c = true ∧ (a + b + c) / 2 ≤ 18
    · obtain ⟨ht, hs⟩ := hd
      have hp := deltaI_pos ht hs
      have hz : (deltaI a b c == 0) = false := by simp; omega
      obtain ⟨⟨a1, a2⟩, ⟨b1, b2⟩, ⟨c1, c2⟩, m, t1, t2, t3⟩ := (triB_iff a b c).1 ht
      obtain ⟨d1, d2, d3⟩ := deltaI_turn ht hs
      have e1 : (deltaI b c a == deltaI a b c) = true := by simpa using d1
      have e2 : (deltaI c b a == deltaI a b c) = true := by simpa using d2
      have e3 : (deltaI b a c == deltaI a b c) = true := by simpa using d3
      clear d1 d2 d3 hs m t1 t2 t3 hp
      go_wp2_with (first | (go_at_call 16; refine (impl_delta _ _ _ _).mono ?_; rintro e w' ⟨rfl, rfl⟩) | (go_at_call 15; refine (spec_delta _ _ _ _).mono ?_; rintro e w' ⟨rfl, hb'⟩; replace hbl := hbl.trans (hb'.mono hbl.size); clear hb') | (go_at_call 19; refine (impl_tri _ _ _ _).mono ?_; rintro e w' ⟨rfl, rfl⟩) | (go_at_call 14; refine (impl_choose _ _ _).mono ?_; rintro e w' ⟨rfl, hb'⟩; replace hbl := hbl.trans (hb'.mono hbl.size); clear hb'))
      go_ret
      exact ⟨rfl, hbl⟩
    · have hx : deltaI a b c = 0 := deltaI_none (by by_cases h : triB a b c = true; exact .inr (Int.not_le.1 fun h' => hd ⟨h, h'⟩); exact .inl (by simpa using h))
      clear hd
      go_wp2_with (first | (go_at_call 16; refine (impl_delta _ _ _ _).mono ?_; rintro e w' ⟨rfl, rfl⟩) | (go_at_call 15; refine (spec_delta _ _ _ _).mono ?_; rintro e w' ⟨rfl, hb'⟩; replace hbl := hbl.trans (hb'.mono hbl.size); clear hb') | (go_at_call 19; refine (impl_tri _ _ _ _).mono ?_; rintro e w' ⟨rfl, rfl⟩) | (go_at_call 14; refine (impl_choose _ _ _).mono ?_; rintro e w' ⟨rfl, hb'⟩; replace hbl := hbl.trans (hb'.mono hbl.size); clear hb'))
      go_ret
      exact ⟨rfl, hbl⟩

theorem walk_FnDeltaSum (A : Option Addr) (n0 c0 : Nat) (w : World) (h : Code w.heap.size w A n0 c0) : Calls Try.prog 12 #[.slice A n0 c0] w (Holds w) := by
  have HC := draw_delta w.heap.size n0 c0 A w h (Nat.le_refl _)
  have HO := Lib.hid HC
  clear h HC
  go_enter Try.func12, Try.ntmps12
  go_wp2_with fail
  · go_ret
    exact holds_same _
  · refine HO.out.mono ?_
    rintro e w1 ⟨a, b, c, -, rfl, hbl⟩
    clear HO
    by_cases hd : triB a b c = true ∧ (a + b + c) / 2 ≤ 18
    · obtain ⟨ht, hs⟩ := hd
      have hp := deltaI_pos ht hs
      have hz : (deltaI a b c == 0) = false := by simp; omega
      obtain ⟨⟨a1, a2⟩, ⟨b1, b2⟩, ⟨c1, c2⟩, m, t1, t2, t3⟩ := (triB_iff a b c).1 ht
      by_cases hab : 18 < a + b
      · clear hs m t1 t2 t3 hp
        go_wp2_with (first | (go_at_call 16; refine (impl_delta _ _ _ _).mono ?_; rintro e w' ⟨rfl, rfl⟩) | (go_at_call 15; refine (spec_delta _ _ _ _).mono ?_; rintro e w' ⟨rfl, hb'⟩; replace hbl := hbl.trans (hb'.mono hbl.size); clear hb') | (go_at_call 19; refine (impl_tri _ _ _ _).mono ?_; rintro e w' ⟨rfl, rfl⟩) | (go_at_call 14; refine (impl_choose _ _ _).mono ?_; rintro e w' ⟨rfl, hb'⟩; replace hbl := hbl.trans (hb'.mono hbl.size); clear hb'))
        go_ret
        exact ⟨rfl, hbl⟩
      · have d1 := deltaI_sum (a := a) (b := b) ⟨a1, a2⟩ ⟨b1, b2⟩ (by omega)
        have e1 : (deltaI a b (a + b) == (a + b + 1) * chI (a + b) a) = true := by rw [d1]; exact beq_self_eq_true _
        obtain ⟨y1, y2⟩ := chI_bd (n := a + b) (k := a) (by omega)
        have p1 : 0 ≤ (a + b + 1) * chI (a + b) a := Int.mul_nonneg (by omega) y1
        have p2 : (a + b + 1) * chI (a + b) a ≤ 19 * 1099511627776 := Int.mul_le_mul (by omega) y2 y1 (by omega)
        clear d1 hs m t1 t2 t3 hp
        go_wp2_with (first | (go_at_call 16; refine (impl_delta _ _ _ _).mono ?_; rintro e w' ⟨rfl, rfl⟩) | (go_at_call 15; refine (spec_delta _ _ _ _).mono ?_; rintro e w' ⟨rfl, hb'⟩; replace hbl := hbl.trans (hb'.mono hbl.size); clear hb') | (go_at_call 19; refine (impl_tri _ _ _ _).mono ?_; rintro e w' ⟨rfl, rfl⟩) | (go_at_call 14; refine (impl_choose _ _ _).mono ?_; rintro e w' ⟨rfl, hb'⟩; replace hbl := hbl.trans (hb'.mono hbl.size); clear hb'))
        go_ret
        exact ⟨rfl, hbl⟩
    · have hx : deltaI a b c = 0 := deltaI_none (by by_cases h : triB a b c = true; exact .inr (Int.not_le.1 fun h' => hd ⟨h, h'⟩); exact .inl (by simpa using h))
      clear hd
      go_wp2_with (first | (go_at_call 16; refine (impl_delta _ _ _ _).mono ?_; rintro e w' ⟨rfl, rfl⟩) | (go_at_call 15; refine (spec_delta _ _ _ _).mono ?_; rintro e w' ⟨rfl, hb'⟩; replace hbl := hbl.trans (hb'.mono hbl.size); clear hb') | (go_at_call 19; refine (impl_tri _ _ _ _).mono ?_; rintro e w' ⟨rfl, rfl⟩) | (go_at_call 14; refine (impl_choose _ _ _).mono ?_; rintro e w' ⟨rfl, hb'⟩; replace hbl := hbl.trans (hb'.mono hbl.size); clear hb'))
      go_ret
      exact ⟨rfl, hbl⟩
end Go.Proofs.Ytacgoplcebpooaa
