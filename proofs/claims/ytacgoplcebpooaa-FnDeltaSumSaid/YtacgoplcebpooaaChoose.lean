/-
  What 'Choose' and 'Delta' answer, program and reference alike.
-/
import Derived.Test.YtacgoplcebpooaaPlainChoose
import Derived.Test.YtacgoplcebpooaaSpin
import Derived.Laws.OwnMore
namespace Go.Proofs.Ytacgoplcebpooaa
open Go.RowKit
set_option linter.unusedSimpArgs false
set_option linter.unusedVariables false

theorem Try.infoInt : (Try.prog.info? 3).map (fun i => (i.zero, i.size, i.bytes)) = some (some (.int .i64 0), 1, 8) := by kernel_rfl

/-- A whole number comes back; what was there is as it was. -/
def Gives (w : World) (x : Int) (e : Ending) (w' : World) : Prop := e = .returned (.int .i64 x) ∧ Below w.heap.size w w'

theorem spec_choose (n k : Int) (w : World) : Calls Try.prog 13 #[.int .i64 n, .int .i64 k] w (Gives w (chI n k)) := by
  by_cases hn : n < 0 ∨ 40 < n
  · rw [chI_out hn]
    have f : inB n 0 40 = false := inB_no (by omega)
    clear hn
    · go_enter Try.func13, Try.ntmps13
      go_wp2_with (go_at_call 20; refine (in_any _ _ _ _).mono ?_; rintro e w' ⟨rfl, rfl⟩)
      go_ret
      exact ⟨rfl, Below.refl _ _⟩
  · by_cases hk : k < 0 ∨ n < k
    · rw [chI_zero (by omega) hk]
      have n0 : 0 ≤ n := by omega
      have n1 : n ≤ 40 := by omega
      clear hn
      have f : inB n 0 40 = true := inB_yes ⟨n0, n1⟩
      rcases hk with hk | hk
      all_goals
        go_enter Try.func13, Try.ntmps13
        go_wp2_with (go_at_call 20; refine (in_any _ _ _ _).mono ?_; rintro e w' ⟨rfl, rfl⟩)
        go_ret
        exact ⟨rfl, Below.refl _ _⟩
    · obtain ⟨N, rfl⟩ : ∃ N : Nat, n = N := ⟨n.toNat, by omega⟩
      obtain ⟨K, rfl⟩ : ∃ K : Nat, k = K := ⟨k.toNat, by omega⟩
      have n1 : N ≤ 40 := by omega
      have k1 : K ≤ N := by omega
      clear hn hk
      have f : inB (N : Int) 0 40 = true := inB_yes (by omega)
      rw [chI_in n1]
      go_enter Try.func13, Try.ntmps13
      go_wp2_with (go_at_call 20; refine (in_any _ _ _ _).mono ?_; rintro e w' ⟨rfl, rfl⟩)
      go_loop [5, 6] (fun o i => ∃ j : Nat, j ≤ K ∧ i = .int .i64 (j : Int) ∧ o = .int .i64 (ch N j : Int)) (fun _ i => K - (intOf i).toNat)
      case atStart => exact ⟨0, Nat.zero_le _, rfl, by rw [ch_zero]; rfl⟩
      case round =>
        obtain ⟨j, hj, rfl, rfl⟩ := hrel
        by_cases hlt : j < K
        · obtain ⟨p1, p2⟩ := prod_bd (N := N) (j := j) (by omega) n1
          have HS := Lib.hid (prod_step (N := N) (j := j) (by omega))
          go_wp2
          go_round
          case rel => exact ⟨j + 1, by omega, by go_num, by rw [HS.out]⟩
          case measure => simp [intOf]; omega
        · obtain rfl : j = K := by omega
          go_wp2
          go_ret
          exact ⟨rfl, Below.refl _ _⟩

/-- A row of numbers as cells. -/
def rowL (f : Nat → Nat) (k : Nat) : List Value := (List.range k).map fun j => Value.int .i64 (f j : Int)
theorem rowL_len (f : Nat → Nat) (k : Nat) : (rowL f k).length = k := by simp [rowL]
theorem rowL_get (f : Nat → Nat) (k j : Nat) (h : j < k) : (rowL f k)[j]? = some (.int .i64 (f j : Int)) := by simp [rowL, h]
theorem rowL_congr {f g : Nat → Nat} {k : Nat} (h : ∀ j, j < k → f j = g j) : rowL f k = rowL g k := by
  unfold rowL
  exact List.map_congr_left fun j hj => by rw [h j (by simpa using hj)]
theorem rowL_app (m : Nat) : rowL (ch m) (m + 1) ++ [Value.int .i64 0] = rowL (rowF m (m + 1)) (m + 2) := by
  have e : rowL (rowF m (m + 1)) (m + 2) = rowL (ch m) (m + 2) := rowL_congr fun j hj => rowF_top m j (by omega)
  rw [e]
  unfold rowL
  rw [List.range_succ (n := m + 1), List.map_append]
  simp [ch_over m (m + 1) (by omega)]
theorem rowL_set (m t : Nat) (h : t + 1 < m + 2) : (rowL (rowF m (t + 1)) (m + 2)).set (t + 1) (.int .i64 (rowF m t (t + 1) : Int)) = rowL (rowF m t) (m + 2) := by
  apply List.ext_getElem?
  intro j
  rw [List.getElem?_set]
  by_cases h1 : t + 1 = j
  · subst h1
    rw [if_pos rfl, if_pos (by rw [rowL_len]; exact h), rowL_get _ _ _ h]
  · rw [if_neg h1]
    by_cases h2 : j < m + 2
    · rw [rowL_get _ _ _ h2, rowL_get _ _ _ h2, rowF_same m t j (by omega)]
    · rw [List.getElem?_eq_none (by rw [rowL_len]; omega), List.getElem?_eq_none (by rw [rowL_len]; omega)]
theorem rowL_done (m : Nat) : rowL (rowF m 0) (m + 2) = rowL (ch (m + 1)) (m + 2) := rowL_congr fun j _ => rowF_zero m j

theorem one_new (w : World) (x : Value) (T : TypeId) : ∀ (j : Nat) (u : Value), [x][j]? = some u → (w.alloc (.cells #[x] T)).cell? ((⟨w.heap.size, 0, none⟩ : Addr).add j) = some u := by
  intro j u hj
  match j, hj with
  | 0, hj =>
    simp at hj
    subst hj
    go_simp

theorem own_form {w : World} {B : Nat} {v : Value} {n : Nat} {xs : List Value} (h : w.ownsRow B 3 1 v n xs) (hn : 0 < n) : ∃ g cap, v = .slice (some ⟨g, 0, none⟩) n cap ∧ B ≤ g ∧ n ≤ cap := by
  rcases h.2 with ⟨_, h0⟩ | ⟨g, cap, cur, hv, hb, _, hc, _⟩
  · omega
  · exact ⟨g, cap, hv, hb, hc⟩

/-- A slice's length. -/
def lenOf (v : Value) : Nat := match v with | .slice _ l _ => l | _ => 0
theorem lenOf_slice (a : Option Addr) (l c : Nat) : lenOf (.slice a l c) = l := rfl

set_option maxHeartbeats 800000 in
theorem impl_choose (n k : Int) (w : World) : Calls Try.prog 14 #[.int .i64 n, .int .i64 k] w (Gives w (chI n k)) := by
  by_cases hn : n < 0 ∨ 40 < n
  · rw [chI_out hn]
    rcases hn with hn | hn
    all_goals
      go_enter Try.func14, Try.ntmps14
      go_wp2
      go_ret
      exact ⟨rfl, Below.refl _ _⟩
  · by_cases hk : k < 0 ∨ n < k
    · rw [chI_zero (by omega) hk]
      have n0 : 0 ≤ n := by omega
      have n1 : n ≤ 40 := by omega
      clear hn
      rcases hk with hk | hk
      all_goals
        go_enter Try.func14, Try.ntmps14
        go_wp2
        go_ret
        exact ⟨rfl, Below.refl _ _⟩
    · obtain ⟨N, rfl⟩ : ∃ N : Nat, n = N := ⟨n.toNat, by omega⟩
      obtain ⟨K, rfl⟩ : ∃ K : Nat, k = K := ⟨k.toNat, by omega⟩
      have n1 : N ≤ 40 := by omega
      have k1 : K ≤ N := by omega
      clear hn hk
      rw [chI_in n1]
      have d1 : decide ((N : Int) < 0) = false := by simp
      have d2 : decide ((40 : Int) < (N : Int)) = false := by simp; omega
      have d3 : decide ((K : Int) < 0) = false := by simp
      have d4 : decide ((N : Int) < (K : Int)) = false := by simp; omega
      have d5 : decide (N < K) = false := by simp; omega
      obtain ⟨i0, hi, hz0, hz1, hz2⟩ := info_parts Try.infoInt
      go_enter Try.func14, Try.ntmps14
      go_wp2
      go_loopw [5] (fun v wr => ∃ m g cap : Nat, m ≤ N ∧ v = .slice (some ⟨g, 0, none⟩) (m + 1) cap ∧ wr.ownsRow w.heap.size 3 1 (.slice (some ⟨g, 0, none⟩) (m + 1) cap) (m + 1) (rowL (ch m) (m + 1)) ∧ Below w.heap.size w wr)
        (fun v _ => N + 1 - lenOf v)
      case atStart => exact ⟨0, w.heap.size, 1, Nat.zero_le _, rfl, World.ownsRow_lit w #[.int .i64 1] 1 (Nat.le_refl _) (by decide) rfl, (Below.refl _ _).alloc (Nat.le_refl _) _⟩
      case round =>
        obtain ⟨m, g, cap, hm, rfl, hown, hbl⟩ := hrel
        by_cases hlt : m < N
        · go_wp2_with (at_builtin; refine wpList_append_own _ rfl _ _ 33 rfl w.heap.size 3 i0 (.int .i64 0) 1 8 Try.underlying33 hi hz0 hz1 hz2 rfl (by decide) _ _ _ rfl (hown.alloc _) ⟨_, 0, none⟩ 1 1 [.int .i64 0] rfl rfl ?c1 ?c2 ?c3 ?c4 ?c5 ?_)
          case c1 => exact one_new _ _ _
          case c2 => intro u hu; simp at hu; subst hu; rfl
          case c3 => unfold maxLen; omega
          case c4 => omega
          case c5 => have := hbl.size; simp; omega
          intro v' w1 hown' hgrow _
          have hb1 : Below w.heap.size w w1 := (hbl.alloc hbl.size _).grown hgrow (by have := hbl.size; simp; omega) (fun j hj => (hown.lt j hj).1)
          have hown1 : w1.ownsRow w.heap.size 3 1 v' (m + 2) (rowL (rowF m (m + 1)) (m + 2)) := by rw [← rowL_app]; exact hown'
          obtain ⟨g', cap', hv, hg', hc'⟩ := own_form hown1 (by omega)
          clear hown' hgrow hown hbl
          rw [hv] at hown1 ⊢
          clear hv
          go_wp2
          go_loopw [6] (fun i wr => ∃ t : Nat, t ≤ m + 1 ∧ i = .int .i64 (t : Int) ∧ wr.ownsRow w.heap.size 3 1 (.slice (some ⟨g', 0, none⟩) (m + 2) cap') (m + 2) (rowL (rowF m t) (m + 2)) ∧ Below w.heap.size w wr)
            (fun i _ => (intOf i).toNat)
          case atStart => exact ⟨m + 1, Nat.le_refl _, by go_num, hown1, hb1⟩
          case round =>
            rename_i wr
            obtain ⟨t, ht, rfl, hown2, hb2⟩ := hrel
            cases t with
            | zero =>
              go_wp2
              go_roundw
              case rel =>
                have hown3 : wr.ownsRow w.heap.size 3 1 (.slice (some ⟨g', 0, none⟩) (m + 2) cap') (m + 1 + 1) (rowL (ch (m + 1)) (m + 1 + 1)) := by rw [← rowL_done]; exact hown2
                first
                  | exact ⟨m + 1, g', cap', by omega, rfl, hown3, hb2⟩
                  | ((repeat apply Exists.intro); exact ⟨⟨m + 1, g', cap', by omega, rfl, hown3, hb2⟩, rfl⟩)
              case measure => first | (simp [lenOf]; omega) | (simp [intOf]; omega)
            | succ t =>
              have q1 := (World.ownsRow.cellAt hown2 (t + 1) (by omega)).trans (rowL_get _ _ _ (by omega))
              have q2 := (World.ownsRow.cellAt hown2 t (by omega)).trans (rowL_get _ _ _ (by omega))
              have q3 := World.ownsRow.frozenAt hown2 (t + 1)
              have bd1 := rowF_bd m (t + 1) (t + 1) (by omega)
              have bd2 := rowF_bd m (t + 1) t (by omega)
              have hst := rowF_step m t
              have hown3 := World.ownsRow.stored hown2 (t + 1) (.int .i64 (rowF m t (t + 1) : Int))
              rw [rowL_set m t (by omega)] at hown3
              generalize rowF m (t + 1) (t + 1) = x at *
              generalize rowF m (t + 1) t = y at *
              generalize rowF m t (t + 1) = z at *
              have HST := Lib.hid hst
              clear hst
              have e1 : ((t + 1 : Nat) : Int) = (t : Int) + 1 := by omega
              rw [e1]
              have w1 : IntKind.i64.wrap ((t : Int) + 1 - 1) = (t : Int) := by rw [show (t : Int) + 1 - 1 = (t : Int) by omega]; exact IntWalk.i64_in _ (by omega)
              clear e1
              go_wp2
              go_region
              all_goals (try go_wp2)
              all_goals
                have hz : ((x : Int) + (y : Int)) = (z : Int) := by have := HST.out; omega
                refine ⟨⟨t, by omega, rfl, ?_, ?_⟩, ?_⟩
                · rw [hz]; exact hown3.1.drew
                · exact (hb2.setCell hg' _).drew
                · simp [intOf]
        · obtain rfl : m = N := by omega
          have q1 := (World.ownsRow.cellAt hown K (by omega)).trans (rowL_get _ _ _ (by omega))
          go_wp2
          go_ret
          exact ⟨rfl, hbl⟩
end Go.Proofs.Ytacgoplcebpooaa
