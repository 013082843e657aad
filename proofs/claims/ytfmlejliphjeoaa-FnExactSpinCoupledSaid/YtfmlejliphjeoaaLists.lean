/-
  Lists of spins: what 'SpinCoupled' makes (program and reference), that two such lists are found equal, and how a list is seen.
-/
import Derived.Test.YtfmlejliphjeoaaSpin
import Derived.Test.YtfmlejliphjeoaaDraws
import Derived.Laws.OwnMore
namespace Go.Proofs.Ytfmlejliphjeoaa
open Go.RowKit
set_option linter.unusedSimpArgs false
set_option linter.unusedVariables false

theorem Try.infoInt : (Try.prog.info? 3).map (fun i => (i.zero, i.size, i.bytes)) = some (some (.int .i64 0), 1, 8) := by kernel_rfl

def apL (d : Int) (k : Nat) : List Value := (List.range k).map fun (i : Nat) => Value.int .i64 (d + 2 * (i : Int))
theorem apL_succ (d : Int) (k : Nat) : apL d (k + 1) = apL d k ++ [Value.int .i64 (d + 2 * (k : Int))] := by simp [apL, List.range_succ]
theorem apL_get (d : Int) (k i : Nat) (h : i < k) : (apL d k)[i]? = some (.int .i64 (d + 2 * (i : Int))) := by simp [apL, h]

/-- The slice at A of n elements reads as f, lies at block B or behind it, and is not frozen. -/
def Seen (w : World) (B : Nat) (A : Option Addr) (n : Nat) (f : Nat → Int) : Prop :=
  0 < n → ∃ g, A = some ⟨g, 0, none⟩ ∧ B ≤ g ∧ g < w.heap.size ∧ ∀ i, i < n → w.cell? ⟨g, i, none⟩ = some (.int .i64 (f i)) ∧ w.frozen? ⟨g, i, none⟩ = false

theorem seen_of_own {w : World} {B : Nat} {v : Value} {d : Int} {k : Nat} (h : w.ownsRow B 3 1 v k (apL d k)) :
    ∃ A c, v = .slice A k c ∧ Seen w B A k (fun i => d + 2 * (i : Int)) := by
  rcases h.2 with ⟨rfl, rfl⟩ | ⟨g, cap, cur, rfl, hb, hg, _⟩
  · exact ⟨none, 0, rfl, fun h => absurd h (by omega)⟩
  · refine ⟨_, cap, rfl, fun h0 => ⟨g, rfl, hb, ?_, fun i hi => ⟨?_, World.ownsRow.frozenAt h i⟩⟩⟩
    · rcases Nat.lt_or_ge g w.heap.size with hlt | hge
      · exact hlt
      · rw [Array.getElem?_eq_none hge] at hg; cases hg
    · rw [World.ownsRow.cellAt h i (by omega)]; exact apL_get d k i hi

theorem Seen.below {w w' : World} {B : Nat} {A : Option Addr} {n : Nat} {f : Nat → Int} (h : Seen w B A n f) (hb : Below w.heap.size w w') : Seen w' B A n f := fun h0 => by
  obtain ⟨g, e, h1, h2, h3⟩ := h h0
  exact ⟨g, e, h1, Nat.lt_of_lt_of_le h2 hb.size, fun i hi => ⟨(hb.cell (p := ⟨g, i, none⟩) h2).trans (h3 i hi).1, (hb.frozen (p := ⟨g, i, none⟩) h2).trans (h3 i hi).2⟩⟩
theorem Seen.drewN {w : World} {B : Nat} {A : Option Addr} {n : Nat} {f : Nat → Int} (h : Seen w B A n f) (m : Nat) : Seen (w.drewN m) B A n f := h

/-- A new slice of the n numbers d, d + 2, .. -/
def MadeAp (w : World) (d : Int) (n : Nat) (e : Ending) (w' : World) : Prop :=
  ∃ A c, e = .returned (.slice A n c) ∧ Seen w' w.heap.size A n (fun i => d + 2 * (i : Int)) ∧ Below w.heap.size w w'

theorem abs_at (n d : Int) (w : World) (h : -1000000 ≤ n ∧ n ≤ 1000000) (hd : d = (n.natAbs : Int)) : Calls Try.prog 39 #[.int .i64 n] w fun e w' => e = .returned (.int .i64 d) ∧ w = w' := by
  subst hd; exact abs_spec n w h
theorem impl_abs_at (n d : Int) (w : World) (h : -1000000 ≤ n ∧ n ≤ 1000000) (hd : d = (n.natAbs : Int)) : Calls Try.prog 40 #[.int .i64 n] w fun e w' => e = .returned (.int .i64 d) ∧ w = w' := by
  obtain ⟨h1, h2⟩ := h
  have HD := Lib.hid hd
  clear hd
  go_enter Try.func40, Try.ntmps40
  go_wp2
  all_goals
    go_ret
    exact ⟨ret_int (by have hd := HD.out; omega), rfl⟩

theorem one_new (w : World) (x : Value) (T : TypeId) : ∀ (j : Nat) (u : Value), [x][j]? = some u → (w.alloc (.cells #[x] T)).cell? ((⟨w.heap.size, 0, none⟩ : Addr).add j) = some u := by
  intro j u hj
  match j, hj with
  | 0, hj =>
    simp at hj
    subst hj
    go_simp


set_option maxHeartbeats 400000 in
theorem impl_coupled_yes (a b : Int) (d m : Nat) (w : World) (ha : 0 ≤ a ∧ a ≤ 24) (hb : 0 ≤ b ∧ b ≤ 24) (hd : (d : Int) = ((a - b).natAbs : Int)) (hm : (m : Int) = min a b) (hs : a + b ≤ 24) :
    Calls Try.prog 26 #[.int .i64 a, .int .i64 b] w (MadeAp w d (m + 1)) := by
  obtain ⟨i0, hi, hz0, hz1, hz2⟩ := info_parts Try.infoInt
  have fa : svB a = true := (svB_iff a).2 ha
  have fb : svB b = true := (svB_iff b).2 hb
  obtain ⟨a1, a2⟩ := ha
  obtain ⟨b1, b2⟩ := hb
  have g1 : a + b ≤ (d : Int) + 2 * (m : Int) := by omega
  have g2 : (d : Int) + 2 * (m : Int) ≤ a + b := by omega
  have HD := Lib.hid hd
  clear hd hm
  go_enter Try.func26, Try.ntmps26
  go_wp2_with (first | (go_at_call 18; refine (impl_valid _ _).mono ?_; rintro e w' ⟨rfl, rfl⟩) | (go_at_call 40; refine (impl_abs_at _ (d : Int) _ ⟨by omega, by omega⟩ HD.out).mono ?_; rintro e w' ⟨rfl, rfl⟩))
  go_loopw [5, 6] (fun v i wr => ∃ k : Nat, k ≤ m + 1 ∧ i = .int .i64 ((d : Int) + 2 * (k : Int)) ∧ wr.ownsRow w.heap.size 3 1 v k (apL d k) ∧ Below w.heap.size w wr)
    (fun _ i _ => ((d : Int) + 2 * (m : Int) + 2 - intOf i).toNat)
  case atStart => exact ⟨0, by omega, rfl, World.ownsRow_nil _ _ _ _, Below.refl _ _⟩
  case round =>
    obtain ⟨k, hk, rfl, hown, hbl⟩ := hrel
    by_cases hlt : k ≤ m
    · go_wp2_with (at_builtin; refine wpList_append_own _ rfl _ _ 32 rfl w.heap.size 3 i0 (.int .i64 0) 1 8 Try.underlying32 hi hz0 hz1 hz2 rfl (by decide) _ _ _ rfl (hown.alloc _) ⟨_, 0, none⟩ 1 1 [.int .i64 ((d : Int) + 2 * (k : Int))] rfl rfl ?c1 ?c2 ?c3 ?c4 ?c5 ?_)
      case c1 => exact one_new _ _ _
      case c2 => intro u hu; simp at hu; subst hu; rfl
      case c3 => unfold maxLen; omega
      case c4 => omega
      case c5 => have := hbl.size; simp; omega
      intro v' w1 hown' hgrow _
      have hb1 : Below w.heap.size w w1 := (hbl.alloc hbl.size _).grown hgrow (by have := hbl.size; simp; omega) (fun j hj => (hown.lt j hj).1)
      have hown1 : w1.ownsRow w.heap.size 3 1 v' (k + 1) (apL d (k + 1)) := by rw [apL_succ]; exact hown'
      clear hown' hgrow hown hbl
      go_wp2
      go_roundw
      case rel => exact ⟨k + 1, by omega, congrArg (Value.int .i64) (by omega), hown1, hb1⟩
      case measure => simp [intOf]; omega
    · obtain rfl : k = m + 1 := by omega
      go_wp2
      go_ret
      obtain ⟨A, c, hv, hS⟩ := seen_of_own hown
      exact ⟨A, c, congrArg Ending.returned hv, hS, hbl⟩

set_option maxHeartbeats 400000 in
theorem spec_coupled_yes (a b : Int) (d m : Nat) (w : World) (ha : 0 ≤ a ∧ a ≤ 24) (hb : 0 ≤ b ∧ b ≤ 24) (hd : (d : Int) = ((a - b).natAbs : Int)) (hm : (m : Int) = min a b) (hs : a + b ≤ 24) :
    Calls Try.prog 25 #[.int .i64 a, .int .i64 b] w (MadeAp w d (m + 1)) := by
  obtain ⟨i0, hi, hz0, hz1, hz2⟩ := info_parts Try.infoInt
  have fa : svB a = true := (svB_iff a).2 ha
  have fb : svB b = true := (svB_iff b).2 hb
  obtain ⟨a1, a2⟩ := ha
  obtain ⟨b1, b2⟩ := hb
  have g1 : a + b ≤ (d : Int) + 2 * (m : Int) := by omega
  have g2 : (d : Int) + 2 * (m : Int) ≤ a + b := by omega
  have HD := Lib.hid hd
  clear hd hm
  go_enter Try.func25, Try.ntmps25
  go_wp2_with (first | (go_at_call 17; refine (spec_valid _ _).mono ?_; rintro e w' ⟨rfl, rfl⟩) | (go_at_call 39; refine (abs_at _ (d : Int) _ ⟨by omega, by omega⟩ HD.out).mono ?_; rintro e w' ⟨rfl, rfl⟩))
  go_loopw [5, 6] (fun v i wr => ∃ k : Nat, k ≤ m + 1 ∧ i = .int .i64 ((d : Int) + 2 * (k : Int)) ∧ wr.ownsRow w.heap.size 3 1 v k (apL d k) ∧ Below w.heap.size w wr)
    (fun _ i _ => ((d : Int) + 2 * (m : Int) + 2 - intOf i).toNat)
  case atStart => exact ⟨0, by omega, rfl, World.ownsRow_made _ _ _ (Nat.le_refl _) (Nat.zero_le _) rfl, (Below.refl _ _).alloc (Nat.le_refl _) _⟩
  case round =>
    obtain ⟨k, hk, rfl, hown, hbl⟩ := hrel
    by_cases hlt : k ≤ m
    · go_wp2_with (at_builtin; refine wpList_append_own _ rfl _ _ 32 rfl w.heap.size 3 i0 (.int .i64 0) 1 8 Try.underlying32 hi hz0 hz1 hz2 rfl (by decide) _ _ _ rfl (hown.alloc _) ⟨_, 0, none⟩ 1 1 [.int .i64 ((d : Int) + 2 * (k : Int))] rfl rfl ?c1 ?c2 ?c3 ?c4 ?c5 ?_)
      case c1 => exact one_new _ _ _
      case c2 => intro u hu; simp at hu; subst hu; rfl
      case c3 => unfold maxLen; omega
      case c4 => omega
      case c5 => have := hbl.size; simp; omega
      intro v' w1 hown' hgrow _
      have hb1 : Below w.heap.size w w1 := (hbl.alloc hbl.size _).grown hgrow (by have := hbl.size; simp; omega) (fun j hj => (hown.lt j hj).1)
      have hown1 : w1.ownsRow w.heap.size 3 1 v' (k + 1) (apL d (k + 1)) := by rw [apL_succ]; exact hown'
      clear hown' hgrow hown hbl
      go_wp2
      go_roundw
      case rel => exact ⟨k + 1, by omega, congrArg (Value.int .i64) (by omega), hown1, hb1⟩
      case measure => simp [intOf]; omega
    · obtain rfl : k = m + 1 := by omega
      go_wp2
      go_ret
      obtain ⟨A, c, hv, hS⟩ := seen_of_own hown
      exact ⟨A, c, congrArg Ending.returned hv, hS, hbl⟩

theorem impl_coupled_no (a b d : Int) (w : World) (h : ¬ ((0 ≤ a ∧ a ≤ 24) ∧ (0 ≤ b ∧ b ≤ 24) ∧ a + b ≤ 24)) :
    Calls Try.prog 26 #[.int .i64 a, .int .i64 b] w (MadeAp w d 0) := by
  by_cases ha : svB a = true
  · by_cases hb : svB b = true
    · obtain ⟨a1, a2⟩ := (svB_iff a).1 ha
      obtain ⟨b1, b2⟩ := (svB_iff b).1 hb
      have hs : 24 < a + b := by omega
      clear h
      go_enter Try.func26, Try.ntmps26
      go_wp2_with (go_at_call 18; refine (impl_valid _ _).mono ?_; rintro e w' ⟨rfl, rfl⟩)
      go_ret
      exact ⟨_, _, rfl, fun h => absurd h (by omega), by first | exact Below.refl _ _ | exact (Below.refl _ _).alloc (Nat.le_refl _) _⟩
    · have hb : svB b = false := by simpa using hb
      clear h
      go_enter Try.func26, Try.ntmps26
      go_wp2_with (go_at_call 18; refine (impl_valid _ _).mono ?_; rintro e w' ⟨rfl, rfl⟩)
      go_ret
      exact ⟨_, _, rfl, fun h => absurd h (by omega), by first | exact Below.refl _ _ | exact (Below.refl _ _).alloc (Nat.le_refl _) _⟩
  · have ha : svB a = false := by simpa using ha
    clear h
    go_enter Try.func26, Try.ntmps26
    go_wp2_with (go_at_call 18; refine (impl_valid _ _).mono ?_; rintro e w' ⟨rfl, rfl⟩)
    go_ret
    exact ⟨_, _, rfl, fun h => absurd h (by omega), by first | exact Below.refl _ _ | exact (Below.refl _ _).alloc (Nat.le_refl _) _⟩

theorem spec_coupled_no (a b d : Int) (w : World) (h : ¬ ((0 ≤ a ∧ a ≤ 24) ∧ (0 ≤ b ∧ b ≤ 24) ∧ a + b ≤ 24)) :
    Calls Try.prog 25 #[.int .i64 a, .int .i64 b] w (MadeAp w d 0) := by
  by_cases ha : svB a = true
  · by_cases hb : svB b = true
    · obtain ⟨a1, a2⟩ := (svB_iff a).1 ha
      obtain ⟨b1, b2⟩ := (svB_iff b).1 hb
      have hs : 24 < a + b := by omega
      clear h
      go_enter Try.func25, Try.ntmps25
      go_wp2_with (go_at_call 17; refine (spec_valid _ _).mono ?_; rintro e w' ⟨rfl, rfl⟩)
      go_ret
      exact ⟨_, _, rfl, fun h => absurd h (by omega), by first | exact Below.refl _ _ | exact (Below.refl _ _).alloc (Nat.le_refl _) _⟩
    · have hb : svB b = false := by simpa using hb
      clear h
      go_enter Try.func25, Try.ntmps25
      go_wp2_with (go_at_call 17; refine (spec_valid _ _).mono ?_; rintro e w' ⟨rfl, rfl⟩)
      go_ret
      exact ⟨_, _, rfl, fun h => absurd h (by omega), by first | exact Below.refl _ _ | exact (Below.refl _ _).alloc (Nat.le_refl _) _⟩
  · have ha : svB a = false := by simpa using ha
    clear h
    go_enter Try.func25, Try.ntmps25
    go_wp2_with (go_at_call 17; refine (spec_valid _ _).mono ?_; rintro e w' ⟨rfl, rfl⟩)
    go_ret
    exact ⟨_, _, rfl, fun h => absurd h (by omega), by first | exact Below.refl _ _ | exact (Below.refl _ _).alloc (Nat.le_refl _) _⟩

/-- Two lists that read alike are found equal; nothing is written. -/
theorem same_ints (n c1 c2 : Nat) (A1 A2 : Option Addr) (B1 B2 : Nat) (f : Nat → Int) (w : World) (h1 : Seen w B1 A1 n f) (h2 : Seen w B2 A2 n f) (hn : n ≤ 1000000) :
    Calls Try.prog 33 #[.slice A1 n c1, .slice A2 n c2] w fun e w' => e = .returned (.bool true) ∧ ∃ m, w' = w.drewN m := by
  by_cases h0 : n = 0
  · subst h0
    clear h1 h2
    go_enter Try.func33, Try.ntmps33
    go_wp2
    go_loop [5] (fun i => i = .int .i64 0) (fun _ => 0)
    case atStart => rfl
    case round =>
      subst hrel
      go_wp2
      go_ret
      exact ⟨rfl, 0, rfl⟩
  · obtain ⟨g1, rfl, _, _, k1⟩ := h1 (by omega)
    obtain ⟨g2, rfl, _, _, k2⟩ := h2 (by omega)
    clear h1 h2
    have K1 := Lib.hid k1
    have K2 := Lib.hid k2
    clear k1 k2
    go_enter Try.func33, Try.ntmps33
    go_wp2
    go_loopw [5] (fun i wr => ∃ k m : Nat, k ≤ n ∧ i = .int .i64 (k : Int) ∧ wr = w.drewN m) (fun i _ => n - (intOf i).toNat)
    case atStart => exact ⟨0, 0, Nat.zero_le _, rfl, rfl⟩
    case round =>
      obtain ⟨k, m, hk, rfl, rfl⟩ := hrel
      by_cases hlt : k < n
      · have q1 := (K1.out k hlt).1
        have q2 := (K2.out k hlt).1
        have i1 : (k : Int) < (n : Int) := by omega
        go_wp2_with fail
        go_quiet (fail)
        go_wp2
        go_roundw
        case rel => exact ⟨k + 1, _, by omega, by go_num, rfl⟩
        case measure => simp [intOf]; omega
      · obtain rfl : k = n := by omega
        go_wp2
        go_ret
        exact ⟨rfl, m, rfl⟩

/-- Two lists that read alike are found equal; nothing is written. -/
theorem eq_ints (n c1 c2 : Nat) (A1 A2 : Option Addr) (B1 B2 : Nat) (f : Nat → Int) (w : World) (h1 : Seen w B1 A1 n f) (h2 : Seen w B2 A2 n f) (hn : n ≤ 1000000) :
    Calls Try.prog 27 #[.slice A1 n c1, .slice A2 n c2] w fun e w' => e = .returned (.bool true) ∧ ∃ m, w' = w.drewN m := by
  by_cases h0 : n = 0
  · subst h0
    clear h1 h2
    go_enter Try.func27, Try.ntmps27
    go_wp2
    go_loop [5] (fun i => i = .int .i64 0) (fun _ => 0)
    case atStart => rfl
    case round =>
      subst hrel
      go_wp2
      go_ret
      exact ⟨rfl, 0, rfl⟩
  · obtain ⟨g1, rfl, _, _, k1⟩ := h1 (by omega)
    obtain ⟨g2, rfl, _, _, k2⟩ := h2 (by omega)
    clear h1 h2
    have K1 := Lib.hid k1
    have K2 := Lib.hid k2
    clear k1 k2
    go_enter Try.func27, Try.ntmps27
    go_wp2
    go_loopw [5] (fun i wr => ∃ k m : Nat, k ≤ n ∧ i = .int .i64 (k : Int) ∧ wr = w.drewN m) (fun i _ => n - (intOf i).toNat)
    case atStart => exact ⟨0, 0, Nat.zero_le _, rfl, rfl⟩
    case round =>
      obtain ⟨k, m, hk, rfl, rfl⟩ := hrel
      by_cases hlt : k < n
      · have q1 := (K1.out k hlt).1
        have q2 := (K2.out k hlt).1
        have i1 : (k : Int) < (n : Int) := by omega
        go_wp2_with fail
        go_quiet (fail)
        go_wp2
        go_roundw
        case rel => exact ⟨k + 1, _, by omega, by go_num, rfl⟩
        case measure => simp [intOf]; omega
      · obtain rfl : k = n := by omega
        go_wp2
        go_ret
        exact ⟨rfl, m, rfl⟩
end Go.Proofs.Ytfmlejliphjeoaa
