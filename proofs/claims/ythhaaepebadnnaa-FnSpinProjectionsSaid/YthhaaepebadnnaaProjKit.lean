/-
  Lists of ints: how one is seen, that two alike are found equal, marks.
-/
import Derived.Test.YthhaaepebadnnaaSpin
import Derived.Laws.OwnMore
namespace Go.Proofs.Ythhaaepebadnnaa
open Go.RowKit
set_option linter.unusedSimpArgs false
set_option linter.unusedVariables false

theorem Try.infoInt : (Try.prog.info? 3).map (fun i => (i.zero, i.size, i.bytes)) = some (some (.int .i64 0), 1, 8) := by kernel_rfl

def apL (d : Int) (k : Nat) : List Value := (List.range k).map fun (i : Nat) => Value.int .i64 (d + 2 * (i : Int))
theorem apL_succ (d : Int) (k : Nat) : apL d (k + 1) = apL d k ++ [Value.int .i64 (d + 2 * (k : Int))] := by simp [apL, List.range_succ]
theorem apL_get (d : Int) (k i : Nat) (h : i < k) : (apL d k)[i]? = some (.int .i64 (d + 2 * (i : Int))) := by simp [apL, h]

/-- The slice at A of n elements reads as f, lies at block B or behind it, and is not frozen. -/
def Seen (w : World) (B : Nat) (A : Option Addr) (n : Nat) (f : Nat → Int) : Prop :=
  0 < n → ∃ g, A = some ⟨g, 0, none⟩ ∧ B ≤ g ∧ g < w.heap.size ∧ ∀ i, i < n → w.cell? ⟨g, i, none⟩ = some (.int .i64 (f i)) ∧ w.frozen? ⟨g, i, none⟩ = false

theorem seen_of_own {w : World} {B : Nat} {v : Value} {d : Int} {k : Nat} (h : w.ownsRow B 3 1 v k (apL d k)) :
    ∃ A c, v = .slice A k c ∧ Seen w B A k (fun i => d + 2 * (i : Int)) := by
  rcases h.2 with ⟨rfl, rfl⟩ | ⟨g, cap, cur, rfl, hb, hg, _⟩
  · exact ⟨none, 0, rfl, fun h => absurd h (by omega)⟩
  · refine ⟨_, cap, rfl, fun h0 => ⟨g, rfl, hb, ?_, fun i hi => ⟨?_, World.ownsRow.frozenAt h i⟩⟩⟩
    · rcases Nat.lt_or_ge g w.heap.size with hlt | hge
      · exact hlt
      · rw [Array.getElem?_eq_none hge] at hg; cases hg
    · rw [World.ownsRow.cellAt h i (by omega)]; exact apL_get d k i hi

theorem Seen.below {w w' : World} {B : Nat} {A : Option Addr} {n : Nat} {f : Nat → Int} (h : Seen w B A n f) (hb : Below w.heap.size w w') : Seen w' B A n f := fun h0 => by
  obtain ⟨g, e, h1, h2, h3⟩ := h h0
  exact ⟨g, e, h1, Nat.lt_of_lt_of_le h2 hb.size, fun i hi => ⟨(hb.cell (p := ⟨g, i, none⟩) h2).trans (h3 i hi).1, (hb.frozen (p := ⟨g, i, none⟩) h2).trans (h3 i hi).2⟩⟩
theorem Seen.drewN {w : World} {B : Nat} {A : Option Addr} {n : Nat} {f : Nat → Int} (h : Seen w B A n f) (m : Nat) : Seen (w.drewN m) B A n f := h

/-- A new slice of the n numbers d, d + 2, .. -/
def MadeAp (w : World) (d : Int) (n : Nat) (e : Ending) (w' : World) : Prop :=
  ∃ A c, e = .returned (.slice A n c) ∧ Seen w' w.heap.size A n (fun i => d + 2 * (i : Int)) ∧ Below w.heap.size w w'

theorem one_new (w : World) (x : Value) (T : TypeId) : ∀ (j : Nat) (u : Value), [x][j]? = some u → (w.alloc (.cells #[x] T)).cell? ((⟨w.heap.size, 0, none⟩ : Addr).add j) = some u := by
  intro j u hj
  match j, hj with
  | 0, hj =>
    simp at hj
    subst hj
    go_simp


/-- Two lists that read alike are found equal; nothing is written. -/
theorem same_ints (n c1 c2 : Nat) (A1 A2 : Option Addr) (B1 B2 : Nat) (f : Nat → Int) (w : World) (h1 : Seen w B1 A1 n f) (h2 : Seen w B2 A2 n f) (hn : n ≤ 1000000) :
    Calls Try.prog 11 #[.slice A1 n c1, .slice A2 n c2] w fun e w' => e = .returned (.bool true) ∧ ∃ m, w' = w.drewN m := by
  by_cases h0 : n = 0
  · subst h0
    clear h1 h2
    go_enter Try.func11, Try.ntmps11
    go_wp2
    go_loop [5] (fun i => i = .int .i64 0) (fun _ => 0)
    case atStart => rfl
    case round =>
      subst hrel
      go_wp2
      go_ret
      exact ⟨rfl, 0, rfl⟩
  · obtain ⟨g1, rfl, _, _, k1⟩ := h1 (by omega)
    obtain ⟨g2, rfl, _, _, k2⟩ := h2 (by omega)
    clear h1 h2
    have K1 := Lib.hid k1
    have K2 := Lib.hid k2
    clear k1 k2
    go_enter Try.func11, Try.ntmps11
    go_wp2
    go_loopw [5] (fun i wr => ∃ k m : Nat, k ≤ n ∧ i = .int .i64 (k : Int) ∧ wr = w.drewN m) (fun i _ => n - (intOf i).toNat)
    case atStart => exact ⟨0, 0, Nat.zero_le _, rfl, rfl⟩
    case round =>
      obtain ⟨k, m, hk, rfl, rfl⟩ := hrel
      by_cases hlt : k < n
      · have q1 := (K1.out k hlt).1
        have q2 := (K2.out k hlt).1
        have i1 : (k : Int) < (n : Int) := by omega
        go_wp2_with fail
        go_quiet (fail)
        go_wp2
        go_roundw
        case rel => exact ⟨k + 1, _, by omega, by go_num, rfl⟩
        case measure => simp [intOf]; omega
      · obtain rfl : k = n := by omega
        go_wp2
        go_ret
        exact ⟨rfl, m, rfl⟩

/-- Two lists that read alike are found equal; nothing is written. -/
theorem eq_ints (n c1 c2 : Nat) (A1 A2 : Option Addr) (B1 B2 : Nat) (f : Nat → Int) (w : World) (h1 : Seen w B1 A1 n f) (h2 : Seen w B2 A2 n f) (hn : n ≤ 1000000) :
    Calls Try.prog 7 #[.slice A1 n c1, .slice A2 n c2] w fun e w' => e = .returned (.bool true) ∧ ∃ m, w' = w.drewN m := by
  by_cases h0 : n = 0
  · subst h0
    clear h1 h2
    go_enter Try.func7, Try.ntmps7
    go_wp2
    go_loop [5] (fun i => i = .int .i64 0) (fun _ => 0)
    case atStart => rfl
    case round =>
      subst hrel
      go_wp2
      go_ret
      exact ⟨rfl, 0, rfl⟩
  · obtain ⟨g1, rfl, _, _, k1⟩ := h1 (by omega)
    obtain ⟨g2, rfl, _, _, k2⟩ := h2 (by omega)
    clear h1 h2
    have K1 := Lib.hid k1
    have K2 := Lib.hid k2
    clear k1 k2
    go_enter Try.func7, Try.ntmps7
    go_wp2
    go_loopw [5] (fun i wr => ∃ k m : Nat, k ≤ n ∧ i = .int .i64 (k : Int) ∧ wr = w.drewN m) (fun i _ => n - (intOf i).toNat)
    case atStart => exact ⟨0, 0, Nat.zero_le _, rfl, rfl⟩
    case round =>
      obtain ⟨k, m, hk, rfl, rfl⟩ := hrel
      by_cases hlt : k < n
      · have q1 := (K1.out k hlt).1
        have q2 := (K2.out k hlt).1
        have i1 : (k : Int) < (n : Int) := by omega
        go_wp2_with fail
        go_quiet (fail)
        go_wp2
        go_roundw
        case rel => exact ⟨k + 1, _, by omega, by go_num, rfl⟩
        case measure => simp [intOf]; omega
      · obtain rfl : k = n := by omega
        go_wp2
        go_ret
        exact ⟨rfl, m, rfl⟩
/-- After j marks: the places below j hold their marks. -/
def mk (f : Nat → Int) (j : Nat) : Nat → Int := fun i => if i < j then (i : Int) + 1 else f i
theorem mk_zero (f : Nat → Int) (i : Nat) : mk f 0 i = f i := by unfold mk; rw [if_neg (by omega)]

theorem mark_ints (B n c : Nat) (A : Option Addr) (f : Nat → Int) (w : World) (h : Seen w B A n f) (hn : n ≤ 1000000) :
    Calls Try.prog 8 #[.slice A n c, .int .i64 1] w fun e w' => e = .returned (.int .i64 ((n : Int) + 1)) ∧ Seen w' B A n (fun i => (i : Int) + 1) ∧ Below B w w' := by
  by_cases h0 : n = 0
  · subst h0
    clear h
    go_enter Try.func8, Try.ntmps8
    go_wp2
    go_loop [1, 5] (fun k i => k = .int .i64 1 ∧ i = .int .i64 0) (fun _ _ => 0)
    case atStart => exact ⟨rfl, rfl⟩
    case round =>
      obtain ⟨rfl, rfl⟩ := hrel
      go_wp2
      go_ret
      exact ⟨rfl, fun h => absurd h (by omega), Below.refl _ _⟩
  · obtain ⟨g, rfl, hg1, hg2, hcell⟩ := h (by omega)
    clear h
    have HS : Hid (∀ i, i < n → w.cell? ⟨g, i, none⟩ = some (.int .i64 (mk f 0 i)) ∧ w.frozen? ⟨g, i, none⟩ = false) := fun i hi => by rw [mk_zero]; exact hcell i hi
    clear hcell
    go_enter Try.func8, Try.ntmps8
    go_wp2
    go_loopw [1, 5] (fun kv iv wr => ∃ j : Nat, j ≤ n ∧ iv = .int .i64 (j : Int) ∧ kv = .int .i64 ((j : Int) + 1) ∧ g < wr.heap.size ∧ Hid (∀ i, i < n → wr.cell? ⟨g, i, none⟩ = some (.int .i64 (mk f j i)) ∧ wr.frozen? ⟨g, i, none⟩ = false) ∧ Below B w wr) (fun _ i _ => n - (intOf i).toNat)
    case atStart => exact ⟨0, by omega, rfl, rfl, hg2, HS, Below.refl _ _⟩
    case round =>
      obtain ⟨j, hj, rfl, rfl, hgr, hc, hb⟩ := hrel
      by_cases hlt : j < n
      · have q1 := (hc.out j hlt).1
        have q2 := (hc.out j hlt).2
        go_wp2
        go_roundw
        case rel =>
          refine ⟨j + 1, by omega, by go_num, by go_num, by simpa [World.setCell] using hgr, fun i hi => ⟨?_, (World.frozen?_setCell _ _ _ _).trans (hc.out i hi).2⟩, hb.setCell hg1 _⟩
          by_cases hij : i = j
          · subst hij
            rw [World.cell?_setCell_same _ _ _ q1]
            unfold mk
            rw [if_pos (by omega)]
          · refine (World.cell?_setCell_other _ _ _ _ (fun e => hij (by injection e; omega))).trans ((hc.out i hi).1.trans ?_)
            unfold mk
            by_cases h1 : i < j
            · rw [if_pos h1, if_pos (by omega)]
            · rw [if_neg h1, if_neg (by omega)]
        case measure => simp [intOf]; omega
      · obtain rfl : j = n := by omega
        go_wp2
        go_ret
        refine ⟨rfl, fun _ => ⟨g, rfl, hg1, hgr, fun i hi => ⟨?_, (hc.out i hi).2⟩⟩, hb⟩
        rw [(hc.out i hi).1]
        unfold mk
        rw [if_pos hi]

theorem held_ints (B n c : Nat) (A : Option Addr) (w : World) (h : Seen w B A n (fun i => (i : Int) + 1)) (hn : n ≤ 1000000) :
    Calls Try.prog 9 #[.slice A n c, .int .i64 1] w fun e w' => e = .returned (.int .i64 ((n : Int) + 1)) ∧ w = w' := by
  by_cases h0 : n = 0
  · subst h0
    clear h
    go_enter Try.func9, Try.ntmps9
    go_wp2
    go_loop [1, 5] (fun k i => k = .int .i64 1 ∧ i = .int .i64 0) (fun _ _ => 0)
    case atStart => exact ⟨rfl, rfl⟩
    case round =>
      obtain ⟨rfl, rfl⟩ := hrel
      go_wp2
      go_ret
      exact ⟨rfl, rfl⟩
  · obtain ⟨g, rfl, hg1, hg2, hcell⟩ := h (by omega)
    clear h
    have HS := Lib.hid hcell
    clear hcell
    go_enter Try.func9, Try.ntmps9
    go_wp2
    go_loop [1, 5] (fun kv iv => ∃ j : Nat, j ≤ n ∧ iv = .int .i64 (j : Int) ∧ kv = .int .i64 ((j : Int) + 1)) (fun _ i => n - (intOf i).toNat)
    case atStart => exact ⟨0, by omega, rfl, rfl⟩
    case round =>
      obtain ⟨j, hj, rfl, rfl⟩ := hrel
      by_cases hlt : j < n
      · have q1 := (HS.out j hlt).1
        go_wp2
        go_round
        case rel => exact ⟨j + 1, by omega, by go_num, by go_num⟩
        case measure => simp [intOf]; omega
      · obtain rfl : j = n := by omega
        go_wp2
        go_ret
        exact ⟨rfl, rfl⟩

/-- A law's walk ends so. -/
def Holds (w : World) (e : Ending) (w' : World) : Prop := e = .returned (.bool true) ∧ Below w.heap.size w w'
end Go.Proofs.Ythhaaepebadnnaa
