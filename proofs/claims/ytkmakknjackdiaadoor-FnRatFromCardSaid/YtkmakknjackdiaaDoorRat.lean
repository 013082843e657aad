/-
  What the functions under the rationals answer: the greatest common divisor, validity.
-/
import Derived.Test.YtkmakknjackdiaaDoorPlainRat
import Derived.Lib.Hide
namespace Go.Proofs.YtkmakknjackdiaaDoor
open Go.RowKit
set_option linter.unusedSimpArgs false
set_option linter.unusedVariables false

theorem ret_bool {a b : Bool} (h : a = b) : Ending.returned (.bool a) = .returned (.bool b) := by rw [h]
theorem ret_int {a b : Int} (h : a = b) : Ending.returned (.int .i64 a) = .returned (.int .i64 b) := by rw [h]
theorem bcell {W w1 : World} (hb : Below W.heap.size W w1) : (∀ b o, b < W.heap.size → w1.cell? ⟨b, o, none⟩ = W.cell? ⟨b, o, none⟩) ∧ (∀ b o, b < W.heap.size → w1.frozen? ⟨b, o, none⟩ = W.frozen? ⟨b, o, none⟩) :=
  ⟨fun b o h => hb.cell (p := ⟨b, o, none⟩) h, fun b o h => hb.frozen (p := ⟨b, o, none⟩) h⟩

theorem quiet_left {P : Program} {f : FuncId} {args : Array Value} {w : World} {n : Nat} {v : Value}
    (h : Calls P f args (w.drewN n) fun e w' => e = .returned v ∧ w.drewN n = w') : Calls P f args (w.drewN n) fun e w'' => e = .returned v ∧ ∃ m, w'' = w.drewN m :=
  h.mono fun _ _ ⟨he, hm⟩ => ⟨he, n, hm.symm⟩

/-- The bound of what is reduced. -/
def big : Int := 4000000000000000000

theorem impl_abs_at (n d : Int) (w : World) (h1 : -4000000000000000000 ≤ n) (h2 : n ≤ 4000000000000000000) (hd : d = (n.natAbs : Int)) : Calls Tryd.prog 45 #[.int .i64 n] w fun e w' => e = .returned (.int .i64 d) ∧ w = w' := by
  have HD := Lib.hid hd
  clear hd
  go_enter Tryd.func45, Tryd.ntmps45
  go_wp2
  all_goals
    go_ret
    exact ⟨ret_int (by have hd := HD.out; omega), rfl⟩
theorem abs_at (n d : Int) (w : World) (h1 : -4000000000000000000 ≤ n) (h2 : n ≤ 4000000000000000000) (hd : d = (n.natAbs : Int)) : Calls Tryd.prog 42 #[.int .i64 n] w fun e w' => e = .returned (.int .i64 d) ∧ w = w' := by
  have HD := Lib.hid hd
  clear hd
  go_enter Tryd.func42, Tryd.ntmps42
  go_wp2
  all_goals
    go_ret
    exact ⟨ret_int (by have hd := HD.out; omega), rfl⟩

theorem gcd_step (a b : Nat) (hb : 0 < b) : Nat.gcd b (a % b) = Nat.gcd a b := by
  rw [Nat.gcd_comm a b, Nat.gcd_rec b a, Nat.gcd_comm]

theorem divisor_any (a b : Int) (G : Int) (w : World) (h1 : -4000000000000000000 ≤ a) (h2 : a ≤ 4000000000000000000) (h3 : -4000000000000000000 ≤ b) (h4 : b ≤ 4000000000000000000) (hG : G = (Int.gcd a b : Int)) :
    Calls Tryd.prog 33 #[.int .i64 a, .int .i64 b] w fun e w' => e = .returned (.int .i64 G) ∧ ∃ m, w' = w.drewN m := by
  obtain ⟨x, hx⟩ : ∃ x : Nat, x = a.natAbs := ⟨_, rfl⟩
  obtain ⟨y, hy⟩ : ∃ y : Nat, y = b.natAbs := ⟨_, rfl⟩
  have hg : Hid (G = (Nat.gcd x y : Int)) := by show _ = _; rw [hG, hx, hy]; rfl
  have HX : Hid ((x : Int) = (a.natAbs : Int)) := by show _ = _; rw [hx]
  have HY : Hid ((y : Int) = (b.natAbs : Int)) := by show _ = _; rw [hy]
  have x1 : x ≤ 4000000000000000000 := by omega
  have y1 : y ≤ 4000000000000000000 := by omega
  clear hx hy hG
  go_enter Tryd.func33, Tryd.ntmps33
  go_wp2_with fail
  refine (impl_abs_at a x _ h1 h2 HX.out).mono ?_
  rintro e w' ⟨rfl, rfl⟩
  go_wp2_with fail
  refine (impl_abs_at b y _ h3 h4 HY.out).mono ?_
  rintro e w' ⟨rfl, rfl⟩
  go_wp2_with fail
  go_loopw [0, 1] (fun u v wr => ∃ a b m : Nat, u = .int .i64 (a : Int) ∧ v = .int .i64 (b : Int) ∧ a ≤ 4000000000000000000 ∧ b ≤ 4000000000000000000 ∧ Hid (Nat.gcd a b = Nat.gcd x y) ∧ wr = w.drewN m) (fun _ v _ => (intOf v).toNat)
  case atStart => exact ⟨x, y, 0, rfl, rfl, x1, y1, rfl, rfl⟩
  case round =>
    obtain ⟨u, v, m, rfl, rfl, u1, v1, hH, rfl⟩ := hrel
    by_cases hv : v = 0
    · subst hv
      go_wp2
      go_ret
      refine ⟨ret_int ?_, m, rfl⟩
      rw [hg.out, ← hH.out, Nat.gcd_zero_right]
    · have v0 : 0 < v := by omega
      have hne : ((v : Int) != 0) = true := by rw [bne_iff_ne]; omega
      have hm : (u : Int).tmod (v : Int) = ((u % v : Nat) : Int) := by rw [Int.tmod_eq_emod_of_nonneg (by omega)]; rfl
      have hlt := Nat.mod_lt u v0
      have hst : Hid (Nat.gcd v (u % v) = Nat.gcd x y) := by show _ = _; rw [gcd_step u v v0]; exact hH.out
      generalize u % v = r at *
      clear hv
      go_wp2_with fail
      go_quiet (fail)
      go_wp2
      go_roundw
      case rel => exact ⟨v, r, _, rfl, rfl, v1, by omega, hst, World.drewN_drewN ..⟩
      case measure => simp [intOf]; omega

theorem gcd_any (a b : Int) (G : Int) (w : World) (h1 : 0 ≤ a) (h2 : a ≤ 4000000000000000000) (h3 : 0 ≤ b) (h4 : b ≤ 4000000000000000000) (hG : G = (Int.gcd a b : Int)) :
    Calls Tryd.prog 41 #[.int .i64 a, .int .i64 b] w fun e w' => e = .returned (.int .i64 G) ∧ w = w' := by
  obtain ⟨x, rfl⟩ : ∃ x : Nat, a = x := ⟨a.toNat, by omega⟩
  obtain ⟨y, rfl⟩ : ∃ y : Nat, b = y := ⟨b.toNat, by omega⟩
  have hg : Hid (G = (Nat.gcd x y : Int)) := by show _ = _; rw [hG]; rfl
  have x1 : x ≤ 4000000000000000000 := by omega
  have y1 : y ≤ 4000000000000000000 := by omega
  clear hG h1 h2 h3 h4
  go_enter Tryd.func41, Tryd.ntmps41
  go_wp2_with fail
  go_loop [0, 1] (fun u v => ∃ a b : Nat, u = .int .i64 (a : Int) ∧ v = .int .i64 (b : Int) ∧ a ≤ 4000000000000000000 ∧ b ≤ 4000000000000000000 ∧ Hid (Nat.gcd a b = Nat.gcd x y)) (fun _ v => (intOf v).toNat)
  case atStart => exact ⟨x, y, rfl, rfl, x1, y1, rfl⟩
  case round =>
    obtain ⟨u, v, rfl, rfl, u1, v1, hH⟩ := hrel
    by_cases hv : v = 0
    · subst hv
      go_wp2
      go_ret
      refine ⟨ret_int ?_, rfl⟩
      rw [hg.out, ← hH.out, Nat.gcd_zero_right]
    · have v0 : 0 < v := by omega
      have hne : ((v : Int) != 0) = true := by rw [bne_iff_ne]; omega
      have hlt := Nat.mod_lt u v0
      have hst : Hid (Nat.gcd v (u % v) = Nat.gcd x y) := by show _ = _; rw [gcd_step u v v0]; exact hH.out
      clear hv
      go_wp2
      go_round
      case rel => exact ⟨v, u % v, rfl, by go_num, v1, by omega, hst⟩
      case measure => simp [intOf]; omega

/-- What 'RatValid' leaves. -/
def Said (w : World) (b : Bool) (e : Ending) (w' : World) : Prop := e = .returned (.bool b) ∧ Below w.heap.size w w'

theorem ratB_no {n d : Int} (h : ¬ (1 ≤ d ∧ d ≤ 1000000000 ∧ -1000000000 ≤ n ∧ n ≤ 1000000000)) : ratB n d = false := by
  rw [Bool.eq_false_iff]
  intro h'
  obtain ⟨h1, h2, h3, h4, _⟩ := (ratB_iff n d).1 h'
  exact h ⟨h1, h2, h3, h4⟩
theorem ratB_in {n d : Int} (h : 1 ≤ d ∧ d ≤ 1000000000 ∧ -1000000000 ≤ n ∧ n ≤ 1000000000) : ratB n d = ((Int.gcd n d : Int) == 1) := by
  rw [Bool.eq_iff_iff, ratB_iff, beq_iff_eq]
  omega

theorem impl_valid (n d : Int) (w : World) : Calls Tryd.prog 16 #[.agg #[.int .i64 n, .int .i64 d]] w (Said w (ratB n d)) := by
  by_cases h : 1 ≤ d ∧ d ≤ 1000000000 ∧ -1000000000 ≤ n ∧ n ≤ 1000000000
  · obtain ⟨G, hG⟩ : ∃ G : Int, G = (Int.gcd n d : Int) := ⟨_, rfl⟩
    have HB : Hid (ratB n d = (G == 1)) := by show _ = _; rw [ratB_in h, hG]
    have HG := Lib.hid hG
    clear hG
    obtain ⟨h1, h2, h3, h4⟩ := h
    go_enter Tryd.func16, Tryd.ntmps16
    go_wp2_with fail
    refine (divisor_any n d G _ (by omega) (by omega) (by omega) (by omega) HG.out).mono ?_
    rintro e w' ⟨rfl, m, rfl⟩
    go_wp2
    go_ret
    exact ⟨ret_bool HB.out.symm, below_drewN ((Below.refl _ _).alloc (Nat.le_refl _) _) _⟩
  · have HB := Lib.hid (ratB_no h)
    rcases (by omega : d < 1 ∨ (1 ≤ d ∧ 1000000000 < d) ∨ (1 ≤ d ∧ d ≤ 1000000000 ∧ n < -1000000000) ∨ (1 ≤ d ∧ d ≤ 1000000000 ∧ -1000000000 ≤ n ∧ 1000000000 < n)) with h | ⟨h1, h⟩ | ⟨h1, h2, h⟩ | ⟨h1, h2, h3, h⟩
    all_goals
      rename_i hnot
      clear hnot
      go_enter Tryd.func16, Tryd.ntmps16
      go_wp2_with fail
      go_ret
      exact ⟨ret_bool HB.out.symm, (Below.refl _ _).alloc (Nat.le_refl _) _⟩

theorem spec_valid (n d : Int) (w : World) : Calls Tryd.prog 28 #[.agg #[.int .i64 n, .int .i64 d]] w (Said w (ratB n d)) := by
  by_cases hd : 1 ≤ d ∧ d ≤ 1000000000
  · by_cases hn : -1000000000 ≤ n ∧ n ≤ 1000000000
    · obtain ⟨G, hG⟩ : ∃ G : Int, G = (Int.gcd n d : Int) := ⟨_, rfl⟩
      have HB : Hid (ratB n d = (G == 1)) := by show _ = _; rw [ratB_in ⟨hd.1, hd.2, hn.1, hn.2⟩, hG]
      obtain ⟨x, hx⟩ : ∃ x : Int, x = (n.natAbs : Int) := ⟨_, rfl⟩
      have HX := Lib.hid hx
      have HG : Hid (G = (Int.gcd x d : Int)) := by show _ = _; rw [hG, hx]; unfold Int.gcd; simp
      have x0 : 0 ≤ x := by omega
      have x1 : x ≤ 1000000000 := by omega
      have f1 : inB d 1 1000000000 = true := inB_yes hd
      have f2 : inB n (-1000000000) 1000000000 = true := inB_yes hn
      obtain ⟨h1, h2⟩ := hd
      obtain ⟨h3, h4⟩ := hn
      clear hG hx
      go_enter Tryd.func28, Tryd.ntmps28
      go_wp2_with (go_at_call 36; refine (in_any _ _ _ _).mono ?_; rintro e w' ⟨rfl, rfl⟩)
      go_quiet (first | (go_at_call 42; exact quiet_left (abs_at n x _ (by omega) (by omega) HX.out)) | (go_at_call 41; exact quiet_left (gcd_any x d G _ x0 (by omega) (by omega) (by omega) HG.out)))
      go_wp2
      go_ret
      exact ⟨ret_bool HB.out.symm, below_drewN ((Below.refl _ _).alloc (Nat.le_refl _) _) _⟩
    · have HB := Lib.hid (ratB_no (n := n) (d := d) (fun h => hn ⟨h.2.2.1, h.2.2.2⟩))
      have f1 : inB d 1 1000000000 = true := inB_yes hd
      have f2 : inB n (-1000000000) 1000000000 = false := inB_no hn
      clear hd hn
      go_enter Tryd.func28, Tryd.ntmps28
      go_wp2_with (go_at_call 36; refine (in_any _ _ _ _).mono ?_; rintro e w' ⟨rfl, rfl⟩)
      go_ret
      exact ⟨ret_bool HB.out.symm, (Below.refl _ _).alloc (Nat.le_refl _) _⟩
  · have HB := Lib.hid (ratB_no (n := n) (d := d) (fun h => hd ⟨h.1, h.2.1⟩))
    have f1 : inB d 1 1000000000 = false := inB_no hd
    clear hd
    go_enter Tryd.func28, Tryd.ntmps28
    go_wp2_with (go_at_call 36; refine (in_any _ _ _ _).mono ?_; rintro e w' ⟨rfl, rfl⟩)
    go_ret
    exact ⟨ret_bool HB.out.symm, (Below.refl _ _).alloc (Nat.le_refl _) _⟩
end Go.Proofs.YtkmakknjackdiaaDoor
