/-
  'Delta' and its parts; the draws for binomials and for 'Delta'.
-/
import Derived.Test.YtacgoplcebpooaaChoose
import Derived.Test.YtacgoplcebpooaaDraws
import Derived.Deep.RegionWith
namespace Go.Proofs.Ytacgoplcebpooaa
open Go.RowKit
set_option linter.unusedSimpArgs false
set_option linter.unusedVariables false

theorem facI_bd {n : Int} (h : 0 ≤ n ∧ n ≤ 20) : 1 ≤ facI n ∧ facI n ≤ 2432902008176640000 := by
  unfold facI
  have := fac_bd (n := n.toNat) (by omega)
  omega
theorem fact_any (n : Int) (w : World) (h0 : 0 ≤ n) (h1 : n ≤ 20) : Calls Try.prog 22 #[.int .i64 n] w fun e w' => e = .returned (.int .i64 (facI n)) ∧ w = w' := by
  go_enter Try.func22, Try.ntmps22
  go_wp2
  go_loop [3, 4] (fun p k => ∃ (j : Nat) (t : Int), 1 ≤ j ∧ (j : Int) ≤ max n 1 ∧ k = .int .i64 ((j : Int) + 1) ∧ p = .int .i64 t ∧ Hid (t = (fac j : Int))) (fun _ k => (22 - intOf k).toNat)
  case atStart => exact ⟨1, 1, by omega, by omega, rfl, rfl, rfl⟩
  case round =>
    obtain ⟨j, t, hj, hjn, rfl, rfl, ht⟩ := hrel
    by_cases hlt : (j : Int) + 1 ≤ n
    · have h2 : Hid (t * ((j : Int) + 1) = (fac (j + 1) : Int)) := by
        show _ = _
        rw [ht.out, fac_succ]
        simp only [Int.natCast_mul, Int.natCast_add, Int.cast_ofNat_Int]
        exact Int.mul_comm _ _
      have b1 : 0 ≤ t * ((j : Int) + 1) := by rw [h2.out]; omega
      have b2 : t * ((j : Int) + 1) ≤ 2432902008176640000 := by
        rw [h2.out]
        have := (fac_bd (n := j + 1) (by omega)).2
        omega
      go_wp2
      go_round
      case rel => exact ⟨j + 1, _, by omega, by omega, by go_num, rfl, h2⟩
      case measure => simp [intOf]; omega
    · go_wp2
      go_ret
      refine ⟨ret_int ?_, rfl⟩
      rw [ht.out]
      unfold facI
      by_cases hz : n = 0
      · subst hz
        obtain rfl : j = 1 := by omega
        rfl
      · rw [show n.toNat = j by omega]

theorem delta_parts {a b c : Int} (h : triB a b c = true) (hs : (a + b + c) / 2 ≤ 18) :
    ∃ x y z : Nat, x + y + z ≤ 18 ∧ (a + b + c) / 2 = ((x + y + z : Nat) : Int) ∧ (a + b - c) / 2 = (x : Int) ∧ (a - b + c) / 2 = (y : Int) ∧ (b + c - a) / 2 = (z : Int) := by
  obtain ⟨h1, h2, h3, h4, h5, h6, h7⟩ := (triB_iff a b c).1 h
  exact ⟨((a + b - c) / 2).toNat, ((a - b + c) / 2).toNat, ((b + c - a) / 2).toNat, by omega, by omega, by omega, by omega, by omega⟩

theorem impl_delta (a b c : Int) (w : World) : Calls Try.prog 16 #[.int .i64 a, .int .i64 b, .int .i64 c] w fun e w' => e = .returned (.int .i64 (deltaI a b c)) ∧ w = w' := by
  by_cases ht : triB a b c = true
  · obtain ⟨⟨a1, a2⟩, ⟨b1, b2⟩, ⟨c1, c2⟩, hm, t1, t2, t3⟩ := (triB_iff a b c).1 ht
    by_cases hs : (a + b + c) / 2 ≤ 18
    · obtain ⟨x, y, z, hb, e0, e1, e2, e3⟩ := delta_parts ht hs
      have hd : Hid (deltaI a b c = facI (((x + y + z : Nat) : Int) + 1) / (facI x * facI y * facI z)) := by
        show _ = _
        unfold deltaI
        rw [if_neg (by simp [ht]; omega), e0, e1, e2, e3]
      obtain ⟨⟨p1, p2⟩, p3, p4⟩ := fac_bd3 (x := x) (y := y) (z := z) (by omega)
      have q0 := facI_bd (n := ((x + y + z : Nat) : Int) + 1) (by omega)
      have e5 : facI x * facI y = ((fac x * fac y : Nat) : Int) := by unfold facI; simp
      have e6 : facI x * facI y * facI z = ((fac x * fac y * fac z : Nat) : Int) := by unfold facI; simp
      have q1 : 1 ≤ facI x * facI y ∧ facI x * facI y ≤ 2432902008176640000 := by rw [e5]; omega
      have q2 : 1 ≤ facI x * facI y * facI z ∧ facI x * facI y * facI z ≤ 2432902008176640000 := by rw [e6]; omega
      clear e5 e6 p1 p2 p3 p4 hm t1 t2 t3
      have hs' : ((x + y + z : Nat) : Int) ≤ 18 := by omega
      clear hs
      generalize hS : ((x + y + z : Nat) : Int) = S at *
      have S0 : 0 ≤ S := by omega
      clear hS
      obtain ⟨q01, q02⟩ := q0
      obtain ⟨q11, q12⟩ := q1
      obtain ⟨q21, q22⟩ := q2
      go_enter Try.func16, Try.ntmps16
      go_wp2_with (first | (go_at_call 19; refine (impl_tri _ _ _ _).mono ?_; rintro e w' ⟨rfl, rfl⟩) | (go_at_call 22; refine (fact_any _ _ (by omega) (by omega)).mono ?_; rintro e w' ⟨rfl, rfl⟩))
      go_ret
      exact ⟨ret_int (by rw [hd.out]), rfl⟩
    · have hs' : 18 < (a + b + c) / 2 := by omega
      have hd : deltaI a b c = 0 := by unfold deltaI; rw [if_pos (by omega)]
      have HD := Lib.hid hd
      clear hd hs hm t1 t2 t3
      go_enter Try.func16, Try.ntmps16
      go_wp2_with (go_at_call 19; refine (impl_tri _ _ _ _).mono ?_; rintro e w' ⟨rfl, rfl⟩)
      go_ret
      exact ⟨ret_int HD.out.symm, rfl⟩
  · have ht : triB a b c = false := by simpa using ht
    have hd : deltaI a b c = 0 := by unfold deltaI; rw [if_pos (.inl ht)]
    have HD := Lib.hid hd
    clear hd
    go_enter Try.func16, Try.ntmps16
    go_wp2_with (go_at_call 19; refine (impl_tri _ _ _ _).mono ?_; rintro e w' ⟨rfl, rfl⟩)
    go_ret
    exact ⟨ret_int HD.out.symm, rfl⟩

theorem spec_delta (a b c : Int) (w : World) : Calls Try.prog 15 #[.int .i64 a, .int .i64 b, .int .i64 c] w (Gives w (deltaI a b c)) := by
  by_cases ht : triB a b c = true
  · obtain ⟨⟨a1, a2⟩, ⟨b1, b2⟩, ⟨c1, c2⟩, hm, t1, t2, t3⟩ := (triB_iff a b c).1 ht
    by_cases hs : (a + b + c) / 2 ≤ 18
    · obtain ⟨x, y, z, hb, e0, e1, e2, e3⟩ := delta_parts ht hs
      have hd : Hid (deltaI a b c = (((x + y + z : Nat) : Int) + 1) * chI ((x + y + z : Nat) : Int) x * chI (((x + y + z : Nat) : Int) - x) y) := by
        show _ = _
        rw [delta_choose ht hs, e0, e1, e2]
      obtain ⟨p1, p2, p3⟩ := delta_bd hb
      have f1 : chI ((x + y + z : Nat) : Int) x = (ch (x + y + z) x : Int) := chI_in (by omega)
      have f2 : chI (((x + y + z : Nat) : Int) - x) y = (ch (y + z) y : Int) := by
        rw [show ((x + y + z : Nat) : Int) - (x : Int) = ((y + z : Nat) : Int) by omega]; exact chI_in (by omega)
      have q1 : 0 ≤ (((x + y + z : Nat) : Int) + 1) * chI ((x + y + z : Nat) : Int) x ∧ (((x + y + z : Nat) : Int) + 1) * chI ((x + y + z : Nat) : Int) x ≤ 4980736 := by
        rw [f1, show ((x + y + z : Nat) : Int) + 1 = ((x + y + z + 1 : Nat) : Int) by omega, ← Int.natCast_mul]; omega
      have q2 : 0 ≤ (((x + y + z : Nat) : Int) + 1) * chI ((x + y + z : Nat) : Int) x * chI (((x + y + z : Nat) : Int) - x) y ∧ (((x + y + z : Nat) : Int) + 1) * chI ((x + y + z : Nat) : Int) x * chI (((x + y + z : Nat) : Int) - x) y ≤ 1305670057984 := by
        rw [f1, f2, show ((x + y + z : Nat) : Int) + 1 = ((x + y + z + 1 : Nat) : Int) by omega, ← Int.natCast_mul, ← Int.natCast_mul]; omega
      clear f1 f2 p1 p2 p3 hm t1 t2 t3
      have hs' : ((x + y + z : Nat) : Int) ≤ 18 := by omega
      have hx : (x : Int) ≤ ((x + y + z : Nat) : Int) := by omega
      clear hs
      generalize hS : ((x + y + z : Nat) : Int) = S at *
      have S0 : 0 ≤ S := by omega
      clear hS
      obtain ⟨q11, q12⟩ := q1
      obtain ⟨q21, q22⟩ := q2
      go_enter Try.func15, Try.ntmps15
      go_wp2_with (go_at_call 21; refine (spec_tri _ _ _ _).mono ?_; rintro e w' ⟨rfl, rfl⟩)
      refine (spec_choose _ _ _).mono ?_
      rintro e w1 ⟨rfl, hb1⟩
      go_wp2_with fail
      refine (spec_choose _ _ _).mono ?_
      rintro e w2 ⟨rfl, hb2⟩
      go_wp2
      go_ret
      exact ⟨ret_int (by rw [hd.out]), hb1.trans (hb2.mono hb1.size)⟩
    · have hs' : 18 < (a + b + c) / 2 := by omega
      have hd : deltaI a b c = 0 := by unfold deltaI; rw [if_pos (by omega)]
      have HD := Lib.hid hd
      clear hd hs hm t1 t2 t3
      go_enter Try.func15, Try.ntmps15
      go_wp2_with (go_at_call 21; refine (spec_tri _ _ _ _).mono ?_; rintro e w' ⟨rfl, rfl⟩)
      go_ret
      exact ⟨ret_int HD.out.symm, Below.refl _ _⟩
  · have ht : triB a b c = false := by simpa using ht
    have hd : deltaI a b c = 0 := by unfold deltaI; rw [if_pos (.inl ht)]
    have HD := Lib.hid hd
    clear hd
    go_enter Try.func15, Try.ntmps15
    go_wp2_with (go_at_call 21; refine (spec_tri _ _ _ _).mono ?_; rintro e w' ⟨rfl, rfl⟩)
    go_ret
    exact ⟨ret_int HD.out.symm, Below.refl _ _⟩

theorem lit2 (x : Int) (h : 0 ≤ x ∧ x < 2) : ∃ y : Int, -1 ≤ y ∧ y ≤ 41 ∧ ∀ hx : x.toNat < [Value.int .i64 (-1), Value.int .i64 41].length, [Value.int .i64 (-1), Value.int .i64 41][x.toNat]'hx = .int .i64 y := by
  rcases (by omega : x = 0 ∨ x = 1) with rfl | rfl
  · exact ⟨-1, by omega, by omega, fun _ => rfl⟩
  · exact ⟨41, by omega, by omega, fun _ => rfl⟩

set_option maxHeartbeats 2000000 in
theorem draw_choose (B n c : Nat) (A : Option Addr) (w : World) (h : Code B w A n c) (hB : B ≤ w.heap.size) :
    Calls Try.prog 17 #[.slice A n c] w (Drew2 B w fun a b => -1 ≤ a ∧ a ≤ 41 ∧ -1 ≤ b ∧ b ≤ 50) := by
  have HC := open_any B n c A w h hB
  have HO := Lib.hid HC
  clear h HC
  go_enter Try.func17, Try.ntmps17
  go_wp2_with fail
  refine HO.out.mono ?_
  rintro e w1 ⟨g, rfl, hR1, hb1⟩
  go_wp2_with fail
  refine (pick_any B g _ _ _ hR1 (by omega) (by omega) (by omega) (by omega)).mono ?_
  rintro e w2 ⟨j, rfl, j0, j1, -, hR2, hb2⟩
  have j2 := j1 (by omega)
  clear j1
  go_wp2_with fail
  refine (pick_any B g _ _ _ hR2 (by omega) (by omega) (by omega) (by omega)).mono ?_
  rintro e w3 ⟨x, rfl, x0, x1, -, hR3, hb3⟩
  have x2 := x1 (by omega)
  clear x1
  have hbl := (hb1.trans hb2).trans hb3
  clear HO hR1 hR2 hb1 hb2 hb3
  go_wp2_with fail
  · have hg3 : g < w3.heap.size := hR3.hg
    have hne : ¬ w3.heap.size = g := by omega
    have hne' : ¬ g = w3.heap.size := by omega
    go_region_with (first | (go_at_call_of 24 (Value.int .i64 2); refine (pick_w B g (0 + 1 + 1) 2 _ ?_ (by omega) (by omega) (by omega) (by omega)).mono ?_; (repeat (first | exact hR3 | exact hR3.set_ | (with_reducible refine Rd.drewN ?_ _) | (with_reducible refine Rd.drew ?_) | (with_reducible refine Rd.alloc ?_ _) | (with_reducible refine Rd.set_ ?_))); rintro e w4 ⟨y, m, rfl, y0, y1, -, rfl⟩; have y2 := y1 (by omega); clear y1; obtain ⟨z, z0, z1, hz⟩ := lit2 y ⟨y0, y2⟩) | (go_at_call_of 24 (Value.int .i64 5); refine (pick_w B g 3 5 _ ?_ (by omega) (by omega) (by omega) (by omega)).mono ?_; (repeat (first | exact hR3 | exact hR3.set_ | (with_reducible refine Rd.drewN ?_ _) | (with_reducible refine Rd.drew ?_) | (with_reducible refine Rd.alloc ?_ _) | (with_reducible refine Rd.set_ ?_))); rintro e w5 ⟨u, m', rfl, u0, u1, -, rfl⟩; have u2 := u1 (by omega); clear u1))
    all_goals
      go_wp2
      go_ret2
      refine ⟨_, _, ⟨z0, z1, by omega, by omega⟩, rfl, ?_⟩
      have hs3 : B ≤ w3.heap.size := Nat.le_trans hB hbl.size
      have hgB := hR3.hB
      repeat (first | exact hbl | refine below_drewN ?_ _ | refine Below.drew ?_ | refine Below.setCell ?_ hgB _ | refine Below.alloc ?_ (by first | exact hs3 | simpa [World.setCell] using hs3) _)
  · refine (pick_any B g _ _ _ hR3 (by omega) (by omega) (by omega) (by omega)).mono ?_
    rintro e w4 ⟨y, rfl, y0, y1, -, hR4, hb4⟩
    have y2 := y1 (by omega)
    clear y1
    go_wp2
    go_ret2
    exact ⟨_, _, ⟨by omega, by omega, by omega, by omega⟩, rfl, hbl.trans hb4⟩
end Go.Proofs.Ytacgoplcebpooaa
