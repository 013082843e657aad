/-
  The draw of two spins to be coupled, and the laws on what they couple to.
-/
import Derived.Test.YtfmlejliphjeoaaLists
import Derived.Test.YtfmlejliphjeoaaLawsA
import Derived.Deep.RegionWith
namespace Go.Proofs.Ytfmlejliphjeoaa
open Go.RowKit
set_option linter.unusedSimpArgs false
set_option linter.unusedVariables false

theorem lit3 (x : Int) (h : 0 ≤ x ∧ x < 3) : ∃ y : Int, -1 ≤ y ∧ y ≤ 25 ∧ ∀ hx : x.toNat < [Value.int .i64 (-1), Value.int .i64 24, Value.int .i64 25].length, [Value.int .i64 (-1), Value.int .i64 24, Value.int .i64 25][x.toNat]'hx = .int .i64 y := by
  rcases (by omega : x = 0 ∨ x = 1 ∨ x = 2) with rfl | rfl | rfl
  · exact ⟨-1, by omega, by omega, fun _ => rfl⟩
  · exact ⟨24, by omega, by omega, fun _ => rfl⟩
  · exact ⟨25, by omega, by omega, fun _ => rfl⟩

theorem draw_coupled (B n c : Nat) (A : Option Addr) (w : World) (h : Code B w A n c) (hB : B ≤ w.heap.size) :
    Calls Try.prog 32 #[.slice A n c] w (Drew2 B w fun a b => 0 ≤ a ∧ a ≤ 13 ∧ -1 ≤ b ∧ b ≤ 25) := by
  have HC := open_any B n c A w h hB
  have HO := Lib.hid HC
  clear h HC
  go_enter Try.func32, Try.ntmps32
  go_wp2_with fail
  refine HO.out.mono ?_
  rintro e w1 ⟨g, rfl, hR1, hb1⟩
  go_wp2_with fail
  refine (pick_any B g _ _ _ hR1 (by omega) (by omega) (by omega) (by omega)).mono ?_
  rintro e w2 ⟨j, rfl, j0, j1, -, hR2, hb2⟩
  have j2 := j1 (by omega)
  clear j1
  go_wp2_with fail
  refine (pick_any B g _ _ _ hR2 (by omega) (by omega) (by omega) (by omega)).mono ?_
  rintro e w3 ⟨x, rfl, x0, x1, -, hR3, hb3⟩
  have x2 := x1 (by omega)
  clear x1
  have hbl := (hb1.trans hb2).trans hb3
  clear HO hR1 hR2 hb1 hb2 hb3
  go_wp2_with fail
  · have hg3 : g < w3.heap.size := hR3.hg
    have hne : ¬ w3.heap.size = g := by omega
    have hne' : ¬ g = w3.heap.size := by omega
    go_region_with (go_at_call 38; refine (pick_w B g (0 + 1 + 1) 3 _ ?_ (by omega) (by omega) (by omega) (by omega)).mono ?_; (first | exact hR3.drew | exact (hR3.alloc _).drew | exact hR3.drew.alloc _); rintro e w4 ⟨y, m, rfl, y0, y1, -, rfl⟩; have y2 := y1 (by omega); clear y1; obtain ⟨z, z0, z1, hz⟩ := lit3 y ⟨y0, y2⟩)
    all_goals
      go_wp2
      go_ret2
      refine ⟨_, _, ⟨j0, by omega, z0, z1⟩, rfl, ?_⟩
      have hs3 : B ≤ w3.heap.size := Nat.le_trans hB hbl.size
      have hgB := hR3.hB
      repeat (first | exact hbl | refine below_drewN ?_ _ | refine Below.drew ?_ | refine Below.setCell ?_ hgB _ | refine Below.alloc ?_ (by first | exact hs3 | simpa [World.setCell] using hs3) _)
  · refine (pick_any B g _ _ _ hR3 (by omega) (by omega) (by omega) (by omega)).mono ?_
    rintro e w4 ⟨y, rfl, y0, y1, -, hR4, hb4⟩
    have y2 := y1 (by omega)
    clear y1
    go_wp2
    go_ret2
    exact ⟨_, _, ⟨by omega, by omega, by omega, by omega⟩, rfl, hbl.trans hb4⟩

/-- What two spins couple to: n numbers from d on; none where they are not valid or too great. -/
def Cpl (a b : Int) (d n : Nat) : Prop :=
  ((0 ≤ a ∧ a ≤ 24) ∧ (0 ≤ b ∧ b ≤ 24) ∧ a + b ≤ 24 ∧ (d : Int) = ((a - b).natAbs : Int) ∧ (n : Int) = min a b + 1) ∨ (¬ ((0 ≤ a ∧ a ≤ 24) ∧ (0 ≤ b ∧ b ≤ 24) ∧ a + b ≤ 24) ∧ n = 0 ∧ d = 0)
theorem cpl_ex (a b : Int) : ∃ d n, Cpl a b d n := by
  by_cases h : (0 ≤ a ∧ a ≤ 24) ∧ (0 ≤ b ∧ b ≤ 24) ∧ a + b ≤ 24
  · exact ⟨(a - b).natAbs, (min a b + 1).toNat, .inl ⟨h.1, h.2.1, h.2.2, rfl, by omega⟩⟩
  · exact ⟨0, 0, .inr ⟨h, rfl, rfl⟩⟩
theorem Cpl.symm {a b : Int} {d n : Nat} (h : Cpl a b d n) : Cpl b a d n := by
  rcases h with ⟨h1, h2, h3, h4, h5⟩ | ⟨h1, h2, h3⟩
  · exact .inl ⟨h2, h1, by omega, by omega, by omega⟩
  · exact .inr ⟨by omega, h2, h3⟩
theorem Cpl.bd {a b : Int} {d n : Nat} (h : Cpl a b d n) : n ≤ 25 ∧ d ≤ 24 := by
  rcases h with ⟨h1, h2, h3, h4, h5⟩ | ⟨h1, h2, h3⟩ <;> omega
theorem impl_coupled {a b : Int} {d n : Nat} (h : Cpl a b d n) (w : World) : Calls Try.prog 26 #[.int .i64 a, .int .i64 b] w (MadeAp w d n) := by
  rcases h with ⟨h1, h2, h3, h4, h5⟩ | ⟨h1, rfl, rfl⟩
  · obtain ⟨m, rfl⟩ : ∃ m, n = m + 1 := ⟨n - 1, by omega⟩
    exact impl_coupled_yes a b d m w h1 h2 h4 (by omega) h3
  · exact impl_coupled_no a b _ w h1
theorem spec_coupled {a b : Int} {d n : Nat} (h : Cpl a b d n) (w : World) : Calls Try.prog 25 #[.int .i64 a, .int .i64 b] w (MadeAp w d n) := by
  rcases h with ⟨h1, h2, h3, h4, h5⟩ | ⟨h1, rfl, rfl⟩
  · obtain ⟨m, rfl⟩ : ∃ m, n = m + 1 := ⟨n - 1, by omega⟩
    exact spec_coupled_yes a b d m w h1 h2 h4 (by omega) h3
  · exact spec_coupled_no a b _ w h1

theorem walk_FnSpinCoupledMany (A : Option Addr) (n0 c0 : Nat) (w : World) (h : Code w.heap.size w A n0 c0) : Calls Try.prog 12 #[.slice A n0 c0] w (Holds w) := by
  have HC := draw_coupled w.heap.size n0 c0 A w h (Nat.le_refl _)
  have HO := Lib.hid HC
  clear h HC
  go_enter Try.func12, Try.ntmps12
  go_wp2_with fail
  · go_ret
    exact holds_same _
  · refine HO.out.mono ?_
    rintro e w1 ⟨a, b, ⟨a0, a1, b0, b1⟩, rfl, hb1⟩
    clear HO
    obtain ⟨d, n, hc⟩ := cpl_ex a b
    obtain ⟨n1, d1⟩ := hc.bd
    go_wp2_with fail
    refine (impl_coupled hc _).mono ?_
    rintro e w2 ⟨A1, c1, rfl, S1, hb2⟩
    go_wp2_with fail
    refine (spec_coupled hc _).mono ?_
    rintro e w3 ⟨A2, c2, rfl, S2, hb3⟩
    have S3 := S1.below hb3
    have hbl : Below w.heap.size w w3 := (hb1.trans (hb2.mono hb1.size)).trans (hb3.mono (Nat.le_trans hb1.size hb2.size))
    clear S1 hb1 hb2 hb3
    go_wp2_with fail
    refine (same_ints n c1 c2 A1 A2 _ _ _ _ S3 S2 (by omega)).mono ?_
    rintro e w4 ⟨rfl, m1, rfl⟩
    by_cases hn : n = 0
    · have hz : ((n : Int) == 0) = true := by rw [hn]; rfl
      clear hn
      go_wp2_with fail
      refine (same_ints n c1 c2 A1 A2 _ _ _ _ (S3.drewN _) (S2.drewN _) (by omega)).mono ?_
      rintro e w5 ⟨rfl, m2, rfl⟩
      go_wp2
      go_ret
      exact ⟨rfl, below_drewN hbl _⟩
    · have hz : ((n : Int) == 0) = false := by simp; omega
      have hn1 : 0 < n := by omega
      clear hn
      obtain ⟨g, rfl, hg1, hg2, hcell⟩ := S3 hn1
      have HCE := Lib.hid hcell
      clear hcell
      rcases hc with ⟨⟨a2, a3⟩, ⟨b2, b3⟩, hs, hd, hm⟩ | ⟨_, h0, _⟩
      case inr => omega
      have hcs : Cpl b a d n := .inl ⟨⟨b2, b3⟩, ⟨a2, a3⟩, by omega, by omega, by omega⟩
      have HD := Lib.hid hd
      have HM := Lib.hid hm
      clear hd hm
      go_wp2_with fail
      go_loop [7, 8] (fun s i => ∃ k : Nat, ∃ t : Int, k ≤ n ∧ i = .int .i64 (k : Int) ∧ s = .int .i64 t ∧ 0 ≤ t ∧ t ≤ 10000 ∧ Hid (t = k * (d + k))) (fun _ i => n - (intOf i).toNat)
      case atStart => exact ⟨0, 0, Nat.zero_le _, rfl, rfl, by omega, by omega, by show (0 : Int) = _; simp⟩
      case round =>
        obtain ⟨k, t, hk, rfl, rfl, t0, t1, ht⟩ := hrel
        by_cases hlt : k < n
        · have q1 := (HCE.out k hlt).1
          go_wp2
          go_round
          case rel =>
            have h2 : t + ((d : Int) + 2 * (k : Int)) + 1 = ((k + 1 : Nat) : Int) * ((d : Int) + ((k + 1 : Nat) : Int)) := by
              have := ht.out
              rw [this]
              simp only [Int.natCast_add, Int.cast_ofNat_Int]
              grind
            have h3 : ((k + 1 : Nat) : Int) * ((d : Int) + ((k + 1 : Nat) : Int)) ≤ 25 * 49 := Int.mul_le_mul (by omega) (by omega) (by omega) (by omega)
            exact ⟨k + 1, _, by omega, by go_num, rfl, by omega, by omega, h2⟩
          case measure => simp [intOf]; omega
        · obtain rfl : k = n := by omega
          have hp : t = (a + 1) * (b + 1) := by
            rw [ht.out]
            have h1 := HD.out
            have h2 := HM.out
            rcases Int.le_total a b with h | h
            · rw [show (d : Int) = b - a by omega, show (k : Int) = a + 1 by omega]; grind
            · rw [show (d : Int) = a - b by omega, show (k : Int) = b + 1 by omega]; grind
          have hq : (t == (a + 1) * (b + 1)) = true := by rw [hp]; exact beq_self_eq_true _
          have p0 : 0 ≤ (a + 1) * (b + 1) := by omega
          have p1 : (a + 1) * (b + 1) ≤ 10000 := by omega
          clear hp
          go_wp2_with fail
          refine (impl_coupled hcs _).mono ?_
          rintro e w5 ⟨A3, c3, rfl, S4, hb4⟩
          go_wp2_with fail
          refine (same_ints k c3 c1 A3 _ _ _ _ _ S4 ((S3.drewN _).below hb4) (by omega)).mono ?_
          rintro e w6 ⟨rfl, m2, rfl⟩
          go_wp2
          go_ret
          exact ⟨rfl, below_drewN ((below_drewN hbl _).trans (hb4.mono hbl.size)) _⟩

theorem walk_FnSpinCoupledSquare (A : Option Addr) (n0 c0 : Nat) (w : World) (h : Code w.heap.size w A n0 c0) : Calls Try.prog 13 #[.slice A n0 c0] w (Holds w) := by
  have HC := draw_coupled w.heap.size n0 c0 A w h (Nat.le_refl _)
  have HO := Lib.hid HC
  clear h HC
  go_enter Try.func13, Try.ntmps13
  go_wp2_with fail
  · go_ret
    exact holds_same _
  · refine HO.out.mono ?_
    rintro e w1 ⟨a, b, ⟨a0, a1, b0, b1⟩, rfl, hb1⟩
    clear HO
    obtain ⟨d, n, hc⟩ := cpl_ex a b
    obtain ⟨n1, d1⟩ := hc.bd
    go_wp2_with fail
    refine (impl_coupled hc _).mono ?_
    rintro e w2 ⟨A1, c1, rfl, S1, hb2⟩
    go_wp2_with fail
    refine (spec_coupled hc _).mono ?_
    rintro e w3 ⟨A2, c2, rfl, S2, hb3⟩
    have S3 := S1.below hb3
    have hbl : Below w.heap.size w w3 := (hb1.trans (hb2.mono hb1.size)).trans (hb3.mono (Nat.le_trans hb1.size hb2.size))
    clear S1 hb1 hb2 hb3
    go_wp2_with fail
    refine (same_ints n c1 c2 A1 A2 _ _ _ _ S3 S2 (by omega)).mono ?_
    rintro e w4 ⟨rfl, m1, rfl⟩
    by_cases hn : n = 0
    · have hz : ((n : Int) == 0) = true := by rw [hn]; rfl
      clear hn
      go_wp2_with fail
      refine (same_ints n c1 c2 A1 A2 _ _ _ _ (S3.drewN _) (S2.drewN _) (by omega)).mono ?_
      rintro e w5 ⟨rfl, m2, rfl⟩
      go_wp2
      go_ret
      exact ⟨rfl, below_drewN hbl _⟩
    · have hz : ((n : Int) == 0) = false := by simp; omega
      have hn1 : 0 < n := by omega
      clear hn
      obtain ⟨g, rfl, hg1, hg2, hcell⟩ := S3 hn1
      have HCE := Lib.hid hcell
      clear hcell
      rcases hc with ⟨⟨a2, a3⟩, ⟨b2, b3⟩, hs, hd, hm⟩ | ⟨_, h0, _⟩
      case inr => omega
      have hcs : Cpl b a d n := .inl ⟨⟨b2, b3⟩, ⟨a2, a3⟩, by omega, by omega, by omega⟩
      have HD := Lib.hid hd
      have HM := Lib.hid hm
      clear hd hm
      go_wp2_with fail
      go_loopw [7, 8] (fun s i wr => ∃ k q : Nat, ∃ t : Int, wr = w3.drewN q ∧ k ≤ n ∧ i = .int .i64 (k : Int) ∧ s = .int .i64 t ∧ 0 ≤ t ∧ t ≤ 100000000 ∧ Hid (t = k * (d + k) * ((d + k) * (d + k) + k * k - 2))) (fun _ i _ => n - (intOf i).toNat)
      case atStart => exact ⟨0, _, 0, rfl, Nat.zero_le _, rfl, rfl, by omega, by omega, by show (0 : Int) = _; simp⟩
      case round =>
        obtain ⟨k, q, t, rfl, hk, rfl, rfl, t0, t1, ht⟩ := hrel
        by_cases hlt : k < n
        · have q1 := (HCE.out k hlt).1
          have hu : Hid (t + ((d : Int) + 2 * (k : Int) + 1) * ((d : Int) + 2 * (k : Int)) * ((d : Int) + 2 * (k : Int) + 2) = ((k + 1 : Nat) : Int) * ((d : Int) + ((k + 1 : Nat) : Int)) * (((d : Int) + ((k + 1 : Nat) : Int)) * ((d : Int) + ((k + 1 : Nat) : Int)) + ((k + 1 : Nat) : Int) * ((k + 1 : Nat) : Int) - 2)) := by
            show _ = _
            have := ht.out
            rw [this]
            simp only [Int.natCast_add, Int.cast_ofNat_Int]
            grind
          have hk2 : 0 ≤ ((d : Int) + 2 * (k : Int) + 1) * ((d : Int) + 2 * (k : Int)) := Int.mul_nonneg (by omega) (by omega)
          have hk3 : ((d : Int) + 2 * (k : Int) + 1) * ((d : Int) + 2 * (k : Int)) ≤ 75 * 74 := Int.mul_le_mul (by omega) (by omega) (by omega) (by omega)
          have hk4 : 0 ≤ ((d : Int) + 2 * (k : Int) + 1) * ((d : Int) + 2 * (k : Int)) * ((d : Int) + 2 * (k : Int) + 2) := Int.mul_nonneg hk2 (by omega)
          have hk5 : ((d : Int) + 2 * (k : Int) + 1) * ((d : Int) + 2 * (k : Int)) * ((d : Int) + 2 * (k : Int) + 2) ≤ 75 * 74 * 76 := Int.mul_le_mul hk3 (by omega) (by omega) (by omega)
          have hk6 : Hid (((k + 1 : Nat) : Int) * ((d : Int) + ((k + 1 : Nat) : Int)) * (((d : Int) + ((k + 1 : Nat) : Int)) * ((d : Int) + ((k + 1 : Nat) : Int)) + ((k + 1 : Nat) : Int) * ((k + 1 : Nat) : Int) - 2) ≤ 25 * 49 * (49 * 49 + 25 * 25)) := by
            show _ ≤ _
            have e1 : ((k + 1 : Nat) : Int) * ((d : Int) + ((k + 1 : Nat) : Int)) ≤ 25 * 49 := Int.mul_le_mul (by omega) (by omega) (by omega) (by omega)
            have e2 : ((d : Int) + ((k + 1 : Nat) : Int)) * ((d : Int) + ((k + 1 : Nat) : Int)) ≤ 49 * 49 := Int.mul_le_mul (by omega) (by omega) (by omega) (by omega)
            have e3 : ((k + 1 : Nat) : Int) * ((k + 1 : Nat) : Int) ≤ 25 * 25 := Int.mul_le_mul (by omega) (by omega) (by omega) (by omega)
            have e4 : 1 ≤ ((d : Int) + ((k + 1 : Nat) : Int)) * ((d : Int) + ((k + 1 : Nat) : Int)) := Int.mul_le_mul (a := 1) (b := 1) (by omega) (by omega) (by omega) (by omega)
            have e5 : 1 ≤ ((k + 1 : Nat) : Int) * ((k + 1 : Nat) : Int) := Int.mul_le_mul (a := 1) (b := 1) (by omega) (by omega) (by omega) (by omega)
            exact Int.mul_le_mul e1 (by omega) (by omega) (by omega)
          have i1 : (k : Int) < (n : Int) := by omega
          have e1 : IntKind.i64.wrap ((d : Int) + 2 * (k : Int) + 1) = (d : Int) + 2 * (k : Int) + 1 := IntWalk.i64_in _ (by omega)
          have e2 : IntKind.i64.wrap (((d : Int) + 2 * (k : Int) + 1) * ((d : Int) + 2 * (k : Int))) = ((d : Int) + 2 * (k : Int) + 1) * ((d : Int) + 2 * (k : Int)) := IntWalk.i64_in _ (by omega)
          have e3 : IntKind.i64.wrap ((d : Int) + 2 * (k : Int) + 2) = (d : Int) + 2 * (k : Int) + 2 := IntWalk.i64_in _ (by omega)
          have e4 : IntKind.i64.wrap (((d : Int) + 2 * (k : Int) + 1) * ((d : Int) + 2 * (k : Int)) * ((d : Int) + 2 * (k : Int) + 2)) = ((d : Int) + 2 * (k : Int) + 1) * ((d : Int) + 2 * (k : Int)) * ((d : Int) + 2 * (k : Int) + 2) := IntWalk.i64_in _ (by omega)
          have e5 : IntKind.i64.wrap (t + ((d : Int) + 2 * (k : Int) + 1) * ((d : Int) + 2 * (k : Int)) * ((d : Int) + 2 * (k : Int) + 2)) = t + ((d : Int) + 2 * (k : Int) + 1) * ((d : Int) + 2 * (k : Int)) * ((d : Int) + 2 * (k : Int) + 2) := IntWalk.i64_in _ (by omega)
          go_wp2_with fail
          go_quiet (fail)
          clear e1 e2 e3 e4 e5
          go_wp2
          go_roundw
          case rel =>
            have := hu.out
            have := hk6.out
            exact ⟨k + 1, _, _, rfl, by omega, by go_num, rfl, by omega, by omega, hu.out⟩
          case measure => simp [intOf]; omega
        · obtain rfl : k = n := by omega
          have hp : t = (a + 1) * (b + 1) * (a * (a + 2) + b * (b + 2)) := by
            rw [ht.out]
            have h1 := HD.out
            have h2 := HM.out
            rcases Int.le_total a b with h | h
            · rw [show (d : Int) = b - a by omega, show (k : Int) = a + 1 by omega]; grind
            · rw [show (d : Int) = a - b by omega, show (k : Int) = b + 1 by omega]; grind
          have hq : (t == (a + 1) * (b + 1) * (a * (a + 2) + b * (b + 2))) = true := by rw [hp]; exact beq_self_eq_true _
          have p0 : 0 ≤ (a + 1) * (b + 1) := Int.mul_nonneg (by omega) (by omega)
          have p1 : (a + 1) * (b + 1) ≤ 25 * 25 := Int.mul_le_mul (by omega) (by omega) (by omega) (by omega)
          have p2 : 0 ≤ a * (a + 2) := Int.mul_nonneg (by omega) (by omega)
          have p3 : a * (a + 2) ≤ 24 * 26 := Int.mul_le_mul (by omega) (by omega) (by omega) (by omega)
          have p4 : 0 ≤ b * (b + 2) := Int.mul_nonneg (by omega) (by omega)
          have p5 : b * (b + 2) ≤ 24 * 26 := Int.mul_le_mul (by omega) (by omega) (by omega) (by omega)
          have p6 : 0 ≤ (a + 1) * (b + 1) * (a * (a + 2) + b * (b + 2)) := by omega
          have p7 : (a + 1) * (b + 1) * (a * (a + 2) + b * (b + 2)) ≤ 100000000 := by omega
          clear hp
          go_wp2
          go_ret
          exact ⟨rfl, below_drewN hbl _⟩
end Go.Proofs.Ytfmlejliphjeoaa
