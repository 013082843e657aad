/-
  The draw of 'FnRatFrom': some short text.
-/
import Derived.Test.YtkmakknjackdiaaDoorLawExactFrom
namespace Go.Proofs.YtkmakknjackdiaaDoor
open Go.RowKit Go.Sort
set_option linter.unusedSimpArgs false
set_option linter.unusedVariables false
attribute [local go_sem ↓] Go.wp_at_zero Go.wp_at_succ

set_option maxHeartbeats 1000000 in
theorem of_any (B g b n : Nat) (p : Int) (w : World) (h : Rd B w g p) (hp0 : 0 ≤ p) (hp1 : p ≤ 900000) (hn : 1 ≤ n ∧ n ≤ 100) (hne : b ≠ g) (hlt : b < w.heap.size)
    (hc : ∀ i : Nat, i < n → ∃ l : List UInt8, l.length ≤ 20 ∧ w.cell? ⟨b, i, none⟩ = some (.string ⟨l.toArray⟩)) :
    Calls Tryd.prog 32 #[.pointer (some ⟨g, 0, none⟩), .slice (some ⟨b, 0, none⟩) n n] w fun e w' => ∃ l : List UInt8, l.length ≤ 20 ∧ e = .returned (.string ⟨l.toArray⟩) ∧ w.grownBy w' (some g) := by
  have HC := Lib.hid hc
  clear hc
  go_enter Tryd.func32, Tryd.ntmps32
  go_wp2_with fail
  refine (pk_any B g p n _ h (by omega) (by omega) (by omega) (by omega)).mono ?_
  rintro e w1 ⟨v, rfl, v0, v1, hR, hg⟩
  obtain ⟨k, rfl⟩ := Int.eq_ofNat_of_zero_le v0
  have hk : k < n := by omega
  obtain ⟨l, hl, hcl⟩ := HC.out k hk
  have hcl1 : w1.cell? ⟨b, k, none⟩ = some (.string ⟨l.toArray⟩) := ((gcell hg).1 _ _ hlt hne).trans hcl
  have i1 : (k : Int) < (n : Int) := by omega
  have i2 : (0 : Int) ≤ (k : Int) := by omega
  clear HC hcl
  go_wp2
  go_ret
  exact ⟨l, hl, rfl, hg⟩
theorem d_DrawRatFrom (n0 c0 : Nat) (A : Option Addr) (w : World) (h : Code w.heap.size w A n0 c0) (ht : TB w) : Calls Tryd.prog 15 #[.slice A n0 c0] w fun e w' =>
    ∃ l : List UInt8, l.length ≤ 200 ∧ e = .returned (.string ⟨l.toArray⟩) ∧ Below w.heap.size w w' := by
  have HO := Lib.hid (open_w w.heap.size n0 c0 A _ h (Nat.le_refl _))
  clear h
  go_enter Tryd.func15, Tryd.ntmps15
  go_wp2_with fail
  refine HO.out.mono ?_
  rintro e w1 ⟨g, rfl, hR, hb, hg⟩
  clear HO
  go_wp2_with fail
  refine (rat_any _ g _ _ hR (by omega) (by omega)).mono ?_
  rintro e w2 ⟨n, d, q, rfl, _, _, _, _, q0, q1, hR2, hg2⟩
  have B2 := hb.trans (gfrom hg2 hg hb.size)
  have HS := Lib.hid (spec_rt n d)
  have hl := @rt_len n d
  generalize rtX n d = l at *
  clear hb hg2
  go_wp2_with fail
  refine (HS.out _).mono ?_
  rintro e w3 ⟨rfl, hb3⟩
  have hR3 := hR2.below hb3
  have B3 := B2.trans (hb3.mono B2.size)
  clear hb3 B2 HS hR2
  go_wp2_with fail
  refine (pk_any _ g q 8 _ hR3 (by omega) (by omega) (by omega) (by omega)).mono ?_
  rintro e w4 ⟨v, rfl, v0, v1, hR4, hg4⟩
  have B4 := B3.trans (gfrom hg4 hg B3.size)
  clear hg4 hR3 B3
  rcases (by omega : v = 0 ∨ v = 1 ∨ (v ≠ 0 ∧ v ≠ 1)) with rfl | rfl | ⟨hv0, hv1⟩
  · go_wp2_with fail
    refine (of_any _ g w4.heap.size 12 _ _ (hR4.alloc _) (by omega) (by omega) (by omega) (by have := hR4.hg; omega) (by simp) ?_).mono ?_
    · intro i hi
      rcases (by omega : i = 0 ∨ i = 1 ∨ i = 2 ∨ i = 3 ∨ i = 4 ∨ i = 5 ∨ i = 6 ∨ i = 7 ∨ i = 8 ∨ i = 9 ∨ i = 10 ∨ i = 11) with rfl | rfl | rfl | rfl | rfl | rfl | rfl | rfl | rfl | rfl | rfl | rfl
      all_goals
        refine ⟨_, ?_, lit_cell (World.grownBy.refl _ _) hR4.hg rfl⟩
        decide
    rintro e w5 ⟨l2, hl2, rfl, hg5⟩
    have B5 := (B4.alloc B4.size _).trans (gfrom hg5 hg (B4.alloc B4.size _).size)
    go_wp2
    go_ret
    exact ⟨l2, by omega, rfl, B5⟩
  · go_wp2_with fail
    refine (of_any _ g w4.heap.size 4 _ _ (hR4.alloc _) (by omega) (by omega) (by omega) (by have := hR4.hg; omega) (by simp) ?_).mono ?_
    · intro i hi
      rcases (by omega : i = 0 ∨ i = 1 ∨ i = 2 ∨ i = 3) with rfl | rfl | rfl | rfl
      all_goals
        refine ⟨_, ?_, lit_cell (World.grownBy.refl _ _) hR4.hg rfl⟩
        decide
    rintro e w5 ⟨l2, hl2, rfl, hg5⟩
    have B5 := (B4.alloc B4.size _).trans (gfrom hg5 hg (B4.alloc B4.size _).size)
    have hs1 : ¬ ((⟨l.toArray⟩ : ByteArray).size + (⟨l2.toArray⟩ : ByteArray).size > 9223372036854775807) := by show ¬ (l.toArray.size + l2.toArray.size > _); simp; omega
    have hadd1 : ∀ W, (Op.stringOp .add ⟨l.toArray⟩ ⟨l2.toArray⟩).run Tryd.prog W = .ok (.string ⟨(l ++ l2).toArray⟩) W := fun W => run_string_add_lists W l l2 (by omega) (by omega)
    go_wp2
    go_ret
    exact ⟨l ++ l2, by simp; omega, ret_str (by first | rfl | rw [bapp]), B5⟩
  · have e0 : (v == 0) = false := by simpa using hv0
    have e1 : (v == 1) = false := by simpa using hv1
    go_wp2
    go_ret
    exact ⟨l, by omega, rfl, B4⟩
end Go.Proofs.YtkmakknjackdiaaDoor
