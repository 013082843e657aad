/-
  'FnSpinText': different spins have different texts.
-/
import Derived.Test.YtkmakknjackdiaaDoorSpinText
namespace Go.Proofs.YtkmakknjackdiaaDoor
open Go.RowKit
set_option linter.unusedSimpArgs false
set_option linter.unusedVariables false
attribute [local go_sem] Oper.semAt_some

theorem draw_st (n0 c0 : Nat) (A : Option Addr) (w : World) (h : Code w.heap.size w A n0 c0) : Calls Tryd.prog 19 #[.slice A n0 c0] w fun e w' => ∃ j : Int, e = .returned (.int .i64 j) ∧ Below w.heap.size w w' := by
  have HO := Lib.hid (open_any w.heap.size n0 c0 A w h (Nat.le_refl _))
  clear h
  go_enter Tryd.func19, Tryd.ntmps19
  go_wp2_with fail
  refine HO.out.mono ?_
  rintro e w1 ⟨g, rfl, hR, hb⟩
  clear HO
  go_wp2_with fail
  refine (pick_any _ g _ _ _ hR (by omega) (by omega) (by omega) (by omega)).mono ?_
  rintro e w2 ⟨v, rfl, v0, v1, v2, hR2, hb2⟩
  have v3 := v1 (by omega)
  clear v1 v2
  go_wp2
  go_ret
  exact ⟨_, rfl, hb.trans hb2⟩

theorem spT_len2 : ∀ a : Fin 25, (spT a.1).length < 5 := by decide +kernel
theorem ba_ne {a b : List UInt8} (h : a ≠ b) : ((⟨a.toArray⟩ : ByteArray) == ⟨b.toArray⟩) = false := by
  show (a.toArray == b.toArray) = false
  rw [beq_eq_false_iff_ne]; intro hh; exact h (by have := congrArg Array.toList hh; simpa using this)
theorem quiet_left {P : Program} {f : FuncId} {args : Array Value} {w : World} {n : Nat} {v : Value}
    (h : Calls P f args (w.drewN n) fun e w' => e = .returned v ∧ w.drewN n = w') : Calls P f args (w.drewN n) fun e w'' => e = .returned v ∧ ∃ m, w'' = w.drewN m :=
  h.mono fun _ _ ⟨he, hm⟩ => ⟨he, n, hm.symm⟩
theorem quiet_left2 {P : Program} {f : FuncId} {args : Array Value} {w : World} {m n : Nat} {v : Value}
    (h : Calls P f args (w.drewN (m + n)) fun e w' => e = .returned v ∧ w.drewN (m + n) = w') : Calls P f args (w.drewN (m + n)) fun e w'' => e = .returned v ∧ ∃ x, w'' = w.drewN (m + x) :=
  h.mono fun _ _ ⟨he, hm⟩ => ⟨he, n, hm.symm⟩

set_option maxHeartbeats 1000000 in
theorem walk_FnSpinText (A : Option Addr) (n0 c0 : Nat) (w : World) (h : Code w.heap.size w A n0 c0) : Calls Tryd.prog 7 #[.slice A n0 c0] w (Holds w) := by
  have HO := Lib.hid (draw_st n0 c0 A w h)
  clear h
  go_enter Tryd.func7, Tryd.ntmps7
  go_wp2_with fail
  · go_ret
    exact ⟨rfl, Below.refl _ _⟩
  · refine HO.out.mono ?_
    rintro e w1 ⟨j, rfl, hb1⟩
    clear HO
    have HI := Lib.hid (impl_st j)
    have HS := Lib.hid (spec_st j)
    by_cases hj : 0 ≤ j ∧ j ≤ 24
    · have HX : Hid (stX j = spT j.toNat) := Lib.hid (if_pos hj)
      obtain ⟨J, rfl⟩ := Int.eq_ofNat_of_zero_le hj.1
      have hJ : J ≤ 24 := by omega
      obtain ⟨l, hl⟩ : ∃ l, spT J = l := ⟨_, rfl⟩
      have hX2 : stX (J : Int) = l := by rw [HX.out, show ((J : Int)).toNat = J from by omega, hl]
      rw [hX2] at HI HS
      clear HX hX2 hj
      have HL := Lib.hid hl
      have hne : l ≠ [] := by rw [← hl]; exact (spT_len ⟨J, by omega⟩).1
      have hlen : l.length ≤ 4 := by rw [← hl]; exact (spT_len ⟨J, by omega⟩).2
      have e1 : l.isEmpty = false := by simpa using hne
      clear hl
      go_wp2_with fail
      refine (HI.out _).mono ?_
      rintro e w' ⟨rfl, rfl⟩
      go_wp2_with fail
      refine (HS.out _).mono ?_
      rintro e w2 ⟨rfl, hb2⟩
      have hb := hb1.trans (hb2.mono hb1.size)
      clear hb1 hb2 HI HS
      go_wp2_with fail
      go_loopw [6] (fun i wr => ∃ k m : Nat, k ≤ 25 ∧ i = .int .i64 (k : Int) ∧ wr = w2.drewN m) (fun i _ => 25 - (intOf i).toNat)
      case atStart => exact ⟨0, 0, by omega, rfl, rfl⟩
      case round =>
        obtain ⟨k, m, hk, rfl, rfl⟩ := hrel
        by_cases hlt : k ≤ 24
        · by_cases hkj : k = J
          · subst hkj
            have e3 : ((k : Int) != (k : Int)) = false := by simp
            go_wp2
            go_roundw
            case rel => exact ⟨k + 1, _, by omega, by go_num, rfl⟩
            case measure => simp [intOf]; omega
          · have e3 : ((k : Int) != (J : Int)) = true := by simp; omega
            have h0 := impl_st (k : Int)
            rw [show stX (k : Int) = spT k by rw [show stX (k : Int) = spT (k : Int).toNat from if_pos (by omega)]; rfl] at h0
            have HH := Lib.hid h0
            have e4 : (spT k == l) = false := beq_eq_false_iff_ne.2 (by rw [← HL.out]; exact spT_inj ⟨k, by omega⟩ ⟨J, by omega⟩ (by simpa using hkj))
            clear h0
            go_wp2_with fail
            refine (HH.out _).mono ?_
            rintro e w' ⟨rfl, rfl⟩
            go_wp2
            go_roundw
            case rel => exact ⟨k + 1, _, by omega, by go_num, rfl⟩
            case measure => simp [intOf]; omega
        · obtain rfl : k = 25 := by omega
          have HB := Lib.hid (below_drewN hb m)
          clear hb e1
          by_cases he : J % 2 = 0
          · have e2 : (J : Int).tmod 2 = 0 := by rw [Int.tmod_eq_emod_of_nonneg (by omega)]; omega
            have e4 : ¬ (2 < (l.length : Int)) := by
              rw [← HL.out]; unfold spT; rw [if_pos he]; have := two_len (i := J / 2); omega
            have e5 : (l.length : Int) ≤ 2 := by omega
            clear hne
            go_wp2
            go_ret
            exact ⟨rfl, HB.out⟩
          · clear hne hlen
            have hJs : J = 1 ∨ J = 3 ∨ J = 5 ∨ J = 7 ∨ J = 9 ∨ J = 11 ∨ J = 13 ∨ J = 15 ∨ J = 17 ∨ J = 19 ∨ J = 21 ∨ J = 23 := by omega
            clear he hJ
            rcases hJs with rfl | rfl | rfl | rfl | rfl | rfl | rfl | rfl | rfl | rfl | rfl | rfl
            · obtain rfl : l = [49, 47, 50] := HL.out.symm.trans (by decide +kernel)
              clear HL
              go_wp2_with fail
              go_ret
              exact ⟨ret_bool (by decide +kernel), HB.out⟩
            · obtain rfl : l = [51, 47, 50] := HL.out.symm.trans (by decide +kernel)
              clear HL
              go_wp2_with fail
              go_ret
              exact ⟨ret_bool (by decide +kernel), HB.out⟩
            · obtain rfl : l = [53, 47, 50] := HL.out.symm.trans (by decide +kernel)
              clear HL
              go_wp2_with fail
              go_ret
              exact ⟨ret_bool (by decide +kernel), HB.out⟩
            · obtain rfl : l = [55, 47, 50] := HL.out.symm.trans (by decide +kernel)
              clear HL
              go_wp2_with fail
              go_ret
              exact ⟨ret_bool (by decide +kernel), HB.out⟩
            · obtain rfl : l = [57, 47, 50] := HL.out.symm.trans (by decide +kernel)
              clear HL
              go_wp2_with fail
              go_ret
              exact ⟨ret_bool (by decide +kernel), HB.out⟩
            · obtain rfl : l = [49, 49, 47, 50] := HL.out.symm.trans (by decide +kernel)
              clear HL
              go_wp2_with fail
              go_ret
              exact ⟨ret_bool (by decide +kernel), HB.out⟩
            · obtain rfl : l = [49, 51, 47, 50] := HL.out.symm.trans (by decide +kernel)
              clear HL
              go_wp2_with fail
              go_ret
              exact ⟨ret_bool (by decide +kernel), HB.out⟩
            · obtain rfl : l = [49, 53, 47, 50] := HL.out.symm.trans (by decide +kernel)
              clear HL
              go_wp2_with fail
              go_ret
              exact ⟨ret_bool (by decide +kernel), HB.out⟩
            · obtain rfl : l = [49, 55, 47, 50] := HL.out.symm.trans (by decide +kernel)
              clear HL
              go_wp2_with fail
              go_ret
              exact ⟨ret_bool (by decide +kernel), HB.out⟩
            · obtain rfl : l = [49, 57, 47, 50] := HL.out.symm.trans (by decide +kernel)
              clear HL
              go_wp2_with fail
              go_ret
              exact ⟨ret_bool (by decide +kernel), HB.out⟩
            · obtain rfl : l = [50, 49, 47, 50] := HL.out.symm.trans (by decide +kernel)
              clear HL
              go_wp2_with fail
              go_ret
              exact ⟨ret_bool (by decide +kernel), HB.out⟩
            · obtain rfl : l = [50, 51, 47, 50] := HL.out.symm.trans (by decide +kernel)
              clear HL
              go_wp2_with fail
              go_ret
              exact ⟨ret_bool (by decide +kernel), HB.out⟩
    · have HX : stX j = [] := if_neg hj
      rw [HX] at HI HS
      clear HX hj
      go_wp2_with fail
      refine (HI.out _).mono ?_
      rintro e w' ⟨rfl, rfl⟩
      go_wp2_with fail
      refine (HS.out _).mono ?_
      rintro e w2 ⟨rfl, hb2⟩
      go_wp2
      go_ret
      exact ⟨rfl, hb1.trans (hb2.mono hb1.size)⟩
end Go.Proofs.YtkmakknjackdiaaDoor
