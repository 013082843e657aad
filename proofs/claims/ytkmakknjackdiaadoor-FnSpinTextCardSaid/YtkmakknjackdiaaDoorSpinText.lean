/-
  The texts of spins.
-/
import Derived.Test.YtkmakknjackdiaaDoorDec
import Derived.Test.YtkmakknjackdiaaDoorLaid
import Derived.Deep.CutRange
namespace Go.Proofs.YtkmakknjackdiaaDoor
open Go.RowKit
set_option linter.unusedSimpArgs false
set_option linter.unusedVariables false

def svB (j : Int) : Bool := decide (0 ≤ j) && decide (j ≤ 24)
theorem svB_iff (j : Int) : svB j = true ↔ 0 ≤ j ∧ j ≤ 24 := by unfold svB; simp
theorem svB_not (j : Int) : svB j = false ↔ j < 0 ∨ 24 < j := by
  rw [← Bool.not_eq_true, svB_iff]; omega
theorem ret_bool {a b : Bool} (h : a = b) : Ending.returned (.bool a) = .returned (.bool b) := by rw [h]
theorem impl_svalid (j : Int) (w : World) : Calls Tryd.prog 35 #[.int .i64 j] w fun e w' => e = .returned (.bool (svB j)) ∧ w = w' := by
  go_enter Tryd.func35, Tryd.ntmps35
  go_wp2
  all_goals
    go_ret
    exact ⟨ret_bool (by rw [Bool.eq_iff_iff, svB_iff]; first | omega | (simp; omega)), rfl⟩
theorem spec_svalid (j : Int) (w : World) : Calls Tryd.prog 34 #[.int .i64 j] w fun e w' => e = .returned (.bool (svB j)) ∧ w = w' := by
  go_enter Tryd.func34, Tryd.ntmps34
  go_wp2_with (go_at_call 36; refine (in_any _ _ _ _).mono ?_; rintro e w' ⟨rfl, rfl⟩)
  go_ret
  exact ⟨ret_bool (by rw [Bool.eq_iff_iff, svB_iff, inB_iff]), rfl⟩

/-- The numeral of a number below 100. -/
def two (i : Nat) : List UInt8 := if i < 10 then [UInt8.ofNat (48 + i)] else [UInt8.ofNat (48 + i / 10), UInt8.ofNat (48 + i % 10)]
theorem two_eq {i : Nat} (h : i < 100) : Lib.decDigits i = two i := by
  unfold two
  by_cases h1 : i < 10
  · rw [if_pos h1, Lib.decDigits_one h1]
  · rw [if_neg h1, Lib.decDigits_two h1 h]
/-- The text of a spin. -/
def spT (j : Nat) : List UInt8 := if j % 2 = 0 then two (j / 2) else two j ++ [47, 50]
theorem spT_inj : ∀ a : Fin 25, ∀ b : Fin 25, a ≠ b → spT a.1 ≠ spT b.1 := by decide +kernel
theorem spT_len : ∀ a : Fin 25, spT a.1 ≠ [] ∧ (spT a.1).length ≤ 4 := by decide +kernel
theorem two_len {i : Nat} : (two i).length ≤ 2 := by unfold two; split <;> simp

/-- What 'SpinText' returns. -/
def stX (j : Int) : List UInt8 := if 0 ≤ j ∧ j ≤ 24 then spT j.toNat else []

theorem impl_st (j : Int) (w : World) : Calls Tryd.prog 18 #[.int .i64 j] w fun e w' => e = .returned (.string ⟨(stX j).toArray⟩) ∧ w = w' := by
  by_cases hj : 0 ≤ j ∧ j ≤ 24
  · have fj : svB j = true := (svB_iff j).2 hj
    have HX : Hid (stX j = spT j.toNat) := if_pos hj
    obtain ⟨J, rfl⟩ := Int.eq_ofNat_of_zero_le hj.1
    have hJ : J ≤ 24 := by omega
    by_cases he : J % 2 = 0
    · have HS : Hid (spT J = Lib.decDigits (J / 2)) := by show _ = _; unfold spT; rw [if_pos he, two_eq (by omega)]
      obtain ⟨k, hk⟩ : ∃ k : Nat, J / 2 = k := ⟨_, rfl⟩
      have e1 : (J : Int).tmod 2 = 0 := by rw [Int.tmod_eq_emod_of_nonneg (by omega)]; omega
      have e2 : (J : Int) % 2 = 0 := by omega
      have e3 : (J : Int).tdiv 2 = (k : Int) := by rw [Int.tdiv_eq_ediv_of_nonneg (by omega)]; omega
      have e4 : (J : Int) / 2 = (k : Int) := by omega
      have HK := Lib.hid hk
      have k1 : k < 100 := by omega
      clear hk he hj
      go_enter Tryd.func18, Tryd.ntmps18
      go_wp2_with fail
      refine (impl_svalid _ _).mono ?_
      rintro e w' ⟨rfl, rfl⟩
      go_wp2_with fail
      refine (Tryd.strconv_Itoa_small k k1 _).mono ?_
      rintro e w' ⟨rfl, rfl⟩
      go_wp2
      go_ret
      exact ⟨ret_str (by rw [HX.out, show ((J : Int)).toNat = J from by omega, HS.out, HK.out]), rfl⟩
    · have HS : Hid (spT J = Lib.decDigits J ++ [47, 50]) := by show _ = _; unfold spT; rw [if_neg he, two_eq (by omega)]
      have e1 : (J : Int).tmod 2 = 1 := by rw [Int.tmod_eq_emod_of_nonneg (by omega)]; omega
      have e2 : (J : Int) % 2 = 1 := by omega
      have k1 : J < 100 := by omega
      have hlen := dlen J (by omega)
      have hsz : ¬ ((⟨(Lib.decDigits J).toArray⟩ : ByteArray).size + (⟨#[47, 50]⟩ : ByteArray).size > 9223372036854775807) := by show ¬ ((Lib.decDigits J).toArray.size + 2 > _); simp; omega
      clear he hj
      go_enter Tryd.func18, Tryd.ntmps18
      go_wp2_with fail
      refine (impl_svalid _ _).mono ?_
      rintro e w' ⟨rfl, rfl⟩
      go_wp2_with fail
      refine (Tryd.strconv_Itoa_small J k1 _).mono ?_
      rintro e w' ⟨rfl, rfl⟩
      go_wp2
      go_ret
      exact ⟨ret_str (by rw [HX.out, show ((J : Int)).toNat = J from by omega, HS.out, ← bapp]), rfl⟩
  · have fj : svB j = false := by rw [svB_not]; omega
    have HX : Hid (stX j = []) := if_neg hj
    clear hj
    go_enter Tryd.func18, Tryd.ntmps18
    go_wp2_with fail
    refine (impl_svalid _ _).mono ?_
    rintro e w' ⟨rfl, rfl⟩
    go_wp2
    go_ret
    exact ⟨ret_str (by rw [HX.out]), rfl⟩
theorem spec_st (j : Int) (w : World) : Calls Tryd.prog 17 #[.int .i64 j] w (Tx w (stX j)) := by
  by_cases hj : 0 ≤ j ∧ j ≤ 24
  · have fj : svB j = true := (svB_iff j).2 hj
    have HX : Hid (stX j = spT j.toNat) := if_pos hj
    obtain ⟨J, rfl⟩ := Int.eq_ofNat_of_zero_le hj.1
    have hJ : J ≤ 24 := by omega
    by_cases he : J % 2 = 0
    · have HS : Hid (spT J = Lib.decDigits (J / 2)) := by show _ = _; unfold spT; rw [if_pos he, two_eq (by omega)]
      obtain ⟨k, hk⟩ : ∃ k : Nat, J / 2 = k := ⟨_, rfl⟩
      have e1 : (J : Int).tmod 2 = 0 := by rw [Int.tmod_eq_emod_of_nonneg (by omega)]; omega
      have e2 : (J : Int) % 2 = 0 := by omega
      have e3 : (J : Int).tdiv 2 = (k : Int) := by rw [Int.tdiv_eq_ediv_of_nonneg (by omega)]; omega
      have e4 : (J : Int) / 2 = (k : Int) := by omega
      have HK := Lib.hid hk
      have k1 : k < 100 := by omega
      clear hk he hj
      go_enter Tryd.func17, Tryd.ntmps17
      go_wp2_with fail
      refine (spec_svalid _ _).mono ?_
      rintro e w' ⟨rfl, rfl⟩
      go_wp2_with fail
      refine (dec_any k (by omega) _).mono ?_
      rintro e w1 ⟨rfl, hb⟩
      go_wp2
      go_ret
      exact ⟨ret_str (by rw [HX.out, show ((J : Int)).toNat = J from by omega, HS.out, HK.out]), hb⟩
    · have HS : Hid (spT J = Lib.decDigits J ++ [47, 50]) := by show _ = _; unfold spT; rw [if_neg he, two_eq (by omega)]
      have e1 : (J : Int).tmod 2 = 1 := by rw [Int.tmod_eq_emod_of_nonneg (by omega)]; omega
      have e2 : (J : Int) % 2 = 1 := by omega
      have k1 : J < 100 := by omega
      have hlen := dlen J (by omega)
      have hsz : ¬ ((⟨(Lib.decDigits J).toArray⟩ : ByteArray).size + (⟨#[47, 50]⟩ : ByteArray).size > 9223372036854775807) := by show ¬ ((Lib.decDigits J).toArray.size + 2 > _); simp; omega
      clear he hj
      go_enter Tryd.func17, Tryd.ntmps17
      go_wp2_with fail
      refine (spec_svalid _ _).mono ?_
      rintro e w' ⟨rfl, rfl⟩
      go_wp2_with fail
      refine (dec_any J (by omega) _).mono ?_
      rintro e w1 ⟨rfl, hb⟩
      go_wp2
      go_ret
      exact ⟨ret_str (by rw [HX.out, show ((J : Int)).toNat = J from by omega, HS.out, ← bapp]), hb⟩
  · have fj : svB j = false := by rw [svB_not]; omega
    have HX : Hid (stX j = []) := if_neg hj
    clear hj
    go_enter Tryd.func17, Tryd.ntmps17
    go_wp2_with fail
    refine (spec_svalid _ _).mono ?_
    rintro e w' ⟨rfl, rfl⟩
    go_wp2
    go_ret
    exact ⟨ret_str (by rw [HX.out]), Below.refl _ _⟩
/-- A law's walk ends so. -/
def Holds (w : World) (e : Ending) (w' : World) : Prop := e = .returned (.bool true) ∧ Below w.heap.size w w'
theorem walk_FnExactSpinText (j : Int) (w : World) (_h0 : (Lit.int .i64 j).wf = true) : Calls Tryd.prog 6 #[.int .i64 j] w (Holds w) := by
  clear _h0
  have HI := Lib.hid (impl_st j)
  have HS := Lib.hid (spec_st j)
  generalize stX j = l at *
  go_enter Tryd.func6, Tryd.ntmps6
  go_wp2_with fail
  refine (HS.out _).mono ?_
  rintro e w1 ⟨rfl, hb⟩
  go_wp2_with fail
  refine (HI.out _).mono ?_
  rintro e w' ⟨rfl, rfl⟩
  go_wp2
  go_ret
  exact ⟨rfl, hb⟩
end Go.Proofs.YtkmakknjackdiaaDoor
