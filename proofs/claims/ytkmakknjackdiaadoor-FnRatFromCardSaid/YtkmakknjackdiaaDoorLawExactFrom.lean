/-
  'FnExactRatFrom': what the program reads is what the reference reads.
-/
import Derived.Test.YtkmakknjackdiaaDoorLawRatText
import Derived.Test.YtkmakknjackdiaaDoorSpecFrom
namespace Go.Proofs.YtkmakknjackdiaaDoor
open Go.RowKit Go.Sort
set_option linter.unusedSimpArgs false
set_option linter.unusedVariables false
attribute [local go_sem ↓] Go.wp_at_zero Go.wp_at_succ

theorem eq_rat (n d : Int) (w : World) : Calls Tryd.prog 11 #[.agg #[.int .i64 n, .int .i64 d], .agg #[.int .i64 n, .int .i64 d]] w (Said w true) := by
  go_enter Tryd.func11, Tryd.ntmps11
  go_wp2
  go_ret
  exact ⟨rfl, ((Below.refl _ _).alloc (Nat.le_refl _) _).alloc (by simp) _⟩
theorem list_form (s : ByteArray) : s = ⟨s.data.toList.toArray⟩ := by cases s; simp
set_option maxHeartbeats 1000000 in
theorem walk_FnExactRatFrom (s0 : ByteArray) (w : World) (_h : s0.size ≤ maxLen) (hL : laidMetH Tryd.prog Rows.fnExactRatFromRow.laid w) : Calls Tryd.prog 3 #[.string s0] w (Holds w) := by
  have ht : TB w := tb_of_laid hL (by rfl)
  have hv : EV w := ev_of_laid hL (by rfl) (by rfl)
  obtain ⟨s, rfl⟩ : ∃ s : List UInt8, s0 = ⟨s.toArray⟩ := ⟨_, list_form s0⟩
  clear hL _h
  by_cases hs : s.length ≤ 1048576
  · have hs2 : ¬ ((1048576 : Int) < (s.length : Int)) := by omega
    have HI := Lib.hid (impl_rf s (by omega))
    have HS := Lib.hid (spec_rf s (by omega))
    go_enter Tryd.func3, Tryd.ntmps3
    go_wp2_with fail
    refine (HS.out _).mono ?_
    rintro e w1 ⟨n, d, ok, hR, rfl, hb1⟩
    go_wp2_with fail
    have B1 : Below w.heap.size w (w1.alloc (.cells #[.int .i64 n, .int .i64 d] 23)) := hb1.alloc hb1.size _
    refine (HI.out _ (tab_below ht B1) (ev_below hv B1)).mono ?_
    rintro e w2 ⟨n2, d2, ok2, hR2, rfl, hb2⟩
    obtain ⟨rfl, rfl, rfl⟩ := hR2.one hR
    have R2 := (Rs.new_ _ _ _ _).call hb2
    have R3 := R2.alloc (.cells #[.int .i64 n2, .int .i64 d2] 23)
    have hok : (ok2 != ok2) = false := by cases ok2 <;> rfl
    clear hb2 HI HS hR hR2 B1
    obtain ⟨u0, u1, u2, f1, f2, u3⟩ := R2
    have u4 := R3.2.2.2.2.2
    clear R3
    go_wp2_with fail
    refine (eq_rat _ _ _).mono ?_
    rintro e w3 ⟨rfl, hb3⟩
    have u5 := u4.trans (hb3.mono u4.size)
    go_wp2
    go_ret
    exact ⟨rfl, hb1.trans (u5.mono hb1.size)⟩
  · have hs2 : (1048576 : Int) < (s.length : Int) := by omega
    go_enter Tryd.func3, Tryd.ntmps3
    go_wp2_with fail
    go_ret
    exact ⟨rfl, Below.refl _ _⟩
end Go.Proofs.YtkmakknjackdiaaDoor
