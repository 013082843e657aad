/-
  The exact law of products of roots.
-/
import Derived.Test.YtecoekenkjgijaaRootKit
import Derived.Test.YtecoekenkjgijaaRootMulI
import Derived.Test.YtecoekenkjgijaaRootMulS
import Derived.Test.YtecoekenkjgijaaRootOfI
import Derived.Test.YtecoekenkjgijaaRootOfS
import Derived.Deep.RegionHeld3
import Derived.Deep.DrawnRows
import Derived.Deep.CutRange
namespace Go.Proofs.Ytecoekenkjgijaa
open Go.RowKit
set_option linter.unusedSimpArgs false
set_option linter.unusedVariables false
attribute [local go_sem ↓] Go.wp_at_zero Go.wp_at_succ

set_option maxHeartbeats 4000000 in
theorem walk_FnExactRootMul (s n d s' n' d' : Int) (w : World) (_h0 : (Lit.int .i64 s).wf = true) (_h1 : (Lit.int .i64 n).wf = true) (_h2 : (Lit.int .i64 d).wf = true) (_h3 : (Lit.int .i64 s').wf = true) (_h4 : (Lit.int .i64 n').wf = true) (_h5 : (Lit.int .i64 d').wf = true) :
    Calls Try.prog 5 #[.agg #[.int .i64 s, .int .i64 n, .int .i64 d], .agg #[.int .i64 s', .int .i64 n', .int .i64 d']] w (Holds w) := by
  obtain ⟨t, x, y, ok, hr⟩ := ro_one (mulO s n d s' n' d')
  have HS : Hid (∀ W, Calls Try.prog 18 #[.agg #[.int .i64 s, .int .i64 n, .int .i64 d], .agg #[.int .i64 s', .int .i64 n', .int .i64 d']] W (RO1 W t x y ok)) := fun W => by rw [← hr]; exact spec_rmul s n d s' n' d' W
  have HI : Hid (∀ W, Calls Try.prog 19 #[.agg #[.int .i64 s, .int .i64 n, .int .i64 d], .agg #[.int .i64 s', .int .i64 n', .int .i64 d']] W (RO1 W t x y ok)) := fun W => by rw [← hr]; exact impl_rmul s n d s' n' d' W
  have HT := Lib.hid to_root
  have hok : (ok != ok) = false := by cases ok <;> rfl
  clear hr _h0 _h1 _h2 _h3 _h4 _h5
  obtain ⟨W0, hW, K0⟩ := start6 w s n d s' n' d' 25
  have HW := Lib.hid hW
  clear hW
  go_enter Try.func5, Try.ntmps5
  go_upto_region 1 with (fail)
  rw [HW.out]
  clear HW
  go_cut [5, 6] from 9 to 16 (fun s5 s6 wx => ∃ b : Nat, s5 = .pointer (some ⟨b, 0, none⟩) ∧ s6 = .bool ok ∧ wx.cell? ⟨b, 0, none⟩ = some (.int .i64 t) ∧ wx.cell? ⟨b, 1, none⟩ = some (.int .i64 x) ∧ wx.cell? ⟨b, 2, none⟩ = some (.int .i64 y) ∧ wx.cell? ⟨w.heap.size, 0, none⟩ = some (.int .i64 s) ∧ wx.cell? ⟨w.heap.size, 1, none⟩ = some (.int .i64 n) ∧ wx.cell? ⟨w.heap.size, 2, none⟩ = some (.int .i64 d) ∧ wx.cell? ⟨w.heap.size + 1, 0, none⟩ = some (.int .i64 s') ∧ wx.cell? ⟨w.heap.size + 1, 1, none⟩ = some (.int .i64 n') ∧ wx.cell? ⟨w.heap.size + 1, 2, none⟩ = some (.int .i64 d') ∧ W0.heap.size ≤ wx.heap.size ∧ Sx w W0 [(w.heap.size, 0, .int .i64 s), (w.heap.size, 1, .int .i64 n), (w.heap.size, 2, .int .i64 d), (w.heap.size + 1, 0, .int .i64 s'), (w.heap.size + 1, 1, .int .i64 n'), (w.heap.size + 1, 2, .int .i64 d')] wx)
  case first =>
    go_region_held3 (fun w' => w'.cell? ⟨w.heap.size, 0, none⟩ = some (.int .i64 s) ∧ w'.cell? ⟨w.heap.size, 1, none⟩ = some (.int .i64 n) ∧ w'.cell? ⟨w.heap.size, 2, none⟩ = some (.int .i64 d) ∧ w'.cell? ⟨w.heap.size + 1, 0, none⟩ = some (.int .i64 s') ∧ w'.cell? ⟨w.heap.size + 1, 1, none⟩ = some (.int .i64 n') ∧ w'.cell? ⟨w.heap.size + 1, 2, none⟩ = some (.int .i64 d') ∧ W0.heap.size ≤ w'.heap.size ∧ Sx w W0 [(w.heap.size, 0, .int .i64 s), (w.heap.size, 1, .int .i64 n), (w.heap.size, 2, .int .i64 d), (w.heap.size + 1, 0, .int .i64 s'), (w.heap.size + 1, 1, .int .i64 n'), (w.heap.size + 1, 2, .int .i64 d')] w')
      (first
        | (with_reducible exact all6 K0.drew)
        | (go_split_ands
           (with_reducible refine all6 ?_)
           first
            | (with_reducible exact Sx.call (by assumption) hb)
            | (with_reducible exact Sx.swap (by assumption) hq)
            | (with_reducible exact Sx.alloc (by assumption) _)
            | (with_reducible exact Sx.allocd (by assumption) _)
            | ((with_reducible refine Sx.set3 ?_ ?_); (with_reducible assumption); omega)))
      (first | (go_at_call 13; refine (HT.out _ _ _ _).mono ?_; rintro e wQ ⟨rfl, hb⟩; obtain ⟨hc, hf⟩ := bcell hb; have hz := hb.size; (try simp at hz); (try simp at hc); (try simp at hf); (try have hz := Nat.lt_of_succ_le hz); have hq : W0.heap.size ≤ wQ.heap.size := (by omega); (try have hq2 : W0.heap.size < wQ.heap.size := (by omega))) | (go_at_call 18; refine (HS.out _).mono ?_; rintro e wQ ⟨rfl, hb⟩; obtain ⟨hc, hf⟩ := bcell hb; have hz := hb.size; (try simp at hz); (try simp at hc); (try simp at hf); (try have hz := Nat.lt_of_succ_le hz); have hq : W0.heap.size ≤ wQ.heap.size := (by omega); (try have hq2 : W0.heap.size < wQ.heap.size := (by omega))))
    all_goals
      go_wp2_with fail
      go_meet
      refine ⟨_, rfl, rfl, ?_, ?_, ?_, by assumption⟩
      · go_simp
      · go_simp
      · go_simp
  case rest =>
    obtain ⟨b, rfl, rfl, x0, y0, y9, k0, k1, k2, k3, k4, k5, k7, k6⟩ := hcut
    have K1 : Sx w wc [(b, 0, .int .i64 t), (b, 1, .int .i64 x), (b, 2, .int .i64 y), (w.heap.size, 0, .int .i64 s), (w.heap.size, 1, .int .i64 n), (w.heap.size, 2, .int .i64 d), (w.heap.size + 1, 0, .int .i64 s'), (w.heap.size + 1, 1, .int .i64 n'), (w.heap.size + 1, 2, .int .i64 d')] wc := Sx.of9 x0 y0 y9 k0 k1 k2 k3 k4 k5 k6.2.2.1
    clear K0 x0 y0 y9 k0 k1 k2 k3 k4 k5 k6 k7
    go_upto_region 2 with (fail)
    go_cut [7, 8] from 17 to 24 (fun s7 s8 wx => ∃ b2 : Nat, s7 = .pointer (some ⟨b2, 0, none⟩) ∧ s8 = .bool ok ∧ wx.cell? ⟨b2, 0, none⟩ = some (.int .i64 t) ∧ wx.cell? ⟨b2, 1, none⟩ = some (.int .i64 x) ∧ wx.cell? ⟨b2, 2, none⟩ = some (.int .i64 y) ∧ wx.cell? ⟨b, 0, none⟩ = some (.int .i64 t) ∧ wx.cell? ⟨b, 1, none⟩ = some (.int .i64 x) ∧ wx.cell? ⟨b, 2, none⟩ = some (.int .i64 y) ∧ wx.cell? ⟨w.heap.size, 0, none⟩ = some (.int .i64 s) ∧ wx.cell? ⟨w.heap.size, 1, none⟩ = some (.int .i64 n) ∧ wx.cell? ⟨w.heap.size, 2, none⟩ = some (.int .i64 d) ∧ wx.cell? ⟨w.heap.size + 1, 0, none⟩ = some (.int .i64 s') ∧ wx.cell? ⟨w.heap.size + 1, 1, none⟩ = some (.int .i64 n') ∧ wx.cell? ⟨w.heap.size + 1, 2, none⟩ = some (.int .i64 d') ∧ wc.heap.size ≤ wx.heap.size ∧ Sx w wc [(b, 0, .int .i64 t), (b, 1, .int .i64 x), (b, 2, .int .i64 y), (w.heap.size, 0, .int .i64 s), (w.heap.size, 1, .int .i64 n), (w.heap.size, 2, .int .i64 d), (w.heap.size + 1, 0, .int .i64 s'), (w.heap.size + 1, 1, .int .i64 n'), (w.heap.size + 1, 2, .int .i64 d')] wx)
    case first =>
      go_region_held3 (fun w' => w'.cell? ⟨b, 0, none⟩ = some (.int .i64 t) ∧ w'.cell? ⟨b, 1, none⟩ = some (.int .i64 x) ∧ w'.cell? ⟨b, 2, none⟩ = some (.int .i64 y) ∧ w'.cell? ⟨w.heap.size, 0, none⟩ = some (.int .i64 s) ∧ w'.cell? ⟨w.heap.size, 1, none⟩ = some (.int .i64 n) ∧ w'.cell? ⟨w.heap.size, 2, none⟩ = some (.int .i64 d) ∧ w'.cell? ⟨w.heap.size + 1, 0, none⟩ = some (.int .i64 s') ∧ w'.cell? ⟨w.heap.size + 1, 1, none⟩ = some (.int .i64 n') ∧ w'.cell? ⟨w.heap.size + 1, 2, none⟩ = some (.int .i64 d') ∧ wc.heap.size ≤ w'.heap.size ∧ Sx w wc [(b, 0, .int .i64 t), (b, 1, .int .i64 x), (b, 2, .int .i64 y), (w.heap.size, 0, .int .i64 s), (w.heap.size, 1, .int .i64 n), (w.heap.size, 2, .int .i64 d), (w.heap.size + 1, 0, .int .i64 s'), (w.heap.size + 1, 1, .int .i64 n'), (w.heap.size + 1, 2, .int .i64 d')] w')
        (first
          | (with_reducible exact all9 K1.drew)
          | (go_split_ands
             (with_reducible refine all9 ?_)
             first
              | (with_reducible exact Sx.call (by assumption) hb)
              | (with_reducible exact Sx.swap (by assumption) hq)
              | (with_reducible exact Sx.alloc (by assumption) _)
              | (with_reducible exact Sx.allocd (by assumption) _)
              | ((with_reducible refine Sx.set3 ?_ ?_); (with_reducible assumption); omega)))
        (first | (go_at_call 13; refine (HT.out _ _ _ _).mono ?_; rintro e wQ ⟨rfl, hb⟩; obtain ⟨hc, hf⟩ := bcell hb; have hz := hb.size; (try simp at hz); (try simp at hc); (try simp at hf); (try have hz := Nat.lt_of_succ_le hz); have hq : wc.heap.size ≤ wQ.heap.size := (by omega); (try have hq2 : wc.heap.size < wQ.heap.size := (by omega))) | (go_at_call 19; refine (HI.out _).mono ?_; rintro e wQ ⟨rfl, hb⟩; obtain ⟨hc, hf⟩ := bcell hb; have hz := hb.size; (try simp at hz); (try simp at hc); (try simp at hf); (try have hz := Nat.lt_of_succ_le hz); have hq : wc.heap.size ≤ wQ.heap.size := (by omega); (try have hq2 : wc.heap.size < wQ.heap.size := (by omega))))
      all_goals
        go_wp2_with fail
        go_meet
        refine ⟨_, rfl, rfl, ?_, ?_, ?_, by assumption⟩
        · go_simp
        · go_simp
        · go_simp
    case rest =>
      obtain ⟨b2, rfl, rfl, x1, y1, y8, x0, y0, y9, k0, k1, k2, k3, k4, k5, _, k6⟩ := hcut
      have k7 := k6.2.2.1
      clear K1 k6
      go_wp2_with fail
      refine (eq_root _ _ _ _).mono ?_
      rintro e w3 ⟨rfl, hb3⟩
      go_wp2
      go_ret
      exact ⟨rfl, k7.trans (hb3.mono k7.size)⟩
end Go.Proofs.Ytecoekenkjgijaa
