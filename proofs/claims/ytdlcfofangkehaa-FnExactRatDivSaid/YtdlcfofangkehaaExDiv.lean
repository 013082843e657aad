/-
  The exact laws: sums, differences, products, quotients and the order of rationals.
-/
import Derived.Test.YtdlcfofangkehaaHeld
import Derived.Deep.RegionHeld3
import Derived.Deep.DrawnRows
import Derived.Deep.CutRange
namespace Go.Proofs.Ytdlcfofangkehaa
open Go.RowKit
set_option linter.unusedSimpArgs false
set_option linter.unusedVariables false
attribute [local go_sem ↓] Go.wp_at_zero Go.wp_at_succ


set_option maxHeartbeats 4000000 in
theorem walk_FnExactRatDiv (an ad bn bd : Int) (w : World) (_h0 : (Lit.int .i64 an).wf = true) (_h1 : (Lit.int .i64 ad).wf = true) (_h2 : (Lit.int .i64 bn).wf = true) (_h3 : (Lit.int .i64 bd).wf = true) :
    Calls Try.prog 8 #[.agg #[.int .i64 an, .int .i64 ad], .agg #[.int .i64 bn, .int .i64 bd]] w (Holds w) := by
  obtain ⟨x, y, ok, hr⟩ := res_one (divR an ad bn bd)
  have HS : Hid (∀ W, Calls Try.prog 16 #[.agg #[.int .i64 an, .int .i64 ad], .agg #[.int .i64 bn, .int .i64 bd]] W (Res1 W x y ok)) := fun W => by rw [← hr]; exact spec_div an ad bn bd W
  have HI : Hid (∀ W, Calls Try.prog 15 #[.agg #[.int .i64 an, .int .i64 ad], .agg #[.int .i64 bn, .int .i64 bd]] W (Res1 W x y ok)) := fun W => by rw [← hr]; exact impl_div an ad bn bd W
  have HT := Lib.hid to_rat
  have hok : (ok != ok) = false := by cases ok <;> rfl
  clear hr _h0 _h1 _h2 _h3
  obtain ⟨W0, hW, K0⟩ := start4 w an ad bn bd 32
  have HW := Lib.hid hW
  clear hW
  go_enter Try.func8, Try.ntmps8
  go_upto_region 1 with (fail)
  rw [HW.out]
  clear HW
  go_cut [5, 6] from 9 to 16 (fun s5 s6 wx => ∃ b : Nat, s5 = .pointer (some ⟨b, 0, none⟩) ∧ s6 = .bool ok ∧ wx.cell? ⟨b, 0, none⟩ = some (.int .i64 x) ∧ wx.cell? ⟨b, 1, none⟩ = some (.int .i64 y) ∧ wx.cell? ⟨w.heap.size, 0, none⟩ = some (.int .i64 an) ∧ wx.cell? ⟨w.heap.size, 1, none⟩ = some (.int .i64 ad) ∧ wx.cell? ⟨w.heap.size + 1, 0, none⟩ = some (.int .i64 bn) ∧ wx.cell? ⟨w.heap.size + 1, 1, none⟩ = some (.int .i64 bd) ∧ W0.heap.size ≤ wx.heap.size ∧ Sx w W0 [(w.heap.size, 0, .int .i64 an), (w.heap.size, 1, .int .i64 ad), (w.heap.size + 1, 0, .int .i64 bn), (w.heap.size + 1, 1, .int .i64 bd)] wx)
  case first =>
    go_region_held3 (fun w' => w'.cell? ⟨w.heap.size, 0, none⟩ = some (.int .i64 an) ∧ w'.cell? ⟨w.heap.size, 1, none⟩ = some (.int .i64 ad) ∧ w'.cell? ⟨w.heap.size + 1, 0, none⟩ = some (.int .i64 bn) ∧ w'.cell? ⟨w.heap.size + 1, 1, none⟩ = some (.int .i64 bd) ∧ W0.heap.size ≤ w'.heap.size ∧ Sx w W0 [(w.heap.size, 0, .int .i64 an), (w.heap.size, 1, .int .i64 ad), (w.heap.size + 1, 0, .int .i64 bn), (w.heap.size + 1, 1, .int .i64 bd)] w')
      (first
        | exact all4 K0.drew
        | (go_split_ands; first
            | exact all4 (Sx.call (by assumption) hb)
            | exact all4 (Sx.swap (by assumption) hq)
            | exact all4 (Sx.alloc (by assumption) _)
            | exact all4 (Sx.set2 (by assumption) (by omega))))
      (first | (go_at_call 25; refine (HT.out _ _ _).mono ?_; rintro e w1 ⟨rfl, hb⟩; obtain ⟨hc, hf⟩ := bcell hb; have hz := hb.size; (try simp at hz); (try simp at hc); (try simp at hf); (try have hz := Nat.lt_of_succ_le hz); have hq : W0.heap.size ≤ w1.heap.size := (by omega); (try have hq2 : W0.heap.size < w1.heap.size := (by omega))) | (go_at_call 16; refine (HS.out _).mono ?_; rintro e w1 ⟨rfl, hb⟩; obtain ⟨hc, hf⟩ := bcell hb; have hz := hb.size; (try simp at hz); (try simp at hc); (try simp at hf); (try have hz := Nat.lt_of_succ_le hz); have hq : W0.heap.size ≤ w1.heap.size := (by omega); (try have hq2 : W0.heap.size < w1.heap.size := (by omega))))
    all_goals
      go_wp2_with fail
      go_meet
      refine ⟨_, rfl, rfl, ?_, ?_, by assumption⟩
      · go_simp
      · go_simp
  case rest =>
    obtain ⟨b, rfl, rfl, x0, y0, k0, k1, k2, k3, k7, k4⟩ := hcut
    have K1 : Sx w wc [(b, 0, .int .i64 x), (b, 1, .int .i64 y), (w.heap.size, 0, .int .i64 an), (w.heap.size, 1, .int .i64 ad), (w.heap.size + 1, 0, .int .i64 bn), (w.heap.size + 1, 1, .int .i64 bd)] wc := Sx.of6 x0 y0 k0 k1 k2 k3 k4.2.2.1
    clear K0 x0 y0 k0 k1 k2 k3 k4 k7
    go_upto_region 2 with (fail)
    go_cut [7, 8] from 17 to 24 (fun s7 s8 wx => ∃ b2 : Nat, s7 = .pointer (some ⟨b2, 0, none⟩) ∧ s8 = .bool ok ∧ wx.cell? ⟨b2, 0, none⟩ = some (.int .i64 x) ∧ wx.cell? ⟨b2, 1, none⟩ = some (.int .i64 y) ∧ wx.cell? ⟨b, 0, none⟩ = some (.int .i64 x) ∧ wx.cell? ⟨b, 1, none⟩ = some (.int .i64 y) ∧ wx.cell? ⟨w.heap.size, 0, none⟩ = some (.int .i64 an) ∧ wx.cell? ⟨w.heap.size, 1, none⟩ = some (.int .i64 ad) ∧ wx.cell? ⟨w.heap.size + 1, 0, none⟩ = some (.int .i64 bn) ∧ wx.cell? ⟨w.heap.size + 1, 1, none⟩ = some (.int .i64 bd) ∧ wc.heap.size ≤ wx.heap.size ∧ Sx w wc [(b, 0, .int .i64 x), (b, 1, .int .i64 y), (w.heap.size, 0, .int .i64 an), (w.heap.size, 1, .int .i64 ad), (w.heap.size + 1, 0, .int .i64 bn), (w.heap.size + 1, 1, .int .i64 bd)] wx)
    case first =>
      go_region_held3 (fun w' => w'.cell? ⟨b, 0, none⟩ = some (.int .i64 x) ∧ w'.cell? ⟨b, 1, none⟩ = some (.int .i64 y) ∧ w'.cell? ⟨w.heap.size, 0, none⟩ = some (.int .i64 an) ∧ w'.cell? ⟨w.heap.size, 1, none⟩ = some (.int .i64 ad) ∧ w'.cell? ⟨w.heap.size + 1, 0, none⟩ = some (.int .i64 bn) ∧ w'.cell? ⟨w.heap.size + 1, 1, none⟩ = some (.int .i64 bd) ∧ wc.heap.size ≤ w'.heap.size ∧ Sx w wc [(b, 0, .int .i64 x), (b, 1, .int .i64 y), (w.heap.size, 0, .int .i64 an), (w.heap.size, 1, .int .i64 ad), (w.heap.size + 1, 0, .int .i64 bn), (w.heap.size + 1, 1, .int .i64 bd)] w')
        (first
          | exact all6 K1.drew
          | (go_split_ands; first
              | exact all6 (Sx.call (by assumption) hb)
              | exact all6 (Sx.swap (by assumption) hq)
              | exact all6 (Sx.alloc (by assumption) _)
              | exact all6 (Sx.set2 (by assumption) (by omega))))
        (first | (go_at_call 25; refine (HT.out _ _ _).mono ?_; rintro e w1 ⟨rfl, hb⟩; obtain ⟨hc, hf⟩ := bcell hb; have hz := hb.size; (try simp at hz); (try simp at hc); (try simp at hf); (try have hz := Nat.lt_of_succ_le hz); have hq : wc.heap.size ≤ w1.heap.size := (by omega); (try have hq2 : wc.heap.size < w1.heap.size := (by omega))) | (go_at_call 15; refine (HI.out _).mono ?_; rintro e w1 ⟨rfl, hb⟩; obtain ⟨hc, hf⟩ := bcell hb; have hz := hb.size; (try simp at hz); (try simp at hc); (try simp at hf); (try have hz := Nat.lt_of_succ_le hz); have hq : wc.heap.size ≤ w1.heap.size := (by omega); (try have hq2 : wc.heap.size < w1.heap.size := (by omega))))
      all_goals
        go_wp2_with fail
        go_meet
        refine ⟨_, rfl, rfl, ?_, ?_, by assumption⟩
        · go_simp
        · go_simp
    case rest =>
      obtain ⟨b2, rfl, rfl, x1, y1, x0, y0, k0, k1, k2, k3, _, k5⟩ := hcut
      have k6 := k5.2.2.1
      clear K1 k5
      go_wp2_with fail
      refine (eq_rat _ _ _).mono ?_
      rintro e w3 ⟨rfl, hb3⟩
      go_wp2
      go_ret
      exact ⟨rfl, k6.trans (hb3.mono k6.size)⟩
end Go.Proofs.Ytdlcfofangkehaa
