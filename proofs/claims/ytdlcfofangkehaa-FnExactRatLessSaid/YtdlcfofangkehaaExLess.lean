/-
  The exact laws: sums, differences, products, quotients and the order of rationals.
-/
import Derived.Test.YtdlcfofangkehaaHeld
import Derived.Deep.RegionHeld3
import Derived.Deep.DrawnRows
import Derived.Deep.CutRange
namespace Go.Proofs.Ytdlcfofangkehaa
open Go.RowKit
set_option linter.unusedSimpArgs false
set_option linter.unusedVariables false
attribute [local go_sem ↓] Go.wp_at_zero Go.wp_at_succ


set_option maxHeartbeats 4000000 in
theorem walk_FnExactRatLess (an ad bn bd : Int) (w : World) (_h0 : (Lit.int .i64 an).wf = true) (_h1 : (Lit.int .i64 ad).wf = true) (_h2 : (Lit.int .i64 bn).wf = true) (_h3 : (Lit.int .i64 bd).wf = true) :
    Calls Try.prog 6 #[.agg #[.int .i64 an, .int .i64 ad], .agg #[.int .i64 bn, .int .i64 bd]] w (Holds w) := by
  have HS : Hid (∀ W, Calls Try.prog 24 #[.agg #[.int .i64 an, .int .i64 ad], .agg #[.int .i64 bn, .int .i64 bd]] W (Said W (lessB an ad bn bd))) := fun W => spec_less an ad bn bd W
  have HI : Hid (∀ W, Calls Try.prog 26 #[.agg #[.int .i64 an, .int .i64 ad], .agg #[.int .i64 bn, .int .i64 bd]] W (Said W (lessB an ad bn bd))) := fun W => impl_less an ad bn bd W
  have HT := Lib.hid to_rat
  generalize lessB an ad bn bd = ok at *
  have hok : (ok != ok) = false := by cases ok <;> rfl
  clear _h0 _h1 _h2 _h3
  obtain ⟨W0, hW, K0⟩ := start4 w an ad bn bd 32
  have HW := Lib.hid hW
  clear hW
  go_enter Try.func6, Try.ntmps6
  go_upto_region 1 with (fail)
  rw [HW.out]
  clear HW
  go_cut [5] from 7 to 11 (fun s5 wx => s5 = .bool ok ∧ wx.cell? ⟨w.heap.size, 0, none⟩ = some (.int .i64 an) ∧ wx.cell? ⟨w.heap.size, 1, none⟩ = some (.int .i64 ad) ∧ wx.cell? ⟨w.heap.size + 1, 0, none⟩ = some (.int .i64 bn) ∧ wx.cell? ⟨w.heap.size + 1, 1, none⟩ = some (.int .i64 bd) ∧ W0.heap.size ≤ wx.heap.size ∧ Sx w W0 [(w.heap.size, 0, .int .i64 an), (w.heap.size, 1, .int .i64 ad), (w.heap.size + 1, 0, .int .i64 bn), (w.heap.size + 1, 1, .int .i64 bd)] wx)
  case first =>
    go_region_held3 (fun w' => w'.cell? ⟨w.heap.size, 0, none⟩ = some (.int .i64 an) ∧ w'.cell? ⟨w.heap.size, 1, none⟩ = some (.int .i64 ad) ∧ w'.cell? ⟨w.heap.size + 1, 0, none⟩ = some (.int .i64 bn) ∧ w'.cell? ⟨w.heap.size + 1, 1, none⟩ = some (.int .i64 bd) ∧ W0.heap.size ≤ w'.heap.size ∧ Sx w W0 [(w.heap.size, 0, .int .i64 an), (w.heap.size, 1, .int .i64 ad), (w.heap.size + 1, 0, .int .i64 bn), (w.heap.size + 1, 1, .int .i64 bd)] w')
      (first
        | exact all4 K0.drew
        | (go_split_ands; first
            | exact all4 (Sx.call (by assumption) hb)
            | exact all4 (Sx.swap (by assumption) hq)
            | exact all4 (Sx.alloc (by assumption) _)
            | exact all4 (Sx.set2 (by assumption) (by omega))))
      (first | (go_at_call 25; refine (HT.out _ _ _).mono ?_; rintro e wQ ⟨rfl, hb⟩; obtain ⟨hc, hf⟩ := bcell hb; have hz := hb.size; (try simp at hz); (try simp at hc); (try simp at hf); (try have hz := Nat.lt_of_succ_le hz); have hq : W0.heap.size ≤ wQ.heap.size := (by omega); (try have hq2 : W0.heap.size < wQ.heap.size := (by omega))) | (go_at_call 24; refine (HS.out _).mono ?_; rintro e wQ ⟨rfl, hb⟩; obtain ⟨hc, hf⟩ := bcell hb; have hz := hb.size; (try simp at hz); (try simp at hc); (try simp at hf); (try have hz := Nat.lt_of_succ_le hz); have hq : W0.heap.size ≤ wQ.heap.size := (by omega); (try have hq2 : W0.heap.size < wQ.heap.size := (by omega))))
    all_goals
      go_wp2_with fail
      go_meet
      exact ⟨rfl, by assumption⟩
  case rest =>
    obtain ⟨rfl, k0, k1, k2, k3, k7, k4⟩ := hcut
    have K1 : Sx w wc [(w.heap.size, 0, .int .i64 an), (w.heap.size, 1, .int .i64 ad), (w.heap.size + 1, 0, .int .i64 bn), (w.heap.size + 1, 1, .int .i64 bd)] wc := Sx.of4 k0 k1 k2 k3 k4.2.2.1
    clear K0 k0 k1 k2 k3 k4 k7
    go_upto_region 2 with (fail)
    go_region_held3 (fun w' => w'.cell? ⟨w.heap.size, 0, none⟩ = some (.int .i64 an) ∧ w'.cell? ⟨w.heap.size, 1, none⟩ = some (.int .i64 ad) ∧ w'.cell? ⟨w.heap.size + 1, 0, none⟩ = some (.int .i64 bn) ∧ w'.cell? ⟨w.heap.size + 1, 1, none⟩ = some (.int .i64 bd) ∧ wc.heap.size ≤ w'.heap.size ∧ Sx w wc [(w.heap.size, 0, .int .i64 an), (w.heap.size, 1, .int .i64 ad), (w.heap.size + 1, 0, .int .i64 bn), (w.heap.size + 1, 1, .int .i64 bd)] w')
      (first
        | exact all4 K1.drew
        | (go_split_ands; first
            | exact all4 (Sx.call (by assumption) hb)
            | exact all4 (Sx.swap (by assumption) hq)
            | exact all4 (Sx.alloc (by assumption) _)
            | exact all4 (Sx.set2 (by assumption) (by omega))))
      (first | (go_at_call 25; refine (HT.out _ _ _).mono ?_; rintro e wQ ⟨rfl, hb⟩; obtain ⟨hc, hf⟩ := bcell hb; have hz := hb.size; (try simp at hz); (try simp at hc); (try simp at hf); (try have hz := Nat.lt_of_succ_le hz); have hq : wc.heap.size ≤ wQ.heap.size := (by omega); (try have hq2 : wc.heap.size < wQ.heap.size := (by omega))) | (go_at_call 26; refine (HI.out _).mono ?_; rintro e wQ ⟨rfl, hb⟩; obtain ⟨hc, hf⟩ := bcell hb; have hz := hb.size; (try simp at hz); (try simp at hc); (try simp at hf); (try have hz := Nat.lt_of_succ_le hz); have hq : wc.heap.size ≤ wQ.heap.size := (by omega); (try have hq2 : wc.heap.size < wQ.heap.size := (by omega))))
    all_goals
      have K2 : Sx w wc [(w.heap.size, 0, .int .i64 an), (w.heap.size, 1, .int .i64 ad), (w.heap.size + 1, 0, .int .i64 bn), (w.heap.size + 1, 1, .int .i64 bd)] _ := (by assumption : _ ∧ _ ∧ _ ∧ _ ∧ _ ∧ _).2.2.2.2.2
      go_wp2
      go_ret
      exact ⟨rfl, K2.2.2.1⟩
end Go.Proofs.Ytdlcfofangkehaa
