/-
  A law of rationals.
-/
import Derived.Test.YtdlcfofangkehaaHeld
import Derived.Test.YtdlcfofangkehaaRatDraws2
namespace Go.Proofs.Ytdlcfofangkehaa
open Go.RowKit
set_option linter.unusedSimpArgs false
set_option linter.unusedVariables false
attribute [local go_sem ↓] Go.wp_at_zero Go.wp_at_succ

theorem whole_any (n : Int) (w : World) : Calls Try.prog 17 #[.int .i64 n] w fun e w' => e = .returned (.agg #[.int .i64 n, .int .i64 1]) ∧ Below w.heap.size w w' := by
  go_enter Try.func17, Try.ntmps17
  go_wp2
  exact bodyPost_ret (v := .agg #[.int .i64 n, .int .i64 1]) (by simp [results, Try.results17, go_sem]) rfl ⟨rfl, (Below.refl _ _).alloc (Nat.le_refl _) _⟩

set_option maxHeartbeats 4000000 in
theorem walk_FnRatDivSelf (A : Option Addr) (n0 c0 : Nat) (w : World) (h : Code w.heap.size w A n0 c0) : Calls Try.prog 3 #[.slice A n0 c0] w (Holds w) := by
  have HO := Lib.hid (d_DrawRatDiv n0 c0 A w h)
  clear h
  go_enter Try.func3, Try.ntmps3
  go_wp2_with fail
  · go_ret
    exact ⟨rfl, Below.refl _ _⟩
  · refine HO.out.mono ?_
    rintro e w1 ⟨an, ad, bn, bd, ⟨an1, an2⟩, ⟨ad1, ad2⟩, ⟨bn1, bn2⟩, ⟨bd1, bd2⟩, rfl, hbl1⟩
    clear HO
    have HI : Hid (∀ W, Calls Try.prog 15 #[.agg #[.int .i64 an, .int .i64 ad], .agg #[.int .i64 bn, .int .i64 bd]] W (Res W (divR an ad bn bd))) := fun W => impl_div an ad bn bd W
    have HS : Hid (∀ W, Calls Try.prog 16 #[.agg #[.int .i64 an, .int .i64 ad], .agg #[.int .i64 bn, .int .i64 bd]] W (Res W (divR an ad bn bd))) := fun W => spec_div an ad bn bd W
    rcases ho : divR an ad bn bd with _ | ⟨x, y⟩
    · rw [ho] at HI HS
      clear ho
      go_wp2_with fail
      refine (HI.out _).mono ?_
      rintro e w2 ⟨rfl, hb2⟩
      obtain ⟨s2, k1, k2, k3, k4, hl2⟩ := box2 hb2
      have hbl2 := hbl1.trans (hl2.mono hbl1.size)
      have t5 : w1.heap.size < w2.heap.size := World.block_lt_of_cell? _ _ k1
      have t6 : w1.heap.size + 1 < w2.heap.size := World.block_lt_of_cell? _ _ k3
      clear hb2 hl2 hbl1
      go_wp2_with fail
      refine (HS.out _).mono ?_
      rintro e w3 ⟨rfl, hb3⟩
      have k7 := keep1 hb3 k1
      have k8 := keep1 hb3 k2
      have k9 := keep1 hb3 k3
      have k10 := keep1 hb3 k4
      obtain ⟨s3, k11, k12, hl3⟩ := new1 hb3
      have hbl3 := hbl2.trans (hl3.mono hbl2.size)
      have t13 : w1.heap.size < w3.heap.size := World.block_lt_of_cell? _ _ k7
      have t14 : w1.heap.size + 1 < w3.heap.size := World.block_lt_of_cell? _ _ k9
      have t15 : w2.heap.size < w3.heap.size := World.block_lt_of_cell? _ _ k11
      clear k1 k2 k3 k4 t5 t6 hb3 hl3 hbl2
      go_wp2
      go_ret
      first | exact ⟨rfl, hbl3⟩ | exact ⟨rfl, hbl3.alloc hbl3.size _⟩ | exact ⟨rfl, (hbl3.alloc hbl3.size _).alloc (by have := hbl3.size; simp; omega) _⟩
    · rw [ho] at HI HS
      have H1 : Hid (∀ W, Calls Try.prog 15 #[.agg #[.int .i64 bn, .int .i64 bd], .agg #[.int .i64 bn, .int .i64 bd]] W (Res W (some (1, 1)))) := fun W => by have := impl_div bn bd bn bd W; rw [div_self ho] at this; exact this
      have H2 : Hid (∀ W, Calls Try.prog 15 #[.agg #[.int .i64 an, .int .i64 ad], .agg #[.int .i64 0, .int .i64 1]] W (Res W (none))) := fun W => by have := impl_div an ad 0 1 W; rw [div_zero an ad 1] at this; exact this
      have HW := Lib.hid whole_any
      clear ho
      go_wp2_with fail
      refine (HI.out _).mono ?_
      rintro e w2 ⟨rfl, hb2⟩
      obtain ⟨s2, k1, k2, k3, k4, hl2⟩ := box2 hb2
      have hbl2 := hbl1.trans (hl2.mono hbl1.size)
      have t5 : w1.heap.size < w2.heap.size := World.block_lt_of_cell? _ _ k1
      have t6 : w1.heap.size + 1 < w2.heap.size := World.block_lt_of_cell? _ _ k3
      clear hb2 hl2 hbl1
      go_wp2_with fail
      refine (HS.out _).mono ?_
      rintro e w3 ⟨rfl, hb3⟩
      have k7 := keep1 hb3 k1
      have k8 := keep1 hb3 k2
      have k9 := keep1 hb3 k3
      have k10 := keep1 hb3 k4
      obtain ⟨s3, k11, k12, hl3⟩ := new1 hb3
      have hbl3 := hbl2.trans (hl3.mono hbl2.size)
      have t13 : w1.heap.size < w3.heap.size := World.block_lt_of_cell? _ _ k7
      have t14 : w1.heap.size + 1 < w3.heap.size := World.block_lt_of_cell? _ _ k9
      have t15 : w2.heap.size < w3.heap.size := World.block_lt_of_cell? _ _ k11
      clear k1 k2 k3 k4 t5 t6 hb3 hl3 hbl2
      go_wp2_with fail
      refine (H1.out _).mono ?_
      rintro e w4 ⟨rfl, hb4⟩
      have k16 := keep1 hb4 k7
      have k17 := keep1 hb4 k8
      have k18 := keep1 hb4 k9
      have k19 := keep1 hb4 k10
      have k20 := keep1 hb4 k11
      have k21 := keep1 hb4 k12
      obtain ⟨s4, k22, k23, hl4⟩ := new1 hb4
      have hbl4 := hbl3.trans (hl4.mono hbl3.size)
      have t24 : w1.heap.size < w4.heap.size := World.block_lt_of_cell? _ _ k16
      have t25 : w1.heap.size + 1 < w4.heap.size := World.block_lt_of_cell? _ _ k18
      have t26 : w2.heap.size < w4.heap.size := World.block_lt_of_cell? _ _ k20
      have t27 : w3.heap.size < w4.heap.size := World.block_lt_of_cell? _ _ k22
      clear k7 k8 k9 k10 k11 k12 t13 t14 t15 hb4 hl4 hbl3
      go_upto_region 9 with (fail)
      obtain ⟨W0, hW0⟩ : ∃ W0 : World, W0 = w4.alloc (.cells #[.int .i64 1, .int .i64 1] 24) := ⟨_, rfl⟩
      have K0 : Sx w W0 [(w1.heap.size, 0, .int .i64 an), (w1.heap.size, 1, .int .i64 ad), (w4.heap.size, 0, .int .i64 1), (w4.heap.size, 1, .int .i64 1)] W0 := by rw [hW0]; exact Sx.of4 (kalloc k16) (kalloc k17) (cell_new0 _ _ _ _) (cell_new1 _ _ _ _) (hbl4.alloc hbl4.size _)
      rw [← hW0]
      clear hW0 k16 k17 k18 k19 k20 k21 k22 k23 t24 t25 t26 t27 hbl4 HI HS H1
      go_cut [12] from 59 to 64 (fun s12 wx => s12 = .bool false ∧ wx.cell? ⟨w1.heap.size, 0, none⟩ = some (.int .i64 an) ∧ wx.cell? ⟨w1.heap.size, 1, none⟩ = some (.int .i64 ad) ∧ wx.cell? ⟨w4.heap.size, 0, none⟩ = some (.int .i64 1) ∧ wx.cell? ⟨w4.heap.size, 1, none⟩ = some (.int .i64 1) ∧ W0.heap.size ≤ wx.heap.size ∧ Sx w W0 [(w1.heap.size, 0, .int .i64 an), (w1.heap.size, 1, .int .i64 ad), (w4.heap.size, 0, .int .i64 1), (w4.heap.size, 1, .int .i64 1)] wx)
      case first =>
        go_region_held3 (fun w' => w'.cell? ⟨w1.heap.size, 0, none⟩ = some (.int .i64 an) ∧ w'.cell? ⟨w1.heap.size, 1, none⟩ = some (.int .i64 ad) ∧ w'.cell? ⟨w4.heap.size, 0, none⟩ = some (.int .i64 1) ∧ w'.cell? ⟨w4.heap.size, 1, none⟩ = some (.int .i64 1) ∧ W0.heap.size ≤ w'.heap.size ∧ Sx w W0 [(w1.heap.size, 0, .int .i64 an), (w1.heap.size, 1, .int .i64 ad), (w4.heap.size, 0, .int .i64 1), (w4.heap.size, 1, .int .i64 1)] w')
          (first
            | exact all4 K0.drew
            | (go_split_ands; first
                | exact all4 (Sx.call (by assumption) hb)
                | exact all4 (Sx.swap (by assumption) hq)
                | exact all4 (Sx.alloc (by assumption) _)
                | exact all4 (Sx.set2 (by assumption) (by omega))))
          (first | (go_at_call 17; refine (HW.out _ _).mono ?_; rintro e w1 ⟨rfl, hb⟩; obtain ⟨hc, hf⟩ := bcell hb; have hz := hb.size; (try simp at hz); (try simp at hc); (try simp at hf); (try have hz := Nat.lt_of_succ_le hz); have hq : W0.heap.size ≤ w1.heap.size := (by omega); (try have hq2 : W0.heap.size < w1.heap.size := (by omega))) | (go_at_call 15; refine (H2.out _).mono ?_; rintro e w1 ⟨rfl, hb⟩; obtain ⟨hc, hf⟩ := bcell hb; have hz := hb.size; (try simp at hz); (try simp at hc); (try simp at hf); (try have hz := Nat.lt_of_succ_le hz); have hq : W0.heap.size ≤ w1.heap.size := (by omega); (try have hq2 : W0.heap.size < w1.heap.size := (by omega))))
        all_goals
          go_wp2_with fail
          go_meet
          exact ⟨rfl, by assumption⟩
      case rest =>
        obtain ⟨rfl, _, _, q2, q3, _, q6⟩ := hcut
        have K1 : Sx w wc [(w4.heap.size, 0, .int .i64 1), (w4.heap.size, 1, .int .i64 1)] wc := Sx.of2 q2 q3 q6.2.2.1
        clear K0 q2 q3 q6 H2
        go_upto_region 10 with (fail)
        go_region_held3 (fun w' => w'.cell? ⟨w4.heap.size, 0, none⟩ = some (.int .i64 1) ∧ w'.cell? ⟨w4.heap.size, 1, none⟩ = some (.int .i64 1) ∧ wc.heap.size ≤ w'.heap.size ∧ Sx w wc [(w4.heap.size, 0, .int .i64 1), (w4.heap.size, 1, .int .i64 1)] w')
          (first
            | exact all2 K1.drew
            | (go_split_ands; first
                | exact all2 (Sx.call (by assumption) hb)
                | exact all2 (Sx.swap (by assumption) hq)
                | exact all2 (Sx.alloc (by assumption) _)
                | exact all2 (Sx.set2 (by assumption) (by omega))))
          (first | (go_at_call 17; refine (HW.out _ _).mono ?_; rintro e w1 ⟨rfl, hb⟩; obtain ⟨hc, hf⟩ := bcell hb; have hz := hb.size; (try simp at hz); (try simp at hc); (try simp at hf); (try have hz := Nat.lt_of_succ_le hz); have hq : wc.heap.size ≤ w1.heap.size := (by omega); (try have hq2 : wc.heap.size < w1.heap.size := (by omega))))
        all_goals
          have K2 : Sx w wc [(w4.heap.size, 0, .int .i64 1), (w4.heap.size, 1, .int .i64 1)] _ := (by assumption : _ ∧ _ ∧ _ ∧ _).2.2.2
          go_wp2
          go_ret
          exact ⟨rfl, K2.2.2.1⟩

end Go.Proofs.Ytdlcfofangkehaa
