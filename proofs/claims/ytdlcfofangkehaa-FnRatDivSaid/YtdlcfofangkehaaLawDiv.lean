/-
  A law of rationals.
-/
import Derived.Test.YtdlcfofangkehaaHeld
import Derived.Test.YtdlcfofangkehaaRatDraws2
namespace Go.Proofs.Ytdlcfofangkehaa
open Go.RowKit
set_option linter.unusedSimpArgs false
set_option linter.unusedVariables false
attribute [local go_sem ↓] Go.wp_at_zero Go.wp_at_succ

theorem whole_any (n : Int) (w : World) : Calls Try.prog 17 #[.int .i64 n] w fun e w' => e = .returned (.agg #[.int .i64 n, .int .i64 1]) ∧ Below w.heap.size w w' := by
  go_enter Try.func17, Try.ntmps17
  go_wp2
  exact bodyPost_ret (v := .agg #[.int .i64 n, .int .i64 1]) (by simp [results, Try.results17, go_sem]) rfl ⟨rfl, (Below.refl _ _).alloc (Nat.le_refl _) _⟩

set_option maxHeartbeats 8000000 in
theorem walk_FnRatDiv (A : Option Addr) (n0 c0 : Nat) (w : World) (h : Code w.heap.size w A n0 c0) : Calls Try.prog 4 #[.slice A n0 c0] w (Holds w) := by
  have HO := Lib.hid (d_DrawRatDiv n0 c0 A w h)
  clear h
  go_enter Try.func4, Try.ntmps4
  go_wp2_with fail
  · go_ret
    exact ⟨rfl, Below.refl _ _⟩
  · refine HO.out.mono ?_
    rintro e w1 ⟨an, ad, bn, bd, ⟨an1, an2⟩, ⟨ad1, ad2⟩, ⟨bn1, bn2⟩, ⟨bd1, bd2⟩, rfl, hbl1⟩
    clear HO
    have HI : Hid (∀ W, Calls Try.prog 15 #[.agg #[.int .i64 an, .int .i64 ad], .agg #[.int .i64 bn, .int .i64 bd]] W (Res W (divR an ad bn bd))) := fun W => impl_div an ad bn bd W
    have HS : Hid (∀ W, Calls Try.prog 16 #[.agg #[.int .i64 an, .int .i64 ad], .agg #[.int .i64 bn, .int .i64 bd]] W (Res W (divR an ad bn bd))) := fun W => spec_div an ad bn bd W
    rcases ho : divR an ad bn bd with _ | ⟨x, y⟩
    · rw [ho] at HI HS
      clear ho
      go_wp2_with fail
      refine (HI.out _).mono ?_
      rintro e w2 ⟨rfl, hb2⟩
      obtain ⟨s2, k1, k2, k3, k4, hl2⟩ := box2 hb2
      have hbl2 := hbl1.trans (hl2.mono hbl1.size)
      have t5 : w1.heap.size < w2.heap.size := World.block_lt_of_cell? _ _ k1
      have t6 : w1.heap.size + 1 < w2.heap.size := World.block_lt_of_cell? _ _ k3
      clear hb2 hl2 hbl1
      go_wp2_with fail
      refine (HS.out _).mono ?_
      rintro e w3 ⟨rfl, hb3⟩
      have k7 := keep1 hb3 k1
      have k8 := keep1 hb3 k2
      have k9 := keep1 hb3 k3
      have k10 := keep1 hb3 k4
      obtain ⟨s3, k11, k12, hl3⟩ := new1 hb3
      have hbl3 := hbl2.trans (hl3.mono hbl2.size)
      have t13 : w1.heap.size < w3.heap.size := World.block_lt_of_cell? _ _ k7
      have t14 : w1.heap.size + 1 < w3.heap.size := World.block_lt_of_cell? _ _ k9
      have t15 : w2.heap.size < w3.heap.size := World.block_lt_of_cell? _ _ k11
      clear k1 k2 k3 k4 t5 t6 hb3 hl3 hbl2
      go_wp2
      go_ret
      first | exact ⟨rfl, hbl3⟩ | exact ⟨rfl, hbl3.alloc hbl3.size _⟩ | exact ⟨rfl, (hbl3.alloc hbl3.size _).alloc (by have := hbl3.size; simp; omega) _⟩
    · rw [ho] at HI HS
      have HZ := Lib.hid (div_one ho)
      have H1 : Hid (∀ W, Calls Try.prog 18 #[.agg #[.int .i64 x, .int .i64 y], .agg #[.int .i64 bn, .int .i64 bd]] W (Res W (some (an, ad)))) := fun W => by have := impl_mul x y bn bd W; rw [div_mul ho] at this; exact this
      have HW := Lib.hid whole_any
      clear ho
      go_wp2_with fail
      refine (HI.out _).mono ?_
      rintro e w2 ⟨rfl, hb2⟩
      obtain ⟨s2, k1, k2, k3, k4, hl2⟩ := box2 hb2
      have hbl2 := hbl1.trans (hl2.mono hbl1.size)
      have t5 : w1.heap.size < w2.heap.size := World.block_lt_of_cell? _ _ k1
      have t6 : w1.heap.size + 1 < w2.heap.size := World.block_lt_of_cell? _ _ k3
      clear hb2 hl2 hbl1
      go_wp2_with fail
      refine (HS.out _).mono ?_
      rintro e w3 ⟨rfl, hb3⟩
      have k7 := keep1 hb3 k1
      have k8 := keep1 hb3 k2
      have k9 := keep1 hb3 k3
      have k10 := keep1 hb3 k4
      obtain ⟨s3, k11, k12, hl3⟩ := new1 hb3
      have hbl3 := hbl2.trans (hl3.mono hbl2.size)
      have t13 : w1.heap.size < w3.heap.size := World.block_lt_of_cell? _ _ k7
      have t14 : w1.heap.size + 1 < w3.heap.size := World.block_lt_of_cell? _ _ k9
      have t15 : w2.heap.size < w3.heap.size := World.block_lt_of_cell? _ _ k11
      clear k1 k2 k3 k4 t5 t6 hb3 hl3 hbl2
      go_wp2_with fail
      refine (H1.out _).mono ?_
      rintro e w4 ⟨rfl, hb4⟩
      have k16 := keep1 hb4 k7
      have k17 := keep1 hb4 k8
      have k18 := keep1 hb4 k9
      have k19 := keep1 hb4 k10
      have k20 := keep1 hb4 k11
      have k21 := keep1 hb4 k12
      obtain ⟨s4, k22, k23, hl4⟩ := new1 hb4
      have hbl4 := hbl3.trans (hl4.mono hbl3.size)
      have t24 : w1.heap.size < w4.heap.size := World.block_lt_of_cell? _ _ k16
      have t25 : w1.heap.size + 1 < w4.heap.size := World.block_lt_of_cell? _ _ k18
      have t26 : w2.heap.size < w4.heap.size := World.block_lt_of_cell? _ _ k20
      have t27 : w3.heap.size < w4.heap.size := World.block_lt_of_cell? _ _ k22
      clear k7 k8 k9 k10 k11 k12 t13 t14 t15 hb4 hl4 hbl3
      go_upto_region 9 with (fail)
      obtain ⟨W0, hW0⟩ : ∃ W0 : World, W0 = w4.alloc (.cells #[.int .i64 an, .int .i64 ad] 24) := ⟨_, rfl⟩
      have K0 : Sx w W0 [(w1.heap.size, 0, .int .i64 an), (w1.heap.size, 1, .int .i64 ad), (w1.heap.size + 1, 0, .int .i64 bn), (w1.heap.size + 1, 1, .int .i64 bd), (w2.heap.size, 0, .int .i64 x), (w2.heap.size, 1, .int .i64 y), (w4.heap.size, 0, .int .i64 an), (w4.heap.size, 1, .int .i64 ad)] W0 := by rw [hW0]; exact Sx.of8 (kalloc k16) (kalloc k17) (kalloc k18) (kalloc k19) (kalloc k20) (kalloc k21) (cell_new0 _ _ _ _) (cell_new1 _ _ _ _) (hbl4.alloc hbl4.size _)
      rw [← hW0]
      clear hW0 k16 k17 k18 k19 k20 k21 k22 k23 t24 t25 t26 t27 hbl4 HI HS H1
      by_cases hx : x = 1 ∧ y = 1
      · obtain ⟨rfl, rfl⟩ := HZ.out.1 hx
        obtain ⟨rfl, rfl⟩ := hx
        clear HZ
        go_region_held3 (fun w' => w'.cell? ⟨w1.heap.size, 0, none⟩ = some (.int .i64 an) ∧ w'.cell? ⟨w1.heap.size, 1, none⟩ = some (.int .i64 ad) ∧ w'.cell? ⟨w1.heap.size + 1, 0, none⟩ = some (.int .i64 an) ∧ w'.cell? ⟨w1.heap.size + 1, 1, none⟩ = some (.int .i64 ad) ∧ w'.cell? ⟨w2.heap.size, 0, none⟩ = some (.int .i64 1) ∧ w'.cell? ⟨w2.heap.size, 1, none⟩ = some (.int .i64 1) ∧ w'.cell? ⟨w4.heap.size, 0, none⟩ = some (.int .i64 an) ∧ w'.cell? ⟨w4.heap.size, 1, none⟩ = some (.int .i64 ad) ∧ W0.heap.size ≤ w'.heap.size ∧ Sx w W0 [(w1.heap.size, 0, .int .i64 an), (w1.heap.size, 1, .int .i64 ad), (w1.heap.size + 1, 0, .int .i64 an), (w1.heap.size + 1, 1, .int .i64 ad), (w2.heap.size, 0, .int .i64 1), (w2.heap.size, 1, .int .i64 1), (w4.heap.size, 0, .int .i64 an), (w4.heap.size, 1, .int .i64 ad)] w')
          (first
            | exact all8 K0.drew
            | (go_split_ands; first
                | exact all8 (Sx.call (by assumption) hb)
                | exact all8 (Sx.swap (by assumption) hq)
                | exact all8 (Sx.alloc (by assumption) _)
                | exact all8 (Sx.set2 (by assumption) (by omega))))
          (first | (go_at_call 17; refine (HW.out _ _).mono ?_; rintro e wQ ⟨rfl, hb⟩; obtain ⟨hc, hf⟩ := bcell hb; have hz := hb.size; (try simp at hz); (try simp at hc); (try simp at hf); (try have hz := Nat.lt_of_succ_le hz); have hq : W0.heap.size ≤ wQ.heap.size := (by omega); (try have hq2 : W0.heap.size < wQ.heap.size := (by omega))))
        all_goals
          have K2 : Sx w W0 [(w1.heap.size, 0, .int .i64 an), (w1.heap.size, 1, .int .i64 ad), (w1.heap.size + 1, 0, .int .i64 an), (w1.heap.size + 1, 1, .int .i64 ad), (w2.heap.size, 0, .int .i64 1), (w2.heap.size, 1, .int .i64 1), (w4.heap.size, 0, .int .i64 an), (w4.heap.size, 1, .int .i64 ad)] _ := (by assumption : _ ∧ _ ∧ _ ∧ _ ∧ _ ∧ _ ∧ _ ∧ _ ∧ _ ∧ _).2.2.2.2.2.2.2.2.2
          go_wp2
          go_ret
          exact ⟨rfl, K2.2.2.1⟩
      · have hn : ¬ (an = bn ∧ ad = bd) := fun h => hx (HZ.out.2 h)
        clear HZ
        rcases (by omega : x ≠ 1 ∨ (x = 1 ∧ y ≠ 1)) with e0 | ⟨rfl, e0⟩ <;> rcases (by omega : an ≠ bn ∨ (an = bn ∧ ad ≠ bd)) with f0 | ⟨rfl, f0⟩
        · clear hx hn
          have e : (x == 1) = false := by simpa using e0
          have e' : decide (x = 1) = false := by simpa using e0
          clear e0
          have f : (an == bn) = false := by simpa using f0
          have f' : decide (an = bn) = false := by simpa using f0
          clear f0
          go_region_held3 (fun w' => w'.cell? ⟨w1.heap.size, 0, none⟩ = some (.int .i64 an) ∧ w'.cell? ⟨w1.heap.size, 1, none⟩ = some (.int .i64 ad) ∧ w'.cell? ⟨w1.heap.size + 1, 0, none⟩ = some (.int .i64 bn) ∧ w'.cell? ⟨w1.heap.size + 1, 1, none⟩ = some (.int .i64 bd) ∧ w'.cell? ⟨w2.heap.size, 0, none⟩ = some (.int .i64 x) ∧ w'.cell? ⟨w2.heap.size, 1, none⟩ = some (.int .i64 y) ∧ w'.cell? ⟨w4.heap.size, 0, none⟩ = some (.int .i64 an) ∧ w'.cell? ⟨w4.heap.size, 1, none⟩ = some (.int .i64 ad) ∧ W0.heap.size ≤ w'.heap.size ∧ Sx w W0 [(w1.heap.size, 0, .int .i64 an), (w1.heap.size, 1, .int .i64 ad), (w1.heap.size + 1, 0, .int .i64 bn), (w1.heap.size + 1, 1, .int .i64 bd), (w2.heap.size, 0, .int .i64 x), (w2.heap.size, 1, .int .i64 y), (w4.heap.size, 0, .int .i64 an), (w4.heap.size, 1, .int .i64 ad)] w')
            (first
              | exact all8 K0.drew
              | (go_split_ands; first
                  | exact all8 (Sx.call (by assumption) hb)
                  | exact all8 (Sx.swap (by assumption) hq)
                  | exact all8 (Sx.alloc (by assumption) _)
                  | exact all8 (Sx.set2 (by assumption) (by omega))))
            (first | (go_at_call 17; refine (HW.out _ _).mono ?_; rintro e wQ ⟨rfl, hb⟩; obtain ⟨hc, hf⟩ := bcell hb; have hz := hb.size; (try simp at hz); (try simp at hc); (try simp at hf); (try have hz := Nat.lt_of_succ_le hz); have hq : W0.heap.size ≤ wQ.heap.size := (by omega); (try have hq2 : W0.heap.size < wQ.heap.size := (by omega))))
          all_goals
            have K2 : Sx w W0 [(w1.heap.size, 0, .int .i64 an), (w1.heap.size, 1, .int .i64 ad), (w1.heap.size + 1, 0, .int .i64 bn), (w1.heap.size + 1, 1, .int .i64 bd), (w2.heap.size, 0, .int .i64 x), (w2.heap.size, 1, .int .i64 y), (w4.heap.size, 0, .int .i64 an), (w4.heap.size, 1, .int .i64 ad)] _ := (by assumption : _ ∧ _ ∧ _ ∧ _ ∧ _ ∧ _ ∧ _ ∧ _ ∧ _ ∧ _).2.2.2.2.2.2.2.2.2
            go_wp2
            go_ret
            exact ⟨rfl, K2.2.2.1⟩
        · clear hx hn
          have e : (x == 1) = false := by simpa using e0
          have e' : decide (x = 1) = false := by simpa using e0
          clear e0
          have f : (ad == bd) = false := by simpa using f0
          have f' : decide (ad = bd) = false := by simpa using f0
          clear f0
          go_region_held3 (fun w' => w'.cell? ⟨w1.heap.size, 0, none⟩ = some (.int .i64 an) ∧ w'.cell? ⟨w1.heap.size, 1, none⟩ = some (.int .i64 ad) ∧ w'.cell? ⟨w1.heap.size + 1, 0, none⟩ = some (.int .i64 an) ∧ w'.cell? ⟨w1.heap.size + 1, 1, none⟩ = some (.int .i64 bd) ∧ w'.cell? ⟨w2.heap.size, 0, none⟩ = some (.int .i64 x) ∧ w'.cell? ⟨w2.heap.size, 1, none⟩ = some (.int .i64 y) ∧ w'.cell? ⟨w4.heap.size, 0, none⟩ = some (.int .i64 an) ∧ w'.cell? ⟨w4.heap.size, 1, none⟩ = some (.int .i64 ad) ∧ W0.heap.size ≤ w'.heap.size ∧ Sx w W0 [(w1.heap.size, 0, .int .i64 an), (w1.heap.size, 1, .int .i64 ad), (w1.heap.size + 1, 0, .int .i64 an), (w1.heap.size + 1, 1, .int .i64 bd), (w2.heap.size, 0, .int .i64 x), (w2.heap.size, 1, .int .i64 y), (w4.heap.size, 0, .int .i64 an), (w4.heap.size, 1, .int .i64 ad)] w')
            (first
              | exact all8 K0.drew
              | (go_split_ands; first
                  | exact all8 (Sx.call (by assumption) hb)
                  | exact all8 (Sx.swap (by assumption) hq)
                  | exact all8 (Sx.alloc (by assumption) _)
                  | exact all8 (Sx.set2 (by assumption) (by omega))))
            (first | (go_at_call 17; refine (HW.out _ _).mono ?_; rintro e wQ ⟨rfl, hb⟩; obtain ⟨hc, hf⟩ := bcell hb; have hz := hb.size; (try simp at hz); (try simp at hc); (try simp at hf); (try have hz := Nat.lt_of_succ_le hz); have hq : W0.heap.size ≤ wQ.heap.size := (by omega); (try have hq2 : W0.heap.size < wQ.heap.size := (by omega))))
          all_goals
            have K2 : Sx w W0 [(w1.heap.size, 0, .int .i64 an), (w1.heap.size, 1, .int .i64 ad), (w1.heap.size + 1, 0, .int .i64 an), (w1.heap.size + 1, 1, .int .i64 bd), (w2.heap.size, 0, .int .i64 x), (w2.heap.size, 1, .int .i64 y), (w4.heap.size, 0, .int .i64 an), (w4.heap.size, 1, .int .i64 ad)] _ := (by assumption : _ ∧ _ ∧ _ ∧ _ ∧ _ ∧ _ ∧ _ ∧ _ ∧ _ ∧ _).2.2.2.2.2.2.2.2.2
            go_wp2
            go_ret
            exact ⟨rfl, K2.2.2.1⟩
        · clear hx hn
          have e : (y == 1) = false := by simpa using e0
          have e' : decide (y = 1) = false := by simpa using e0
          clear e0
          have f : (an == bn) = false := by simpa using f0
          have f' : decide (an = bn) = false := by simpa using f0
          clear f0
          go_region_held3 (fun w' => w'.cell? ⟨w1.heap.size, 0, none⟩ = some (.int .i64 an) ∧ w'.cell? ⟨w1.heap.size, 1, none⟩ = some (.int .i64 ad) ∧ w'.cell? ⟨w1.heap.size + 1, 0, none⟩ = some (.int .i64 bn) ∧ w'.cell? ⟨w1.heap.size + 1, 1, none⟩ = some (.int .i64 bd) ∧ w'.cell? ⟨w2.heap.size, 0, none⟩ = some (.int .i64 1) ∧ w'.cell? ⟨w2.heap.size, 1, none⟩ = some (.int .i64 y) ∧ w'.cell? ⟨w4.heap.size, 0, none⟩ = some (.int .i64 an) ∧ w'.cell? ⟨w4.heap.size, 1, none⟩ = some (.int .i64 ad) ∧ W0.heap.size ≤ w'.heap.size ∧ Sx w W0 [(w1.heap.size, 0, .int .i64 an), (w1.heap.size, 1, .int .i64 ad), (w1.heap.size + 1, 0, .int .i64 bn), (w1.heap.size + 1, 1, .int .i64 bd), (w2.heap.size, 0, .int .i64 1), (w2.heap.size, 1, .int .i64 y), (w4.heap.size, 0, .int .i64 an), (w4.heap.size, 1, .int .i64 ad)] w')
            (first
              | exact all8 K0.drew
              | (go_split_ands; first
                  | exact all8 (Sx.call (by assumption) hb)
                  | exact all8 (Sx.swap (by assumption) hq)
                  | exact all8 (Sx.alloc (by assumption) _)
                  | exact all8 (Sx.set2 (by assumption) (by omega))))
            (first | (go_at_call 17; refine (HW.out _ _).mono ?_; rintro e wQ ⟨rfl, hb⟩; obtain ⟨hc, hf⟩ := bcell hb; have hz := hb.size; (try simp at hz); (try simp at hc); (try simp at hf); (try have hz := Nat.lt_of_succ_le hz); have hq : W0.heap.size ≤ wQ.heap.size := (by omega); (try have hq2 : W0.heap.size < wQ.heap.size := (by omega))))
          all_goals
            have K2 : Sx w W0 [(w1.heap.size, 0, .int .i64 an), (w1.heap.size, 1, .int .i64 ad), (w1.heap.size + 1, 0, .int .i64 bn), (w1.heap.size + 1, 1, .int .i64 bd), (w2.heap.size, 0, .int .i64 1), (w2.heap.size, 1, .int .i64 y), (w4.heap.size, 0, .int .i64 an), (w4.heap.size, 1, .int .i64 ad)] _ := (by assumption : _ ∧ _ ∧ _ ∧ _ ∧ _ ∧ _ ∧ _ ∧ _ ∧ _ ∧ _).2.2.2.2.2.2.2.2.2
            go_wp2
            go_ret
            exact ⟨rfl, K2.2.2.1⟩
        · clear hx hn
          have e : (y == 1) = false := by simpa using e0
          have e' : decide (y = 1) = false := by simpa using e0
          clear e0
          have f : (ad == bd) = false := by simpa using f0
          have f' : decide (ad = bd) = false := by simpa using f0
          clear f0
          go_region_held3 (fun w' => w'.cell? ⟨w1.heap.size, 0, none⟩ = some (.int .i64 an) ∧ w'.cell? ⟨w1.heap.size, 1, none⟩ = some (.int .i64 ad) ∧ w'.cell? ⟨w1.heap.size + 1, 0, none⟩ = some (.int .i64 an) ∧ w'.cell? ⟨w1.heap.size + 1, 1, none⟩ = some (.int .i64 bd) ∧ w'.cell? ⟨w2.heap.size, 0, none⟩ = some (.int .i64 1) ∧ w'.cell? ⟨w2.heap.size, 1, none⟩ = some (.int .i64 y) ∧ w'.cell? ⟨w4.heap.size, 0, none⟩ = some (.int .i64 an) ∧ w'.cell? ⟨w4.heap.size, 1, none⟩ = some (.int .i64 ad) ∧ W0.heap.size ≤ w'.heap.size ∧ Sx w W0 [(w1.heap.size, 0, .int .i64 an), (w1.heap.size, 1, .int .i64 ad), (w1.heap.size + 1, 0, .int .i64 an), (w1.heap.size + 1, 1, .int .i64 bd), (w2.heap.size, 0, .int .i64 1), (w2.heap.size, 1, .int .i64 y), (w4.heap.size, 0, .int .i64 an), (w4.heap.size, 1, .int .i64 ad)] w')
            (first
              | exact all8 K0.drew
              | (go_split_ands; first
                  | exact all8 (Sx.call (by assumption) hb)
                  | exact all8 (Sx.swap (by assumption) hq)
                  | exact all8 (Sx.alloc (by assumption) _)
                  | exact all8 (Sx.set2 (by assumption) (by omega))))
            (first | (go_at_call 17; refine (HW.out _ _).mono ?_; rintro e wQ ⟨rfl, hb⟩; obtain ⟨hc, hf⟩ := bcell hb; have hz := hb.size; (try simp at hz); (try simp at hc); (try simp at hf); (try have hz := Nat.lt_of_succ_le hz); have hq : W0.heap.size ≤ wQ.heap.size := (by omega); (try have hq2 : W0.heap.size < wQ.heap.size := (by omega))))
          all_goals
            have K2 : Sx w W0 [(w1.heap.size, 0, .int .i64 an), (w1.heap.size, 1, .int .i64 ad), (w1.heap.size + 1, 0, .int .i64 an), (w1.heap.size + 1, 1, .int .i64 bd), (w2.heap.size, 0, .int .i64 1), (w2.heap.size, 1, .int .i64 y), (w4.heap.size, 0, .int .i64 an), (w4.heap.size, 1, .int .i64 ad)] _ := (by assumption : _ ∧ _ ∧ _ ∧ _ ∧ _ ∧ _ ∧ _ ∧ _ ∧ _ ∧ _).2.2.2.2.2.2.2.2.2
            go_wp2
            go_ret
            exact ⟨rfl, K2.2.2.1⟩

end Go.Proofs.Ytdlcfofangkehaa
