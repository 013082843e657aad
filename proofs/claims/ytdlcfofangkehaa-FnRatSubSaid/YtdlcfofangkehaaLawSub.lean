/-
  A law of rationals.
-/
import Derived.Test.YtdlcfofangkehaaHeld
import Derived.Test.YtdlcfofangkehaaRatDraws2
namespace Go.Proofs.Ytdlcfofangkehaa
open Go.RowKit
set_option linter.unusedSimpArgs false
set_option linter.unusedVariables false
attribute [local go_sem ↓] Go.wp_at_zero Go.wp_at_succ

theorem minus_any (n d : Int) (w : World) (h : -4000000000000000000 ≤ n ∧ n ≤ 4000000000000000000) : Calls Try.prog 23 #[.agg #[.int .i64 n, .int .i64 d]] w fun e w' => e = .returned (.agg #[.int .i64 (-n), .int .i64 d]) ∧ Below w.heap.size w w' := by
  obtain ⟨h1, h2⟩ := h
  go_enter Try.func23, Try.ntmps23
  go_wp2
  exact bodyPost_ret (v := .agg #[.int .i64 (-n), .int .i64 d]) (by simp [results, Try.results23, go_sem]) rfl ⟨rfl, by repeat (first | exact Below.refl _ _ | refine Below.alloc ?_ (by simp; done) _ | refine Below.alloc ?_ (by simp; omega) _)⟩

set_option maxHeartbeats 4000000 in
theorem walk_FnRatSub (A : Option Addr) (n0 c0 : Nat) (w : World) (h : Code w.heap.size w A n0 c0) : Calls Try.prog 5 #[.slice A n0 c0] w (Holds w) := by
  have HO := Lib.hid (d_DrawRatSub n0 c0 A w h)
  clear h
  go_enter Try.func5, Try.ntmps5
  go_wp2_with fail
  · go_ret
    exact ⟨rfl, Below.refl _ _⟩
  · refine HO.out.mono ?_
    rintro e w1 ⟨an, ad, bn, bd, ⟨an1, an2⟩, ⟨ad1, ad2⟩, ⟨bn1, bn2⟩, ⟨bd1, bd2⟩, rfl, hbl1⟩
    clear HO
    have HI : Hid (∀ W, Calls Try.prog 20 #[.agg #[.int .i64 an, .int .i64 ad], .agg #[.int .i64 bn, .int .i64 bd]] W (Res W (subR an ad bn bd))) := fun W => impl_sub an ad bn bd W (wf_small (by omega))
    have HS : Hid (∀ W, Calls Try.prog 21 #[.agg #[.int .i64 an, .int .i64 ad], .agg #[.int .i64 bn, .int .i64 bd]] W (Res W (subR an ad bn bd))) := fun W => spec_sub an ad bn bd W
    rcases ho : subR an ad bn bd with _ | ⟨x, y⟩
    · rw [ho] at HI HS
      clear ho
      go_wp2_with fail
      refine (HI.out _).mono ?_
      rintro e w2 ⟨rfl, hb2⟩
      obtain ⟨s2, k1, k2, k3, k4, hl2⟩ := box2 hb2
      have hbl2 := hbl1.trans (hl2.mono hbl1.size)
      have t5 : w1.heap.size < w2.heap.size := World.block_lt_of_cell? _ _ k1
      have t6 : w1.heap.size + 1 < w2.heap.size := World.block_lt_of_cell? _ _ k3
      clear hb2 hl2 hbl1
      go_wp2_with fail
      refine (HS.out _).mono ?_
      rintro e w3 ⟨rfl, hb3⟩
      have k7 := keep1 hb3 k1
      have k8 := keep1 hb3 k2
      have k9 := keep1 hb3 k3
      have k10 := keep1 hb3 k4
      obtain ⟨s3, k11, k12, hl3⟩ := new1 hb3
      have hbl3 := hbl2.trans (hl3.mono hbl2.size)
      have t13 : w1.heap.size < w3.heap.size := World.block_lt_of_cell? _ _ k7
      have t14 : w1.heap.size + 1 < w3.heap.size := World.block_lt_of_cell? _ _ k9
      have t15 : w2.heap.size < w3.heap.size := World.block_lt_of_cell? _ _ k11
      clear k1 k2 k3 k4 t5 t6 hb3 hl3 hbl2
      go_wp2
      go_ret
      first | exact ⟨rfl, hbl3⟩ | exact ⟨rfl, hbl3.alloc hbl3.size _⟩ | exact ⟨rfl, (hbl3.alloc hbl3.size _).alloc (by have := hbl3.size; simp; omega) _⟩
    · rw [ho] at HI HS
      have hz := sub_zero ho
      have HA : Hid (∀ W, Calls Try.prog 22 #[.agg #[.int .i64 an, .int .i64 ad], .agg #[.int .i64 (-bn), .int .i64 bd]] W (Res W (some (x, y)))) := fun W => by have := impl_add an ad (-bn) bd W; rw [← sub_eq, ho] at this; exact this
      have HM : Hid (∀ W, Calls Try.prog 23 #[.agg #[.int .i64 bn, .int .i64 bd]] W fun e w' => e = .returned (.agg #[.int .i64 (-bn), .int .i64 bd]) ∧ Below W.heap.size W w') := fun W => minus_any bn bd W (by omega)
      have HZ := Lib.hid hz
      clear ho hz
      go_wp2_with fail
      refine (HI.out _).mono ?_
      rintro e w2 ⟨rfl, hb2⟩
      obtain ⟨s2, k1, k2, k3, k4, hl2⟩ := box2 hb2
      have hbl2 := hbl1.trans (hl2.mono hbl1.size)
      have t5 : w1.heap.size < w2.heap.size := World.block_lt_of_cell? _ _ k1
      have t6 : w1.heap.size + 1 < w2.heap.size := World.block_lt_of_cell? _ _ k3
      clear hb2 hl2 hbl1
      go_wp2_with fail
      refine (HS.out _).mono ?_
      rintro e w3 ⟨rfl, hb3⟩
      have k7 := keep1 hb3 k1
      have k8 := keep1 hb3 k2
      have k9 := keep1 hb3 k3
      have k10 := keep1 hb3 k4
      obtain ⟨s3, k11, k12, hl3⟩ := new1 hb3
      have hbl3 := hbl2.trans (hl3.mono hbl2.size)
      have t13 : w1.heap.size < w3.heap.size := World.block_lt_of_cell? _ _ k7
      have t14 : w1.heap.size + 1 < w3.heap.size := World.block_lt_of_cell? _ _ k9
      have t15 : w2.heap.size < w3.heap.size := World.block_lt_of_cell? _ _ k11
      clear k1 k2 k3 k4 t5 t6 hb3 hl3 hbl2
      go_upto_region 8 with (fail)
      obtain ⟨W0, hW0⟩ : ∃ W0 : World, W0 = w3.alloc (.cells #[.int .i64 x, .int .i64 y] 24) := ⟨_, rfl⟩
      have K0 : Sx w W0 [(w1.heap.size, 0, .int .i64 an), (w1.heap.size, 1, .int .i64 ad), (w1.heap.size + 1, 0, .int .i64 bn), (w1.heap.size + 1, 1, .int .i64 bd), (w2.heap.size, 0, .int .i64 x), (w2.heap.size, 1, .int .i64 y)] W0 := by rw [hW0]; exact Sx.of6 (kalloc k7) (kalloc k8) (kalloc k9) (kalloc k10) (kalloc k11) (kalloc k12) (hbl3.alloc hbl3.size _)
      rw [← hW0]
      clear hW0 k7 k8 k9 k10 k11 k12 t13 t14 t15 hbl3 HI HS
      go_cut [9, 10] from 51 to 57 (fun s9 s10 wx => ∃ b : Nat, s9 = .pointer (some ⟨b, 0, none⟩) ∧ s10 = .bool true ∧ wx.cell? ⟨b, 0, none⟩ = some (.int .i64 x) ∧ wx.cell? ⟨b, 1, none⟩ = some (.int .i64 y) ∧ wx.cell? ⟨w1.heap.size, 0, none⟩ = some (.int .i64 an) ∧ wx.cell? ⟨w1.heap.size, 1, none⟩ = some (.int .i64 ad) ∧ wx.cell? ⟨w1.heap.size + 1, 0, none⟩ = some (.int .i64 bn) ∧ wx.cell? ⟨w1.heap.size + 1, 1, none⟩ = some (.int .i64 bd) ∧ wx.cell? ⟨w2.heap.size, 0, none⟩ = some (.int .i64 x) ∧ wx.cell? ⟨w2.heap.size, 1, none⟩ = some (.int .i64 y) ∧ W0.heap.size ≤ wx.heap.size ∧ Sx w W0 [(w1.heap.size, 0, .int .i64 an), (w1.heap.size, 1, .int .i64 ad), (w1.heap.size + 1, 0, .int .i64 bn), (w1.heap.size + 1, 1, .int .i64 bd), (w2.heap.size, 0, .int .i64 x), (w2.heap.size, 1, .int .i64 y)] wx)
      case first =>
        go_region_held3 (fun w' => w'.cell? ⟨w1.heap.size, 0, none⟩ = some (.int .i64 an) ∧ w'.cell? ⟨w1.heap.size, 1, none⟩ = some (.int .i64 ad) ∧ w'.cell? ⟨w1.heap.size + 1, 0, none⟩ = some (.int .i64 bn) ∧ w'.cell? ⟨w1.heap.size + 1, 1, none⟩ = some (.int .i64 bd) ∧ w'.cell? ⟨w2.heap.size, 0, none⟩ = some (.int .i64 x) ∧ w'.cell? ⟨w2.heap.size, 1, none⟩ = some (.int .i64 y) ∧ W0.heap.size ≤ w'.heap.size ∧ Sx w W0 [(w1.heap.size, 0, .int .i64 an), (w1.heap.size, 1, .int .i64 ad), (w1.heap.size + 1, 0, .int .i64 bn), (w1.heap.size + 1, 1, .int .i64 bd), (w2.heap.size, 0, .int .i64 x), (w2.heap.size, 1, .int .i64 y)] w')
          (first
            | exact all6 K0.drew
            | (go_split_ands; first
                | exact all6 (Sx.call (by assumption) hb)
                | exact all6 (Sx.swap (by assumption) hq)
                | exact all6 (Sx.alloc (by assumption) _)
                | exact all6 (Sx.set2 (by assumption) (by omega))))
          (first | (go_at_call 23; refine (HM.out _).mono ?_; rintro e w1 ⟨rfl, hb⟩; obtain ⟨hc, hf⟩ := bcell hb; have hz := hb.size; (try simp at hz); (try simp at hc); (try simp at hf); (try have hz := Nat.lt_of_succ_le hz); have hq : W0.heap.size ≤ w1.heap.size := (by omega); (try have hq2 : W0.heap.size < w1.heap.size := (by omega))) | (go_at_call 22; refine (HA.out _).mono ?_; rintro e w1 ⟨rfl, hb⟩; obtain ⟨hc, hf⟩ := bcell hb; have hz := hb.size; (try simp at hz); (try simp at hc); (try simp at hf); (try have hz := Nat.lt_of_succ_le hz); have hq : W0.heap.size ≤ w1.heap.size := (by omega); (try have hq2 : W0.heap.size < w1.heap.size := (by omega))))
        all_goals
          go_wp2_with fail
          go_meet
          refine ⟨_, rfl, rfl, ?_, ?_, by assumption⟩
          · go_simp
          · go_simp
      case rest =>
        obtain ⟨b, rfl, rfl, x0, y0, q0, q1, q2, q3, q4, q5, _, q6⟩ := hcut
        have q7 := q6.2.2.1
        clear K0 q6 HM HA
        by_cases hx : x = 0
        · obtain ⟨rfl, rfl⟩ := HZ.out.1 hx
          subst hx
          clear HZ
          go_wp2_with fail
          go_quiet (fail)
          go_wp2
          go_ret
          exact ⟨rfl, below_drewN q7 _⟩
        · have hn : ¬ (an = bn ∧ ad = bd) := fun h => hx (HZ.out.2 h)
          have hx' : (x == 0) = false := by simpa using hx
          clear HZ hx
          by_cases hab : an = bn
          · subst hab
            have hab' : (ad == bd) = false := by simpa using hn
            have hab2 : decide (ad = bd) = false := by simpa using hn
            clear hn
            go_wp2_with fail
            go_quiet (fail)
            go_wp2
            go_ret
            exact ⟨rfl, below_drewN q7 _⟩
          · have hab' : (an == bn) = false := by simpa using hab
            have hab2 : decide (an = bn) = false := by simpa using hab
            clear hn hab
            go_wp2_with fail
            go_quiet (fail)
            go_wp2
            go_ret
            exact ⟨rfl, below_drewN q7 _⟩

end Go.Proofs.Ytdlcfofangkehaa
