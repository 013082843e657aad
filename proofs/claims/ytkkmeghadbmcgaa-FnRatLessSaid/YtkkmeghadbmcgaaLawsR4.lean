/-
  The laws of rationals.
-/
import Derived.Test.YtkkmeghadbmcgaaRatLess
import Derived.Test.YtkkmeghadbmcgaaRatDraws2
import Derived.Test.YtkkmeghadbmcgaaLawsR2
namespace Go.Proofs.Ytkkmeghadbmcgaa
open Go.RowKit
set_option linter.unusedSimpArgs false
set_option linter.unusedVariables false

set_option maxHeartbeats 2000000 in
theorem walk_FnRatLessThree (A : Option Addr) (n0 c0 : Nat) (w : World) (h : Code w.heap.size w A n0 c0) : Calls Try.prog 12 #[.slice A n0 c0] w (Holds w) := by
  have HO := Lib.hid (d_DrawRatLess n0 c0 A w h)
  clear h
  go_enter Try.func12, Try.ntmps12
  go_wp2_with fail
  · go_ret
    exact ⟨rfl, Below.refl _ _⟩
  · refine HO.out.mono ?_
    rintro e w1 ⟨an, ad, bn, bd, ⟨an1, an2⟩, ⟨ad1, ad2⟩, ⟨bn1, bn2⟩, ⟨bd1, bd2⟩, rfl, hbl1⟩
    clear HO
    have HI : Hid (∀ W, Calls Try.prog 31 #[.agg #[.int .i64 an, .int .i64 ad], .agg #[.int .i64 bn, .int .i64 bd]] W (Said W (lessB an ad bn bd))) := fun W => impl_less an ad bn bd W
    have HS : Hid (∀ W, Calls Try.prog 32 #[.agg #[.int .i64 an, .int .i64 ad], .agg #[.int .i64 bn, .int .i64 bd]] W (Said W (lessB an ad bn bd))) := fun W => spec_less an ad bn bd W
    rcases ho : lessB an ad bn bd with _ | _
    · rw [ho] at HI HS
      clear ho
      go_wp2_with fail
      refine (HI.out _).mono ?_
      rintro e w2 ⟨rfl, hb2⟩
      obtain ⟨s2, k1, k2, k3, k4, hl2⟩ := box2 hb2
      have hbl2 := hbl1.trans (hl2.mono hbl1.size)
      have t5 : w1.heap.size < w2.heap.size := World.block_lt_of_cell? _ _ k1
      have t6 : w1.heap.size + 1 < w2.heap.size := World.block_lt_of_cell? _ _ k3
      clear hb2 hl2 hbl1
      go_wp2_with fail
      refine (HS.out _).mono ?_
      rintro e w3 ⟨rfl, hb3⟩
      have k7 := keep0 hb3 k1
      have k8 := keep0 hb3 k2
      have k9 := keep0 hb3 k3
      have k10 := keep0 hb3 k4
      obtain ⟨s3, hl3⟩ := new0 hb3
      have hbl3 := hbl2.trans (hl3.mono hbl2.size)
      have t11 : w1.heap.size < w3.heap.size := World.block_lt_of_cell? _ _ k7
      have t12 : w1.heap.size + 1 < w3.heap.size := World.block_lt_of_cell? _ _ k9
      clear k1 k2 k3 k4 t5 t6 hb3 hl3 hbl2
      go_wp2
      go_ret
      first | exact ⟨rfl, hbl3⟩ | exact ⟨rfl, hbl3.alloc hbl3.size _⟩ | exact ⟨rfl, (hbl3.alloc hbl3.size _).alloc (by have := hbl3.size; simp; omega) _⟩
    · rw [ho] at HI HS
      have H1 : Hid (∀ W, Calls Try.prog 16 #[.agg #[.int .i64 bn, .int .i64 bd], .agg #[.int .i64 1, .int .i64 7]] W (Res W (addR bn bd 1 7))) := fun W => impl_add bn bd 1 7 W
      rcases h1 : addR bn bd 1 7 with _ | ⟨x, y⟩
      · rw [h1] at H1
        clear h1 ho
        go_wp2_with fail
        refine (HI.out _).mono ?_
        rintro e w2 ⟨rfl, hb2⟩
        obtain ⟨s2, k1, k2, k3, k4, hl2⟩ := box2 hb2
        have hbl2 := hbl1.trans (hl2.mono hbl1.size)
        have t5 : w1.heap.size < w2.heap.size := World.block_lt_of_cell? _ _ k1
        have t6 : w1.heap.size + 1 < w2.heap.size := World.block_lt_of_cell? _ _ k3
        clear hb2 hl2 hbl1
        go_wp2_with fail
        refine (HS.out _).mono ?_
        rintro e w3 ⟨rfl, hb3⟩
        have k7 := keep0 hb3 k1
        have k8 := keep0 hb3 k2
        have k9 := keep0 hb3 k3
        have k10 := keep0 hb3 k4
        obtain ⟨s3, hl3⟩ := new0 hb3
        have hbl3 := hbl2.trans (hl3.mono hbl2.size)
        have t11 : w1.heap.size < w3.heap.size := World.block_lt_of_cell? _ _ k7
        have t12 : w1.heap.size + 1 < w3.heap.size := World.block_lt_of_cell? _ _ k9
        clear k1 k2 k3 k4 t5 t6 hb3 hl3 hbl2
        go_wp2_with fail
        refine (H1.out _).mono ?_
        rintro e w4 ⟨rfl, hb4⟩
        have k13 := keep0 hb4 k7
        have k14 := keep0 hb4 k8
        have k15 := keep0 hb4 k9
        have k16 := keep0 hb4 k10
        obtain ⟨s4, hl4⟩ := new0 hb4
        have hbl4 := hbl3.trans (hl4.mono hbl3.size)
        have t17 : w1.heap.size < w4.heap.size := World.block_lt_of_cell? _ _ k13
        have t18 : w1.heap.size + 1 < w4.heap.size := World.block_lt_of_cell? _ _ k15
        clear k7 k8 k9 k10 t11 t12 hb4 hl4 hbl3
        go_wp2
        go_ret
        first | exact ⟨rfl, hbl4⟩ | exact ⟨rfl, hbl4.alloc hbl4.size _⟩ | exact ⟨rfl, (hbl4.alloc hbl4.size _).alloc (by have := hbl4.size; simp; omega) _⟩
      · rw [h1] at H1
        have l2 : lessB bn bd x y = true := by rw [(less_one h1).1]; decide
        have l1 := less_more ho l2
        have H2 : Hid (∀ W, Calls Try.prog 31 #[.agg #[.int .i64 an, .int .i64 ad], .agg #[.int .i64 x, .int .i64 y]] W (Said W (true))) := fun W => by have := impl_less an ad x y W; rw [l1] at this; exact this
        have H3 : Hid (∀ W, Calls Try.prog 31 #[.agg #[.int .i64 bn, .int .i64 bd], .agg #[.int .i64 x, .int .i64 y]] W (Said W (true))) := fun W => by have := impl_less bn bd x y W; rw [l2] at this; exact this
        clear h1 ho l1 l2
        go_wp2_with fail
        refine (HI.out _).mono ?_
        rintro e w2 ⟨rfl, hb2⟩
        obtain ⟨s2, k1, k2, k3, k4, hl2⟩ := box2 hb2
        have hbl2 := hbl1.trans (hl2.mono hbl1.size)
        have t5 : w1.heap.size < w2.heap.size := World.block_lt_of_cell? _ _ k1
        have t6 : w1.heap.size + 1 < w2.heap.size := World.block_lt_of_cell? _ _ k3
        clear hb2 hl2 hbl1
        go_wp2_with fail
        refine (HS.out _).mono ?_
        rintro e w3 ⟨rfl, hb3⟩
        have k7 := keep0 hb3 k1
        have k8 := keep0 hb3 k2
        have k9 := keep0 hb3 k3
        have k10 := keep0 hb3 k4
        obtain ⟨s3, hl3⟩ := new0 hb3
        have hbl3 := hbl2.trans (hl3.mono hbl2.size)
        have t11 : w1.heap.size < w3.heap.size := World.block_lt_of_cell? _ _ k7
        have t12 : w1.heap.size + 1 < w3.heap.size := World.block_lt_of_cell? _ _ k9
        clear k1 k2 k3 k4 t5 t6 hb3 hl3 hbl2
        go_wp2_with fail
        refine (H1.out _).mono ?_
        rintro e w4 ⟨rfl, hb4⟩
        have k13 := keep0 hb4 k7
        have k14 := keep0 hb4 k8
        have k15 := keep0 hb4 k9
        have k16 := keep0 hb4 k10
        obtain ⟨s4, hl4⟩ := new0 hb4
        have hbl4 := hbl3.trans (hl4.mono hbl3.size)
        have t17 : w1.heap.size < w4.heap.size := World.block_lt_of_cell? _ _ k13
        have t18 : w1.heap.size + 1 < w4.heap.size := World.block_lt_of_cell? _ _ k15
        clear k7 k8 k9 k10 t11 t12 hb4 hl4 hbl3
        go_wp2_with fail
        refine (H2.out _).mono ?_
        rintro e w5 ⟨rfl, hb5⟩
        have k19 := keep1 hb5 k13
        have k20 := keep1 hb5 k14
        have k21 := keep1 hb5 k15
        have k22 := keep1 hb5 k16
        obtain ⟨s5, k23, k24, hl5⟩ := new1 hb5
        have hbl5 := hbl4.trans (hl5.mono hbl4.size)
        have t25 : w1.heap.size < w5.heap.size := World.block_lt_of_cell? _ _ k19
        have t26 : w1.heap.size + 1 < w5.heap.size := World.block_lt_of_cell? _ _ k21
        have t27 : w4.heap.size < w5.heap.size := World.block_lt_of_cell? _ _ k23
        clear k13 k14 k15 k16 t17 t18 hb5 hl5 hbl4
        go_wp2_with fail
        refine (H3.out _).mono ?_
        rintro e w6 ⟨rfl, hb6⟩
        have k28 := keep0 hb6 k19
        have k29 := keep0 hb6 k20
        have k30 := keep0 hb6 k21
        have k31 := keep0 hb6 k22
        have k32 := keep0 hb6 k23
        have k33 := keep0 hb6 k24
        obtain ⟨s6, hl6⟩ := new0 hb6
        have hbl6 := hbl5.trans (hl6.mono hbl5.size)
        have t34 : w1.heap.size < w6.heap.size := World.block_lt_of_cell? _ _ k28
        have t35 : w1.heap.size + 1 < w6.heap.size := World.block_lt_of_cell? _ _ k30
        have t36 : w4.heap.size < w6.heap.size := World.block_lt_of_cell? _ _ k32
        clear k19 k20 k21 k22 k23 k24 t25 t26 t27 hb6 hl6 hbl5
        go_wp2
        go_ret
        first | exact ⟨rfl, hbl6⟩ | exact ⟨rfl, hbl6.alloc hbl6.size _⟩ | exact ⟨rfl, (hbl6.alloc hbl6.size _).alloc (by have := hbl6.size; simp; omega) _⟩

set_option maxHeartbeats 2000000 in
theorem walk_FnRatLess (A : Option Addr) (n0 c0 : Nat) (w : World) (h : Code w.heap.size w A n0 c0) : Calls Try.prog 14 #[.slice A n0 c0] w (Holds w) := by
  have HO := Lib.hid (d_DrawRatLess n0 c0 A w h)
  clear h
  go_enter Try.func14, Try.ntmps14
  go_wp2_with fail
  · go_ret
    exact ⟨rfl, Below.refl _ _⟩
  · refine HO.out.mono ?_
    rintro e w1 ⟨an, ad, bn, bd, ⟨an1, an2⟩, ⟨ad1, ad2⟩, ⟨bn1, bn2⟩, ⟨bd1, bd2⟩, rfl, hbl1⟩
    clear HO
    have HI : Hid (∀ W, Calls Try.prog 31 #[.agg #[.int .i64 an, .int .i64 ad], .agg #[.int .i64 bn, .int .i64 bd]] W (Said W (lessB an ad bn bd))) := fun W => impl_less an ad bn bd W
    have HS : Hid (∀ W, Calls Try.prog 32 #[.agg #[.int .i64 an, .int .i64 ad], .agg #[.int .i64 bn, .int .i64 bd]] W (Said W (lessB an ad bn bd))) := fun W => spec_less an ad bn bd W
    rcases ho : lessB an ad bn bd with _ | _
    · rw [ho] at HI HS
      clear ho
      go_wp2_with fail
      refine (HI.out _).mono ?_
      rintro e w2 ⟨rfl, hb2⟩
      obtain ⟨s2, k1, k2, k3, k4, hl2⟩ := box2 hb2
      have hbl2 := hbl1.trans (hl2.mono hbl1.size)
      have t5 : w1.heap.size < w2.heap.size := World.block_lt_of_cell? _ _ k1
      have t6 : w1.heap.size + 1 < w2.heap.size := World.block_lt_of_cell? _ _ k3
      clear hb2 hl2 hbl1
      go_wp2_with fail
      refine (HS.out _).mono ?_
      rintro e w3 ⟨rfl, hb3⟩
      have k7 := keep0 hb3 k1
      have k8 := keep0 hb3 k2
      have k9 := keep0 hb3 k3
      have k10 := keep0 hb3 k4
      obtain ⟨s3, hl3⟩ := new0 hb3
      have hbl3 := hbl2.trans (hl3.mono hbl2.size)
      have t11 : w1.heap.size < w3.heap.size := World.block_lt_of_cell? _ _ k7
      have t12 : w1.heap.size + 1 < w3.heap.size := World.block_lt_of_cell? _ _ k9
      clear k1 k2 k3 k4 t5 t6 hb3 hl3 hbl2
      go_wp2
      go_ret
      first | exact ⟨rfl, hbl3⟩ | exact ⟨rfl, hbl3.alloc hbl3.size _⟩ | exact ⟨rfl, (hbl3.alloc hbl3.size _).alloc (by have := hbl3.size; simp; omega) _⟩
    · rw [ho] at HI HS
      have H1 : Hid (∀ W, Calls Try.prog 26 #[.agg #[.int .i64 bn, .int .i64 bd], .agg #[.int .i64 an, .int .i64 ad]] W (Res W (subR bn bd an ad))) := fun W => impl_sub bn bd an ad W (wf_small (by omega))
      have H2 : Hid (∀ W, Calls Try.prog 31 #[.agg #[.int .i64 bn, .int .i64 bd], .agg #[.int .i64 an, .int .i64 ad]] W (Said W (false))) := fun W => by have := impl_less bn bd an ad W; rw [less_not ho] at this; exact this
      have H3 : Hid (∀ W, Calls Try.prog 31 #[.agg #[.int .i64 an, .int .i64 ad], .agg #[.int .i64 an, .int .i64 ad]] W (Said W (false))) := fun W => by have := impl_less an ad an ad W; rw [less_irr an ad] at this; exact this
      rcases h1 : subR bn bd an ad with _ | ⟨x, y⟩
      · rw [h1] at H1
        clear h1 ho
        go_wp2_with fail
        refine (HI.out _).mono ?_
        rintro e w2 ⟨rfl, hb2⟩
        obtain ⟨s2, k1, k2, k3, k4, hl2⟩ := box2 hb2
        have hbl2 := hbl1.trans (hl2.mono hbl1.size)
        have t5 : w1.heap.size < w2.heap.size := World.block_lt_of_cell? _ _ k1
        have t6 : w1.heap.size + 1 < w2.heap.size := World.block_lt_of_cell? _ _ k3
        clear hb2 hl2 hbl1
        go_wp2_with fail
        refine (HS.out _).mono ?_
        rintro e w3 ⟨rfl, hb3⟩
        have k7 := keep0 hb3 k1
        have k8 := keep0 hb3 k2
        have k9 := keep0 hb3 k3
        have k10 := keep0 hb3 k4
        obtain ⟨s3, hl3⟩ := new0 hb3
        have hbl3 := hbl2.trans (hl3.mono hbl2.size)
        have t11 : w1.heap.size < w3.heap.size := World.block_lt_of_cell? _ _ k7
        have t12 : w1.heap.size + 1 < w3.heap.size := World.block_lt_of_cell? _ _ k9
        clear k1 k2 k3 k4 t5 t6 hb3 hl3 hbl2
        go_wp2_with fail
        refine (H1.out _).mono ?_
        rintro e w4 ⟨rfl, hb4⟩
        have k13 := keep0 hb4 k7
        have k14 := keep0 hb4 k8
        have k15 := keep0 hb4 k9
        have k16 := keep0 hb4 k10
        obtain ⟨s4, hl4⟩ := new0 hb4
        have hbl4 := hbl3.trans (hl4.mono hbl3.size)
        have t17 : w1.heap.size < w4.heap.size := World.block_lt_of_cell? _ _ k13
        have t18 : w1.heap.size + 1 < w4.heap.size := World.block_lt_of_cell? _ _ k15
        clear k7 k8 k9 k10 t11 t12 hb4 hl4 hbl3
        go_wp2_with fail
        refine (H2.out _).mono ?_
        rintro e w5 ⟨rfl, hb5⟩
        have k19 := keep1 hb5 k13
        have k20 := keep1 hb5 k14
        have k21 := keep1 hb5 k15
        have k22 := keep1 hb5 k16
        obtain ⟨s5, k23, k24, hl5⟩ := new1 hb5
        have hbl5 := hbl4.trans (hl5.mono hbl4.size)
        have t25 : w1.heap.size < w5.heap.size := World.block_lt_of_cell? _ _ k19
        have t26 : w1.heap.size + 1 < w5.heap.size := World.block_lt_of_cell? _ _ k21
        have t27 : w4.heap.size < w5.heap.size := World.block_lt_of_cell? _ _ k23
        clear k13 k14 k15 k16 t17 t18 hb5 hl5 hbl4
        go_wp2_with fail
        refine (H3.out _).mono ?_
        rintro e w6 ⟨rfl, hb6⟩
        have k28 := keep0 hb6 k19
        have k29 := keep0 hb6 k20
        have k30 := keep0 hb6 k21
        have k31 := keep0 hb6 k22
        have k32 := keep0 hb6 k23
        have k33 := keep0 hb6 k24
        obtain ⟨s6, hl6⟩ := new0 hb6
        have hbl6 := hbl5.trans (hl6.mono hbl5.size)
        have t34 : w1.heap.size < w6.heap.size := World.block_lt_of_cell? _ _ k28
        have t35 : w1.heap.size + 1 < w6.heap.size := World.block_lt_of_cell? _ _ k30
        have t36 : w4.heap.size < w6.heap.size := World.block_lt_of_cell? _ _ k32
        clear k19 k20 k21 k22 k23 k24 t25 t26 t27 hb6 hl6 hbl5
        go_wp2
        go_ret
        first | exact ⟨rfl, hbl6⟩ | exact ⟨rfl, hbl6.alloc hbl6.size _⟩ | exact ⟨rfl, (hbl6.alloc hbl6.size _).alloc (by have := hbl6.size; simp; omega) _⟩
      · rw [h1] at H1
        have g0 : decide (x > 0) = true := by simpa using less_sub ho h1
        have g1 : decide (0 < x) = true := g0
        clear h1 ho
        go_wp2_with fail
        refine (HI.out _).mono ?_
        rintro e w2 ⟨rfl, hb2⟩
        obtain ⟨s2, k1, k2, k3, k4, hl2⟩ := box2 hb2
        have hbl2 := hbl1.trans (hl2.mono hbl1.size)
        have t5 : w1.heap.size < w2.heap.size := World.block_lt_of_cell? _ _ k1
        have t6 : w1.heap.size + 1 < w2.heap.size := World.block_lt_of_cell? _ _ k3
        clear hb2 hl2 hbl1
        go_wp2_with fail
        refine (HS.out _).mono ?_
        rintro e w3 ⟨rfl, hb3⟩
        have k7 := keep0 hb3 k1
        have k8 := keep0 hb3 k2
        have k9 := keep0 hb3 k3
        have k10 := keep0 hb3 k4
        obtain ⟨s3, hl3⟩ := new0 hb3
        have hbl3 := hbl2.trans (hl3.mono hbl2.size)
        have t11 : w1.heap.size < w3.heap.size := World.block_lt_of_cell? _ _ k7
        have t12 : w1.heap.size + 1 < w3.heap.size := World.block_lt_of_cell? _ _ k9
        clear k1 k2 k3 k4 t5 t6 hb3 hl3 hbl2
        go_wp2_with fail
        refine (H1.out _).mono ?_
        rintro e w4 ⟨rfl, hb4⟩
        have k13 := keep0 hb4 k7
        have k14 := keep0 hb4 k8
        have k15 := keep0 hb4 k9
        have k16 := keep0 hb4 k10
        obtain ⟨s4, hl4⟩ := new0 hb4
        have hbl4 := hbl3.trans (hl4.mono hbl3.size)
        have t17 : w1.heap.size < w4.heap.size := World.block_lt_of_cell? _ _ k13
        have t18 : w1.heap.size + 1 < w4.heap.size := World.block_lt_of_cell? _ _ k15
        clear k7 k8 k9 k10 t11 t12 hb4 hl4 hbl3
        go_wp2_with fail
        refine (H2.out _).mono ?_
        rintro e w5 ⟨rfl, hb5⟩
        have k19 := keep1 hb5 k13
        have k20 := keep1 hb5 k14
        have k21 := keep1 hb5 k15
        have k22 := keep1 hb5 k16
        obtain ⟨s5, k23, k24, hl5⟩ := new1 hb5
        have hbl5 := hbl4.trans (hl5.mono hbl4.size)
        have t25 : w1.heap.size < w5.heap.size := World.block_lt_of_cell? _ _ k19
        have t26 : w1.heap.size + 1 < w5.heap.size := World.block_lt_of_cell? _ _ k21
        have t27 : w4.heap.size < w5.heap.size := World.block_lt_of_cell? _ _ k23
        clear k13 k14 k15 k16 t17 t18 hb5 hl5 hbl4
        go_wp2_with fail
        refine (H3.out _).mono ?_
        rintro e w6 ⟨rfl, hb6⟩
        have k28 := keep0 hb6 k19
        have k29 := keep0 hb6 k20
        have k30 := keep0 hb6 k21
        have k31 := keep0 hb6 k22
        have k32 := keep0 hb6 k23
        have k33 := keep0 hb6 k24
        obtain ⟨s6, hl6⟩ := new0 hb6
        have hbl6 := hbl5.trans (hl6.mono hbl5.size)
        have t34 : w1.heap.size < w6.heap.size := World.block_lt_of_cell? _ _ k28
        have t35 : w1.heap.size + 1 < w6.heap.size := World.block_lt_of_cell? _ _ k30
        have t36 : w4.heap.size < w6.heap.size := World.block_lt_of_cell? _ _ k32
        clear k19 k20 k21 k22 k23 k24 t25 t26 t27 hb6 hl6 hbl5
        go_wp2
        go_ret
        first | exact ⟨rfl, hbl6⟩ | exact ⟨rfl, hbl6.alloc hbl6.size _⟩ | exact ⟨rfl, (hbl6.alloc hbl6.size _).alloc (by have := hbl6.size; simp; omega) _⟩

end Go.Proofs.Ytkkmeghadbmcgaa
