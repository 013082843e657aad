/-
  The laws of rationals.
-/
import Derived.Test.YtkkmeghadbmcgaaRatLess
import Derived.Test.YtkkmeghadbmcgaaRatDraws2
import Derived.Test.YtkkmeghadbmcgaaLawsR2
namespace Go.Proofs.Ytkkmeghadbmcgaa
open Go.RowKit
set_option linter.unusedSimpArgs false
set_option linter.unusedVariables false

set_option maxHeartbeats 2000000 in
theorem walk_FnRatMulSwap (A : Option Addr) (n0 c0 : Nat) (w : World) (h : Code w.heap.size w A n0 c0) : Calls Try.prog 5 #[.slice A n0 c0] w (Holds w) := by
  have HO := Lib.hid (d_DrawRatMul n0 c0 A w h)
  clear h
  go_enter Try.func5, Try.ntmps5
  go_wp2_with fail
  · go_ret
    exact ⟨rfl, Below.refl _ _⟩
  · refine HO.out.mono ?_
    rintro e w1 ⟨an, ad, bn, bd, ⟨an1, an2⟩, ⟨ad1, ad2⟩, ⟨bn1, bn2⟩, ⟨bd1, bd2⟩, rfl, hbl1⟩
    clear HO
    have HI : Hid (∀ W, Calls Try.prog 20 #[.agg #[.int .i64 an, .int .i64 ad], .agg #[.int .i64 bn, .int .i64 bd]] W (Res W (mulR an ad bn bd))) := fun W => impl_mul an ad bn bd W
    have HS : Hid (∀ W, Calls Try.prog 21 #[.agg #[.int .i64 an, .int .i64 ad], .agg #[.int .i64 bn, .int .i64 bd]] W (Res W (mulR an ad bn bd))) := fun W => spec_mul an ad bn bd W
    rcases ho : mulR an ad bn bd with _ | ⟨x, y⟩
    · rw [ho] at HI HS
      clear ho
      go_wp2_with fail
      refine (HI.out _).mono ?_
      rintro e w2 ⟨rfl, hb2⟩
      obtain ⟨s2, k1, k2, k3, k4, hl2⟩ := box2 hb2
      have hbl2 := hbl1.trans (hl2.mono hbl1.size)
      have t5 : w1.heap.size < w2.heap.size := World.block_lt_of_cell? _ _ k1
      have t6 : w1.heap.size + 1 < w2.heap.size := World.block_lt_of_cell? _ _ k3
      clear hb2 hl2 hbl1
      go_wp2_with fail
      refine (HS.out _).mono ?_
      rintro e w3 ⟨rfl, hb3⟩
      have k7 := keep1 hb3 k1
      have k8 := keep1 hb3 k2
      have k9 := keep1 hb3 k3
      have k10 := keep1 hb3 k4
      obtain ⟨s3, k11, k12, hl3⟩ := new1 hb3
      have hbl3 := hbl2.trans (hl3.mono hbl2.size)
      have t13 : w1.heap.size < w3.heap.size := World.block_lt_of_cell? _ _ k7
      have t14 : w1.heap.size + 1 < w3.heap.size := World.block_lt_of_cell? _ _ k9
      have t15 : w2.heap.size < w3.heap.size := World.block_lt_of_cell? _ _ k11
      clear k1 k2 k3 k4 t5 t6 hb3 hl3 hbl2
      go_wp2
      go_ret
      first | exact ⟨rfl, hbl3⟩ | exact ⟨rfl, hbl3.alloc hbl3.size _⟩ | exact ⟨rfl, (hbl3.alloc hbl3.size _).alloc (by have := hbl3.size; simp; omega) _⟩
    · rw [ho] at HI HS
      have hsw := mul_swap an ad bn bd
      rw [ho] at hsw
      have hz := mul_zero ho
      have HW : Hid (∀ W, Calls Try.prog 20 #[.agg #[.int .i64 bn, .int .i64 bd], .agg #[.int .i64 an, .int .i64 ad]] W (Res W (some (x, y)))) := fun W => by have := impl_mul bn bd an ad W; rw [hsw] at this; exact this
      have e0 : (x == 0) = ((an == 0) || (bn == 0)) := by
        rw [Bool.eq_iff_iff]; simp only [Bool.or_eq_true, beq_iff_eq]; exact hz
      have HE := Lib.hid e0
      clear hsw ho hz e0
      go_wp2_with fail
      refine (HI.out _).mono ?_
      rintro e w2 ⟨rfl, hb2⟩
      obtain ⟨s2, k1, k2, k3, k4, hl2⟩ := box2 hb2
      have hbl2 := hbl1.trans (hl2.mono hbl1.size)
      have t5 : w1.heap.size < w2.heap.size := World.block_lt_of_cell? _ _ k1
      have t6 : w1.heap.size + 1 < w2.heap.size := World.block_lt_of_cell? _ _ k3
      clear hb2 hl2 hbl1
      go_wp2_with fail
      refine (HS.out _).mono ?_
      rintro e w3 ⟨rfl, hb3⟩
      have k7 := keep1 hb3 k1
      have k8 := keep1 hb3 k2
      have k9 := keep1 hb3 k3
      have k10 := keep1 hb3 k4
      obtain ⟨s3, k11, k12, hl3⟩ := new1 hb3
      have hbl3 := hbl2.trans (hl3.mono hbl2.size)
      have t13 : w1.heap.size < w3.heap.size := World.block_lt_of_cell? _ _ k7
      have t14 : w1.heap.size + 1 < w3.heap.size := World.block_lt_of_cell? _ _ k9
      have t15 : w2.heap.size < w3.heap.size := World.block_lt_of_cell? _ _ k11
      clear k1 k2 k3 k4 t5 t6 hb3 hl3 hbl2
      go_wp2_with fail
      refine (HW.out _).mono ?_
      rintro e w4 ⟨rfl, hb4⟩
      have k16 := keep1 hb4 k7
      have k17 := keep1 hb4 k8
      have k18 := keep1 hb4 k9
      have k19 := keep1 hb4 k10
      have k20 := keep1 hb4 k11
      have k21 := keep1 hb4 k12
      obtain ⟨s4, k22, k23, hl4⟩ := new1 hb4
      have hbl4 := hbl3.trans (hl4.mono hbl3.size)
      have t24 : w1.heap.size < w4.heap.size := World.block_lt_of_cell? _ _ k16
      have t25 : w1.heap.size + 1 < w4.heap.size := World.block_lt_of_cell? _ _ k18
      have t26 : w2.heap.size < w4.heap.size := World.block_lt_of_cell? _ _ k20
      have t27 : w3.heap.size < w4.heap.size := World.block_lt_of_cell? _ _ k22
      clear k7 k8 k9 k10 k11 k12 t13 t14 t15 hb4 hl4 hbl3
      by_cases ha : an = 0
      · have a1 : (an == 0) = true := by simpa using ha
        have x1 : (x == 0) = true := by rw [HE.out, a1]; rfl
        clear ha
        go_wp2
        go_ret
        exact ⟨rfl, hbl4.alloc hbl4.size _⟩
      · have a1 : (an == 0) = false := by simpa using ha
        by_cases hb : bn = 0
        · have b1 : (bn == 0) = true := by simpa using hb
          have x1 : (x == 0) = true := by rw [HE.out, a1, b1]; rfl
          clear ha hb
          go_wp2
          go_ret
          exact ⟨rfl, hbl4.alloc hbl4.size _⟩
        · have b1 : (bn == 0) = false := by simpa using hb
          have x1 : (x == 0) = false := by rw [HE.out, a1, b1]; rfl
          clear ha hb
          go_wp2
          go_ret
          exact ⟨rfl, hbl4.alloc hbl4.size _⟩

set_option maxHeartbeats 2000000 in
theorem walk_FnRatMulDiv (A : Option Addr) (n0 c0 : Nat) (w : World) (h : Code w.heap.size w A n0 c0) : Calls Try.prog 7 #[.slice A n0 c0] w (Holds w) := by
  have HO := Lib.hid (d_DrawRatMul n0 c0 A w h)
  clear h
  go_enter Try.func7, Try.ntmps7
  go_wp2_with fail
  · go_ret
    exact ⟨rfl, Below.refl _ _⟩
  · refine HO.out.mono ?_
    rintro e w1 ⟨an, ad, bn, bd, ⟨an1, an2⟩, ⟨ad1, ad2⟩, ⟨bn1, bn2⟩, ⟨bd1, bd2⟩, rfl, hbl1⟩
    clear HO
    have HI : Hid (∀ W, Calls Try.prog 20 #[.agg #[.int .i64 an, .int .i64 ad], .agg #[.int .i64 bn, .int .i64 bd]] W (Res W (mulR an ad bn bd))) := fun W => impl_mul an ad bn bd W
    have HS : Hid (∀ W, Calls Try.prog 21 #[.agg #[.int .i64 an, .int .i64 ad], .agg #[.int .i64 bn, .int .i64 bd]] W (Res W (mulR an ad bn bd))) := fun W => spec_mul an ad bn bd W
    rcases ho : mulR an ad bn bd with _ | ⟨x, y⟩
    · rw [ho] at HI HS
      clear ho
      go_wp2_with fail
      refine (HI.out _).mono ?_
      rintro e w2 ⟨rfl, hb2⟩
      obtain ⟨s2, k1, k2, k3, k4, hl2⟩ := box2 hb2
      have hbl2 := hbl1.trans (hl2.mono hbl1.size)
      have t5 : w1.heap.size < w2.heap.size := World.block_lt_of_cell? _ _ k1
      have t6 : w1.heap.size + 1 < w2.heap.size := World.block_lt_of_cell? _ _ k3
      clear hb2 hl2 hbl1
      go_wp2_with fail
      refine (HS.out _).mono ?_
      rintro e w3 ⟨rfl, hb3⟩
      have k7 := keep1 hb3 k1
      have k8 := keep1 hb3 k2
      have k9 := keep1 hb3 k3
      have k10 := keep1 hb3 k4
      obtain ⟨s3, k11, k12, hl3⟩ := new1 hb3
      have hbl3 := hbl2.trans (hl3.mono hbl2.size)
      have t13 : w1.heap.size < w3.heap.size := World.block_lt_of_cell? _ _ k7
      have t14 : w1.heap.size + 1 < w3.heap.size := World.block_lt_of_cell? _ _ k9
      have t15 : w2.heap.size < w3.heap.size := World.block_lt_of_cell? _ _ k11
      clear k1 k2 k3 k4 t5 t6 hb3 hl3 hbl2
      go_wp2
      go_ret
      first | exact ⟨rfl, hbl3⟩ | exact ⟨rfl, hbl3.alloc hbl3.size _⟩ | exact ⟨rfl, (hbl3.alloc hbl3.size _).alloc (by have := hbl3.size; simp; omega) _⟩
    · rw [ho] at HI HS
      by_cases hb : bn = 0
      · subst hb
        have hd := div_zero x y bd
        have HW : Hid (∀ W, Calls Try.prog 23 #[.agg #[.int .i64 x, .int .i64 y], .agg #[.int .i64 0, .int .i64 bd]] W (Res W (none))) := fun W => by have := impl_div x y 0 bd W; rw [hd] at this; exact this
        have z0 : ((0 : Int) == 0) = true := rfl
        clear hd ho
        go_wp2_with fail
        refine (HI.out _).mono ?_
        rintro e w2 ⟨rfl, hb2⟩
        obtain ⟨s2, k1, k2, k3, k4, hl2⟩ := box2 hb2
        have hbl2 := hbl1.trans (hl2.mono hbl1.size)
        have t5 : w1.heap.size < w2.heap.size := World.block_lt_of_cell? _ _ k1
        have t6 : w1.heap.size + 1 < w2.heap.size := World.block_lt_of_cell? _ _ k3
        clear hb2 hl2 hbl1
        go_wp2_with fail
        refine (HS.out _).mono ?_
        rintro e w3 ⟨rfl, hb3⟩
        have k7 := keep1 hb3 k1
        have k8 := keep1 hb3 k2
        have k9 := keep1 hb3 k3
        have k10 := keep1 hb3 k4
        obtain ⟨s3, k11, k12, hl3⟩ := new1 hb3
        have hbl3 := hbl2.trans (hl3.mono hbl2.size)
        have t13 : w1.heap.size < w3.heap.size := World.block_lt_of_cell? _ _ k7
        have t14 : w1.heap.size + 1 < w3.heap.size := World.block_lt_of_cell? _ _ k9
        have t15 : w2.heap.size < w3.heap.size := World.block_lt_of_cell? _ _ k11
        clear k1 k2 k3 k4 t5 t6 hb3 hl3 hbl2
        go_wp2_with fail
        refine (HW.out _).mono ?_
        rintro e w4 ⟨rfl, hb4⟩
        have k16 := keep1 hb4 k7
        have k17 := keep1 hb4 k8
        have k18 := keep1 hb4 k9
        have k19 := keep1 hb4 k10
        have k20 := keep1 hb4 k11
        have k21 := keep1 hb4 k12
        obtain ⟨s4, k22, k23, hl4⟩ := new1 hb4
        have hbl4 := hbl3.trans (hl4.mono hbl3.size)
        have t24 : w1.heap.size < w4.heap.size := World.block_lt_of_cell? _ _ k16
        have t25 : w1.heap.size + 1 < w4.heap.size := World.block_lt_of_cell? _ _ k18
        have t26 : w2.heap.size < w4.heap.size := World.block_lt_of_cell? _ _ k20
        have t27 : w3.heap.size < w4.heap.size := World.block_lt_of_cell? _ _ k22
        clear k7 k8 k9 k10 k11 k12 t13 t14 t15 hb4 hl4 hbl3
        go_wp2
        go_ret
        first | exact ⟨rfl, hbl4⟩ | exact ⟨rfl, hbl4.alloc hbl4.size _⟩ | exact ⟨rfl, (hbl4.alloc hbl4.size _).alloc (by have := hbl4.size; simp; omega) _⟩
      · have hd := mul_div ho hb
        have HW : Hid (∀ W, Calls Try.prog 23 #[.agg #[.int .i64 x, .int .i64 y], .agg #[.int .i64 bn, .int .i64 bd]] W (Res W (some (an, ad)))) := fun W => by have := impl_div x y bn bd W; rw [hd] at this; exact this
        have z0 : (bn == 0) = false := by simpa using hb
        clear hd ho hb
        go_wp2_with fail
        refine (HI.out _).mono ?_
        rintro e w2 ⟨rfl, hb2⟩
        obtain ⟨s2, k1, k2, k3, k4, hl2⟩ := box2 hb2
        have hbl2 := hbl1.trans (hl2.mono hbl1.size)
        have t5 : w1.heap.size < w2.heap.size := World.block_lt_of_cell? _ _ k1
        have t6 : w1.heap.size + 1 < w2.heap.size := World.block_lt_of_cell? _ _ k3
        clear hb2 hl2 hbl1
        go_wp2_with fail
        refine (HS.out _).mono ?_
        rintro e w3 ⟨rfl, hb3⟩
        have k7 := keep1 hb3 k1
        have k8 := keep1 hb3 k2
        have k9 := keep1 hb3 k3
        have k10 := keep1 hb3 k4
        obtain ⟨s3, k11, k12, hl3⟩ := new1 hb3
        have hbl3 := hbl2.trans (hl3.mono hbl2.size)
        have t13 : w1.heap.size < w3.heap.size := World.block_lt_of_cell? _ _ k7
        have t14 : w1.heap.size + 1 < w3.heap.size := World.block_lt_of_cell? _ _ k9
        have t15 : w2.heap.size < w3.heap.size := World.block_lt_of_cell? _ _ k11
        clear k1 k2 k3 k4 t5 t6 hb3 hl3 hbl2
        go_wp2_with fail
        refine (HW.out _).mono ?_
        rintro e w4 ⟨rfl, hb4⟩
        have k16 := keep1 hb4 k7
        have k17 := keep1 hb4 k8
        have k18 := keep1 hb4 k9
        have k19 := keep1 hb4 k10
        have k20 := keep1 hb4 k11
        have k21 := keep1 hb4 k12
        obtain ⟨s4, k22, k23, hl4⟩ := new1 hb4
        have hbl4 := hbl3.trans (hl4.mono hbl3.size)
        have t24 : w1.heap.size < w4.heap.size := World.block_lt_of_cell? _ _ k16
        have t25 : w1.heap.size + 1 < w4.heap.size := World.block_lt_of_cell? _ _ k18
        have t26 : w2.heap.size < w4.heap.size := World.block_lt_of_cell? _ _ k20
        have t27 : w3.heap.size < w4.heap.size := World.block_lt_of_cell? _ _ k22
        clear k7 k8 k9 k10 k11 k12 t13 t14 t15 hb4 hl4 hbl3
        go_wp2
        go_ret
        first | exact ⟨rfl, hbl4⟩ | exact ⟨rfl, hbl4.alloc hbl4.size _⟩ | exact ⟨rfl, (hbl4.alloc hbl4.size _).alloc (by have := hbl4.size; simp; omega) _⟩

set_option maxHeartbeats 2000000 in
theorem walk_FnRatAddThree (A : Option Addr) (n0 c0 : Nat) (w : World) (h : Code w.heap.size w A n0 c0) : Calls Try.prog 4 #[.slice A n0 c0] w (Holds w) := by
  have HO := Lib.hid (d_DrawRatAdd n0 c0 A w h)
  clear h
  go_enter Try.func4, Try.ntmps4
  go_wp2_with fail
  · go_ret
    exact ⟨rfl, Below.refl _ _⟩
  · refine HO.out.mono ?_
    rintro e w1 ⟨an, ad, bn, bd, ⟨an1, an2⟩, ⟨ad1, ad2⟩, ⟨bn1, bn2⟩, ⟨bd1, bd2⟩, rfl, hbl1⟩
    clear HO
    have HI : Hid (∀ W, Calls Try.prog 16 #[.agg #[.int .i64 an, .int .i64 ad], .agg #[.int .i64 bn, .int .i64 bd]] W (Res W (addR an ad bn bd))) := fun W => impl_add an ad bn bd W
    have HS : Hid (∀ W, Calls Try.prog 17 #[.agg #[.int .i64 an, .int .i64 ad], .agg #[.int .i64 bn, .int .i64 bd]] W (Res W (addR an ad bn bd))) := fun W => spec_add an ad bn bd W
    rcases ho : addR an ad bn bd with _ | ⟨x, y⟩
    · rw [ho] at HI HS
      clear ho
      go_wp2_with fail
      refine (HI.out _).mono ?_
      rintro e w2 ⟨rfl, hb2⟩
      obtain ⟨s2, k1, k2, k3, k4, hl2⟩ := box2 hb2
      have hbl2 := hbl1.trans (hl2.mono hbl1.size)
      have t5 : w1.heap.size < w2.heap.size := World.block_lt_of_cell? _ _ k1
      have t6 : w1.heap.size + 1 < w2.heap.size := World.block_lt_of_cell? _ _ k3
      clear hb2 hl2 hbl1
      go_wp2_with fail
      refine (HS.out _).mono ?_
      rintro e w3 ⟨rfl, hb3⟩
      have k7 := keep1 hb3 k1
      have k8 := keep1 hb3 k2
      have k9 := keep1 hb3 k3
      have k10 := keep1 hb3 k4
      obtain ⟨s3, k11, k12, hl3⟩ := new1 hb3
      have hbl3 := hbl2.trans (hl3.mono hbl2.size)
      have t13 : w1.heap.size < w3.heap.size := World.block_lt_of_cell? _ _ k7
      have t14 : w1.heap.size + 1 < w3.heap.size := World.block_lt_of_cell? _ _ k9
      have t15 : w2.heap.size < w3.heap.size := World.block_lt_of_cell? _ _ k11
      clear k1 k2 k3 k4 t5 t6 hb3 hl3 hbl2
      go_wp2
      go_ret
      first | exact ⟨rfl, hbl3⟩ | exact ⟨rfl, hbl3.alloc hbl3.size _⟩ | exact ⟨rfl, (hbl3.alloc hbl3.size _).alloc (by have := hbl3.size; simp; omega) _⟩
    · rw [ho] at HI HS
      have H1 : Hid (∀ W, Calls Try.prog 16 #[.agg #[.int .i64 x, .int .i64 y], .agg #[.int .i64 1, .int .i64 3]] W (Res W (addR x y 1 3))) := fun W => impl_add x y 1 3 W
      have H2 : Hid (∀ W, Calls Try.prog 16 #[.agg #[.int .i64 bn, .int .i64 bd], .agg #[.int .i64 1, .int .i64 3]] W (Res W (addR bn bd 1 3))) := fun W => impl_add bn bd 1 3 W
      rcases h1 : addR x y 1 3 with _ | ⟨p, q⟩ <;> rcases h2 : addR bn bd 1 3 with _ | ⟨u, v⟩
      · rw [h1] at H1
        rw [h2] at H2
        have H3 : Hid (∀ W, Calls Try.prog 16 #[.agg #[.int .i64 an, .int .i64 ad], .agg #[.int .i64 0, .int .i64 0]] W (Res W (addR an ad 0 0))) := fun W => impl_add an ad 0 0 W
        rcases h3 : addR an ad 0 0 with _ | ⟨r, t⟩
        · rw [h3] at H3
          clear h1 h2 h3 ho
          go_wp2_with fail
          refine (HI.out _).mono ?_
          rintro e w2 ⟨rfl, hb2⟩
          obtain ⟨s2, k1, k2, k3, k4, hl2⟩ := box2 hb2
          have hbl2 := hbl1.trans (hl2.mono hbl1.size)
          have t5 : w1.heap.size < w2.heap.size := World.block_lt_of_cell? _ _ k1
          have t6 : w1.heap.size + 1 < w2.heap.size := World.block_lt_of_cell? _ _ k3
          clear hb2 hl2 hbl1
          go_wp2_with fail
          refine (HS.out _).mono ?_
          rintro e w3 ⟨rfl, hb3⟩
          have k7 := keep1 hb3 k1
          have k8 := keep1 hb3 k2
          have k9 := keep1 hb3 k3
          have k10 := keep1 hb3 k4
          obtain ⟨s3, k11, k12, hl3⟩ := new1 hb3
          have hbl3 := hbl2.trans (hl3.mono hbl2.size)
          have t13 : w1.heap.size < w3.heap.size := World.block_lt_of_cell? _ _ k7
          have t14 : w1.heap.size + 1 < w3.heap.size := World.block_lt_of_cell? _ _ k9
          have t15 : w2.heap.size < w3.heap.size := World.block_lt_of_cell? _ _ k11
          clear k1 k2 k3 k4 t5 t6 hb3 hl3 hbl2
          go_wp2_with fail
          refine (H1.out _).mono ?_
          rintro e w4 ⟨rfl, hb4⟩
          have k16 := keep2 hb4 k7
          have k17 := keep2 hb4 k8
          have k18 := keep2 hb4 k9
          have k19 := keep2 hb4 k10
          have k20 := keep2 hb4 k11
          have k21 := keep2 hb4 k12
          obtain ⟨s4, k22, k23, k24, k25, hl4⟩ := box2 hb4
          have hbl4 := hbl3.trans (hl4.mono hbl3.size)
          have t26 : w1.heap.size < w4.heap.size := World.block_lt_of_cell? _ _ k16
          have t27 : w1.heap.size + 1 < w4.heap.size := World.block_lt_of_cell? _ _ k18
          have t28 : w2.heap.size < w4.heap.size := World.block_lt_of_cell? _ _ k20
          have t29 : w3.heap.size < w4.heap.size := World.block_lt_of_cell? _ _ k22
          have t30 : w3.heap.size + 1 < w4.heap.size := World.block_lt_of_cell? _ _ k24
          clear k7 k8 k9 k10 k11 k12 t13 t14 t15 hb4 hl4 hbl3
          go_wp2_with fail
          refine (H2.out _).mono ?_
          rintro e w5 ⟨rfl, hb5⟩
          have k31 := keep1 hb5 k16
          have k32 := keep1 hb5 k17
          have k33 := keep1 hb5 k18
          have k34 := keep1 hb5 k19
          have k35 := keep1 hb5 k20
          have k36 := keep1 hb5 k21
          have k37 := keep1 hb5 k22
          have k38 := keep1 hb5 k23
          have k39 := keep1 hb5 k24
          have k40 := keep1 hb5 k25
          obtain ⟨s5, k41, k42, hl5⟩ := new1 hb5
          have hbl5 := hbl4.trans (hl5.mono hbl4.size)
          have t43 : w1.heap.size < w5.heap.size := World.block_lt_of_cell? _ _ k31
          have t44 : w1.heap.size + 1 < w5.heap.size := World.block_lt_of_cell? _ _ k33
          have t45 : w2.heap.size < w5.heap.size := World.block_lt_of_cell? _ _ k35
          have t46 : w3.heap.size < w5.heap.size := World.block_lt_of_cell? _ _ k37
          have t47 : w3.heap.size + 1 < w5.heap.size := World.block_lt_of_cell? _ _ k39
          have t48 : w4.heap.size < w5.heap.size := World.block_lt_of_cell? _ _ k41
          clear k16 k17 k18 k19 k20 k21 k22 k23 k24 k25 t26 t27 t28 t29 t30 hb5 hl5 hbl4
          go_wp2_with fail
          refine (H3.out _).mono ?_
          rintro e w6 ⟨rfl, hb6⟩
          have k49 := keep1 hb6 k31
          have k50 := keep1 hb6 k32
          have k51 := keep1 hb6 k33
          have k52 := keep1 hb6 k34
          have k53 := keep1 hb6 k35
          have k54 := keep1 hb6 k36
          have k55 := keep1 hb6 k37
          have k56 := keep1 hb6 k38
          have k57 := keep1 hb6 k39
          have k58 := keep1 hb6 k40
          have k59 := keep1 hb6 k41
          have k60 := keep1 hb6 k42
          obtain ⟨s6, k61, k62, hl6⟩ := new1 hb6
          have hbl6 := hbl5.trans (hl6.mono hbl5.size)
          have t63 : w1.heap.size < w6.heap.size := World.block_lt_of_cell? _ _ k49
          have t64 : w1.heap.size + 1 < w6.heap.size := World.block_lt_of_cell? _ _ k51
          have t65 : w2.heap.size < w6.heap.size := World.block_lt_of_cell? _ _ k53
          have t66 : w3.heap.size < w6.heap.size := World.block_lt_of_cell? _ _ k55
          have t67 : w3.heap.size + 1 < w6.heap.size := World.block_lt_of_cell? _ _ k57
          have t68 : w4.heap.size < w6.heap.size := World.block_lt_of_cell? _ _ k59
          have t69 : w5.heap.size < w6.heap.size := World.block_lt_of_cell? _ _ k61
          clear k31 k32 k33 k34 k35 k36 k37 k38 k39 k40 k41 k42 t43 t44 t45 t46 t47 t48 hb6 hl6 hbl5
          go_wp2
          go_ret
          first | exact ⟨rfl, hbl6⟩ | exact ⟨rfl, hbl6.alloc hbl6.size _⟩ | exact ⟨rfl, (hbl6.alloc hbl6.size _).alloc (by have := hbl6.size; simp; omega) _⟩
        · rw [h3] at H3
          clear h1 h2 h3 ho
          go_wp2_with fail
          refine (HI.out _).mono ?_
          rintro e w2 ⟨rfl, hb2⟩
          obtain ⟨s2, k1, k2, k3, k4, hl2⟩ := box2 hb2
          have hbl2 := hbl1.trans (hl2.mono hbl1.size)
          have t5 : w1.heap.size < w2.heap.size := World.block_lt_of_cell? _ _ k1
          have t6 : w1.heap.size + 1 < w2.heap.size := World.block_lt_of_cell? _ _ k3
          clear hb2 hl2 hbl1
          go_wp2_with fail
          refine (HS.out _).mono ?_
          rintro e w3 ⟨rfl, hb3⟩
          have k7 := keep1 hb3 k1
          have k8 := keep1 hb3 k2
          have k9 := keep1 hb3 k3
          have k10 := keep1 hb3 k4
          obtain ⟨s3, k11, k12, hl3⟩ := new1 hb3
          have hbl3 := hbl2.trans (hl3.mono hbl2.size)
          have t13 : w1.heap.size < w3.heap.size := World.block_lt_of_cell? _ _ k7
          have t14 : w1.heap.size + 1 < w3.heap.size := World.block_lt_of_cell? _ _ k9
          have t15 : w2.heap.size < w3.heap.size := World.block_lt_of_cell? _ _ k11
          clear k1 k2 k3 k4 t5 t6 hb3 hl3 hbl2
          go_wp2_with fail
          refine (H1.out _).mono ?_
          rintro e w4 ⟨rfl, hb4⟩
          have k16 := keep2 hb4 k7
          have k17 := keep2 hb4 k8
          have k18 := keep2 hb4 k9
          have k19 := keep2 hb4 k10
          have k20 := keep2 hb4 k11
          have k21 := keep2 hb4 k12
          obtain ⟨s4, k22, k23, k24, k25, hl4⟩ := box2 hb4
          have hbl4 := hbl3.trans (hl4.mono hbl3.size)
          have t26 : w1.heap.size < w4.heap.size := World.block_lt_of_cell? _ _ k16
          have t27 : w1.heap.size + 1 < w4.heap.size := World.block_lt_of_cell? _ _ k18
          have t28 : w2.heap.size < w4.heap.size := World.block_lt_of_cell? _ _ k20
          have t29 : w3.heap.size < w4.heap.size := World.block_lt_of_cell? _ _ k22
          have t30 : w3.heap.size + 1 < w4.heap.size := World.block_lt_of_cell? _ _ k24
          clear k7 k8 k9 k10 k11 k12 t13 t14 t15 hb4 hl4 hbl3
          go_wp2_with fail
          refine (H2.out _).mono ?_
          rintro e w5 ⟨rfl, hb5⟩
          have k31 := keep1 hb5 k16
          have k32 := keep1 hb5 k17
          have k33 := keep1 hb5 k18
          have k34 := keep1 hb5 k19
          have k35 := keep1 hb5 k20
          have k36 := keep1 hb5 k21
          have k37 := keep1 hb5 k22
          have k38 := keep1 hb5 k23
          have k39 := keep1 hb5 k24
          have k40 := keep1 hb5 k25
          obtain ⟨s5, k41, k42, hl5⟩ := new1 hb5
          have hbl5 := hbl4.trans (hl5.mono hbl4.size)
          have t43 : w1.heap.size < w5.heap.size := World.block_lt_of_cell? _ _ k31
          have t44 : w1.heap.size + 1 < w5.heap.size := World.block_lt_of_cell? _ _ k33
          have t45 : w2.heap.size < w5.heap.size := World.block_lt_of_cell? _ _ k35
          have t46 : w3.heap.size < w5.heap.size := World.block_lt_of_cell? _ _ k37
          have t47 : w3.heap.size + 1 < w5.heap.size := World.block_lt_of_cell? _ _ k39
          have t48 : w4.heap.size < w5.heap.size := World.block_lt_of_cell? _ _ k41
          clear k16 k17 k18 k19 k20 k21 k22 k23 k24 k25 t26 t27 t28 t29 t30 hb5 hl5 hbl4
          go_wp2_with fail
          refine (H3.out _).mono ?_
          rintro e w6 ⟨rfl, hb6⟩
          have k49 := keep1 hb6 k31
          have k50 := keep1 hb6 k32
          have k51 := keep1 hb6 k33
          have k52 := keep1 hb6 k34
          have k53 := keep1 hb6 k35
          have k54 := keep1 hb6 k36
          have k55 := keep1 hb6 k37
          have k56 := keep1 hb6 k38
          have k57 := keep1 hb6 k39
          have k58 := keep1 hb6 k40
          have k59 := keep1 hb6 k41
          have k60 := keep1 hb6 k42
          obtain ⟨s6, k61, k62, hl6⟩ := new1 hb6
          have hbl6 := hbl5.trans (hl6.mono hbl5.size)
          have t63 : w1.heap.size < w6.heap.size := World.block_lt_of_cell? _ _ k49
          have t64 : w1.heap.size + 1 < w6.heap.size := World.block_lt_of_cell? _ _ k51
          have t65 : w2.heap.size < w6.heap.size := World.block_lt_of_cell? _ _ k53
          have t66 : w3.heap.size < w6.heap.size := World.block_lt_of_cell? _ _ k55
          have t67 : w3.heap.size + 1 < w6.heap.size := World.block_lt_of_cell? _ _ k57
          have t68 : w4.heap.size < w6.heap.size := World.block_lt_of_cell? _ _ k59
          have t69 : w5.heap.size < w6.heap.size := World.block_lt_of_cell? _ _ k61
          clear k31 k32 k33 k34 k35 k36 k37 k38 k39 k40 k41 k42 t43 t44 t45 t46 t47 t48 hb6 hl6 hbl5
          go_wp2
          go_ret
          first | exact ⟨rfl, hbl6⟩ | exact ⟨rfl, hbl6.alloc hbl6.size _⟩ | exact ⟨rfl, (hbl6.alloc hbl6.size _).alloc (by have := hbl6.size; simp; omega) _⟩
      · rw [h1] at H1
        rw [h2] at H2
        have H3 : Hid (∀ W, Calls Try.prog 16 #[.agg #[.int .i64 an, .int .i64 ad], .agg #[.int .i64 u, .int .i64 v]] W (Res W (addR an ad u v))) := fun W => impl_add an ad u v W
        rcases h3 : addR an ad u v with _ | ⟨r, t⟩
        · rw [h3] at H3
          clear h1 h2 h3 ho
          go_wp2_with fail
          refine (HI.out _).mono ?_
          rintro e w2 ⟨rfl, hb2⟩
          obtain ⟨s2, k1, k2, k3, k4, hl2⟩ := box2 hb2
          have hbl2 := hbl1.trans (hl2.mono hbl1.size)
          have t5 : w1.heap.size < w2.heap.size := World.block_lt_of_cell? _ _ k1
          have t6 : w1.heap.size + 1 < w2.heap.size := World.block_lt_of_cell? _ _ k3
          clear hb2 hl2 hbl1
          go_wp2_with fail
          refine (HS.out _).mono ?_
          rintro e w3 ⟨rfl, hb3⟩
          have k7 := keep1 hb3 k1
          have k8 := keep1 hb3 k2
          have k9 := keep1 hb3 k3
          have k10 := keep1 hb3 k4
          obtain ⟨s3, k11, k12, hl3⟩ := new1 hb3
          have hbl3 := hbl2.trans (hl3.mono hbl2.size)
          have t13 : w1.heap.size < w3.heap.size := World.block_lt_of_cell? _ _ k7
          have t14 : w1.heap.size + 1 < w3.heap.size := World.block_lt_of_cell? _ _ k9
          have t15 : w2.heap.size < w3.heap.size := World.block_lt_of_cell? _ _ k11
          clear k1 k2 k3 k4 t5 t6 hb3 hl3 hbl2
          go_wp2_with fail
          refine (H1.out _).mono ?_
          rintro e w4 ⟨rfl, hb4⟩
          have k16 := keep2 hb4 k7
          have k17 := keep2 hb4 k8
          have k18 := keep2 hb4 k9
          have k19 := keep2 hb4 k10
          have k20 := keep2 hb4 k11
          have k21 := keep2 hb4 k12
          obtain ⟨s4, k22, k23, k24, k25, hl4⟩ := box2 hb4
          have hbl4 := hbl3.trans (hl4.mono hbl3.size)
          have t26 : w1.heap.size < w4.heap.size := World.block_lt_of_cell? _ _ k16
          have t27 : w1.heap.size + 1 < w4.heap.size := World.block_lt_of_cell? _ _ k18
          have t28 : w2.heap.size < w4.heap.size := World.block_lt_of_cell? _ _ k20
          have t29 : w3.heap.size < w4.heap.size := World.block_lt_of_cell? _ _ k22
          have t30 : w3.heap.size + 1 < w4.heap.size := World.block_lt_of_cell? _ _ k24
          clear k7 k8 k9 k10 k11 k12 t13 t14 t15 hb4 hl4 hbl3
          go_wp2_with fail
          refine (H2.out _).mono ?_
          rintro e w5 ⟨rfl, hb5⟩
          have k31 := keep1 hb5 k16
          have k32 := keep1 hb5 k17
          have k33 := keep1 hb5 k18
          have k34 := keep1 hb5 k19
          have k35 := keep1 hb5 k20
          have k36 := keep1 hb5 k21
          have k37 := keep1 hb5 k22
          have k38 := keep1 hb5 k23
          have k39 := keep1 hb5 k24
          have k40 := keep1 hb5 k25
          obtain ⟨s5, k41, k42, hl5⟩ := new1 hb5
          have hbl5 := hbl4.trans (hl5.mono hbl4.size)
          have t43 : w1.heap.size < w5.heap.size := World.block_lt_of_cell? _ _ k31
          have t44 : w1.heap.size + 1 < w5.heap.size := World.block_lt_of_cell? _ _ k33
          have t45 : w2.heap.size < w5.heap.size := World.block_lt_of_cell? _ _ k35
          have t46 : w3.heap.size < w5.heap.size := World.block_lt_of_cell? _ _ k37
          have t47 : w3.heap.size + 1 < w5.heap.size := World.block_lt_of_cell? _ _ k39
          have t48 : w4.heap.size < w5.heap.size := World.block_lt_of_cell? _ _ k41
          clear k16 k17 k18 k19 k20 k21 k22 k23 k24 k25 t26 t27 t28 t29 t30 hb5 hl5 hbl4
          go_wp2_with fail
          refine (H3.out _).mono ?_
          rintro e w6 ⟨rfl, hb6⟩
          have k49 := keep1 hb6 k31
          have k50 := keep1 hb6 k32
          have k51 := keep1 hb6 k33
          have k52 := keep1 hb6 k34
          have k53 := keep1 hb6 k35
          have k54 := keep1 hb6 k36
          have k55 := keep1 hb6 k37
          have k56 := keep1 hb6 k38
          have k57 := keep1 hb6 k39
          have k58 := keep1 hb6 k40
          have k59 := keep1 hb6 k41
          have k60 := keep1 hb6 k42
          obtain ⟨s6, k61, k62, hl6⟩ := new1 hb6
          have hbl6 := hbl5.trans (hl6.mono hbl5.size)
          have t63 : w1.heap.size < w6.heap.size := World.block_lt_of_cell? _ _ k49
          have t64 : w1.heap.size + 1 < w6.heap.size := World.block_lt_of_cell? _ _ k51
          have t65 : w2.heap.size < w6.heap.size := World.block_lt_of_cell? _ _ k53
          have t66 : w3.heap.size < w6.heap.size := World.block_lt_of_cell? _ _ k55
          have t67 : w3.heap.size + 1 < w6.heap.size := World.block_lt_of_cell? _ _ k57
          have t68 : w4.heap.size < w6.heap.size := World.block_lt_of_cell? _ _ k59
          have t69 : w5.heap.size < w6.heap.size := World.block_lt_of_cell? _ _ k61
          clear k31 k32 k33 k34 k35 k36 k37 k38 k39 k40 k41 k42 t43 t44 t45 t46 t47 t48 hb6 hl6 hbl5
          go_wp2
          go_ret
          first | exact ⟨rfl, hbl6⟩ | exact ⟨rfl, hbl6.alloc hbl6.size _⟩ | exact ⟨rfl, (hbl6.alloc hbl6.size _).alloc (by have := hbl6.size; simp; omega) _⟩
        · rw [h3] at H3
          clear h1 h2 h3 ho
          go_wp2_with fail
          refine (HI.out _).mono ?_
          rintro e w2 ⟨rfl, hb2⟩
          obtain ⟨s2, k1, k2, k3, k4, hl2⟩ := box2 hb2
          have hbl2 := hbl1.trans (hl2.mono hbl1.size)
          have t5 : w1.heap.size < w2.heap.size := World.block_lt_of_cell? _ _ k1
          have t6 : w1.heap.size + 1 < w2.heap.size := World.block_lt_of_cell? _ _ k3
          clear hb2 hl2 hbl1
          go_wp2_with fail
          refine (HS.out _).mono ?_
          rintro e w3 ⟨rfl, hb3⟩
          have k7 := keep1 hb3 k1
          have k8 := keep1 hb3 k2
          have k9 := keep1 hb3 k3
          have k10 := keep1 hb3 k4
          obtain ⟨s3, k11, k12, hl3⟩ := new1 hb3
          have hbl3 := hbl2.trans (hl3.mono hbl2.size)
          have t13 : w1.heap.size < w3.heap.size := World.block_lt_of_cell? _ _ k7
          have t14 : w1.heap.size + 1 < w3.heap.size := World.block_lt_of_cell? _ _ k9
          have t15 : w2.heap.size < w3.heap.size := World.block_lt_of_cell? _ _ k11
          clear k1 k2 k3 k4 t5 t6 hb3 hl3 hbl2
          go_wp2_with fail
          refine (H1.out _).mono ?_
          rintro e w4 ⟨rfl, hb4⟩
          have k16 := keep2 hb4 k7
          have k17 := keep2 hb4 k8
          have k18 := keep2 hb4 k9
          have k19 := keep2 hb4 k10
          have k20 := keep2 hb4 k11
          have k21 := keep2 hb4 k12
          obtain ⟨s4, k22, k23, k24, k25, hl4⟩ := box2 hb4
          have hbl4 := hbl3.trans (hl4.mono hbl3.size)
          have t26 : w1.heap.size < w4.heap.size := World.block_lt_of_cell? _ _ k16
          have t27 : w1.heap.size + 1 < w4.heap.size := World.block_lt_of_cell? _ _ k18
          have t28 : w2.heap.size < w4.heap.size := World.block_lt_of_cell? _ _ k20
          have t29 : w3.heap.size < w4.heap.size := World.block_lt_of_cell? _ _ k22
          have t30 : w3.heap.size + 1 < w4.heap.size := World.block_lt_of_cell? _ _ k24
          clear k7 k8 k9 k10 k11 k12 t13 t14 t15 hb4 hl4 hbl3
          go_wp2_with fail
          refine (H2.out _).mono ?_
          rintro e w5 ⟨rfl, hb5⟩
          have k31 := keep1 hb5 k16
          have k32 := keep1 hb5 k17
          have k33 := keep1 hb5 k18
          have k34 := keep1 hb5 k19
          have k35 := keep1 hb5 k20
          have k36 := keep1 hb5 k21
          have k37 := keep1 hb5 k22
          have k38 := keep1 hb5 k23
          have k39 := keep1 hb5 k24
          have k40 := keep1 hb5 k25
          obtain ⟨s5, k41, k42, hl5⟩ := new1 hb5
          have hbl5 := hbl4.trans (hl5.mono hbl4.size)
          have t43 : w1.heap.size < w5.heap.size := World.block_lt_of_cell? _ _ k31
          have t44 : w1.heap.size + 1 < w5.heap.size := World.block_lt_of_cell? _ _ k33
          have t45 : w2.heap.size < w5.heap.size := World.block_lt_of_cell? _ _ k35
          have t46 : w3.heap.size < w5.heap.size := World.block_lt_of_cell? _ _ k37
          have t47 : w3.heap.size + 1 < w5.heap.size := World.block_lt_of_cell? _ _ k39
          have t48 : w4.heap.size < w5.heap.size := World.block_lt_of_cell? _ _ k41
          clear k16 k17 k18 k19 k20 k21 k22 k23 k24 k25 t26 t27 t28 t29 t30 hb5 hl5 hbl4
          go_wp2_with fail
          refine (H3.out _).mono ?_
          rintro e w6 ⟨rfl, hb6⟩
          have k49 := keep1 hb6 k31
          have k50 := keep1 hb6 k32
          have k51 := keep1 hb6 k33
          have k52 := keep1 hb6 k34
          have k53 := keep1 hb6 k35
          have k54 := keep1 hb6 k36
          have k55 := keep1 hb6 k37
          have k56 := keep1 hb6 k38
          have k57 := keep1 hb6 k39
          have k58 := keep1 hb6 k40
          have k59 := keep1 hb6 k41
          have k60 := keep1 hb6 k42
          obtain ⟨s6, k61, k62, hl6⟩ := new1 hb6
          have hbl6 := hbl5.trans (hl6.mono hbl5.size)
          have t63 : w1.heap.size < w6.heap.size := World.block_lt_of_cell? _ _ k49
          have t64 : w1.heap.size + 1 < w6.heap.size := World.block_lt_of_cell? _ _ k51
          have t65 : w2.heap.size < w6.heap.size := World.block_lt_of_cell? _ _ k53
          have t66 : w3.heap.size < w6.heap.size := World.block_lt_of_cell? _ _ k55
          have t67 : w3.heap.size + 1 < w6.heap.size := World.block_lt_of_cell? _ _ k57
          have t68 : w4.heap.size < w6.heap.size := World.block_lt_of_cell? _ _ k59
          have t69 : w5.heap.size < w6.heap.size := World.block_lt_of_cell? _ _ k61
          clear k31 k32 k33 k34 k35 k36 k37 k38 k39 k40 k41 k42 t43 t44 t45 t46 t47 t48 hb6 hl6 hbl5
          go_wp2
          go_ret
          first | exact ⟨rfl, hbl6⟩ | exact ⟨rfl, hbl6.alloc hbl6.size _⟩ | exact ⟨rfl, (hbl6.alloc hbl6.size _).alloc (by have := hbl6.size; simp; omega) _⟩
      · rw [h1] at H1
        rw [h2] at H2
        have H3 : Hid (∀ W, Calls Try.prog 16 #[.agg #[.int .i64 an, .int .i64 ad], .agg #[.int .i64 0, .int .i64 0]] W (Res W (addR an ad 0 0))) := fun W => impl_add an ad 0 0 W
        rcases h3 : addR an ad 0 0 with _ | ⟨r, t⟩
        · rw [h3] at H3
          clear h1 h2 h3 ho
          go_wp2_with fail
          refine (HI.out _).mono ?_
          rintro e w2 ⟨rfl, hb2⟩
          obtain ⟨s2, k1, k2, k3, k4, hl2⟩ := box2 hb2
          have hbl2 := hbl1.trans (hl2.mono hbl1.size)
          have t5 : w1.heap.size < w2.heap.size := World.block_lt_of_cell? _ _ k1
          have t6 : w1.heap.size + 1 < w2.heap.size := World.block_lt_of_cell? _ _ k3
          clear hb2 hl2 hbl1
          go_wp2_with fail
          refine (HS.out _).mono ?_
          rintro e w3 ⟨rfl, hb3⟩
          have k7 := keep1 hb3 k1
          have k8 := keep1 hb3 k2
          have k9 := keep1 hb3 k3
          have k10 := keep1 hb3 k4
          obtain ⟨s3, k11, k12, hl3⟩ := new1 hb3
          have hbl3 := hbl2.trans (hl3.mono hbl2.size)
          have t13 : w1.heap.size < w3.heap.size := World.block_lt_of_cell? _ _ k7
          have t14 : w1.heap.size + 1 < w3.heap.size := World.block_lt_of_cell? _ _ k9
          have t15 : w2.heap.size < w3.heap.size := World.block_lt_of_cell? _ _ k11
          clear k1 k2 k3 k4 t5 t6 hb3 hl3 hbl2
          go_wp2_with fail
          refine (H1.out _).mono ?_
          rintro e w4 ⟨rfl, hb4⟩
          have k16 := keep2 hb4 k7
          have k17 := keep2 hb4 k8
          have k18 := keep2 hb4 k9
          have k19 := keep2 hb4 k10
          have k20 := keep2 hb4 k11
          have k21 := keep2 hb4 k12
          obtain ⟨s4, k22, k23, k24, k25, hl4⟩ := box2 hb4
          have hbl4 := hbl3.trans (hl4.mono hbl3.size)
          have t26 : w1.heap.size < w4.heap.size := World.block_lt_of_cell? _ _ k16
          have t27 : w1.heap.size + 1 < w4.heap.size := World.block_lt_of_cell? _ _ k18
          have t28 : w2.heap.size < w4.heap.size := World.block_lt_of_cell? _ _ k20
          have t29 : w3.heap.size < w4.heap.size := World.block_lt_of_cell? _ _ k22
          have t30 : w3.heap.size + 1 < w4.heap.size := World.block_lt_of_cell? _ _ k24
          clear k7 k8 k9 k10 k11 k12 t13 t14 t15 hb4 hl4 hbl3
          go_wp2_with fail
          refine (H2.out _).mono ?_
          rintro e w5 ⟨rfl, hb5⟩
          have k31 := keep1 hb5 k16
          have k32 := keep1 hb5 k17
          have k33 := keep1 hb5 k18
          have k34 := keep1 hb5 k19
          have k35 := keep1 hb5 k20
          have k36 := keep1 hb5 k21
          have k37 := keep1 hb5 k22
          have k38 := keep1 hb5 k23
          have k39 := keep1 hb5 k24
          have k40 := keep1 hb5 k25
          obtain ⟨s5, k41, k42, hl5⟩ := new1 hb5
          have hbl5 := hbl4.trans (hl5.mono hbl4.size)
          have t43 : w1.heap.size < w5.heap.size := World.block_lt_of_cell? _ _ k31
          have t44 : w1.heap.size + 1 < w5.heap.size := World.block_lt_of_cell? _ _ k33
          have t45 : w2.heap.size < w5.heap.size := World.block_lt_of_cell? _ _ k35
          have t46 : w3.heap.size < w5.heap.size := World.block_lt_of_cell? _ _ k37
          have t47 : w3.heap.size + 1 < w5.heap.size := World.block_lt_of_cell? _ _ k39
          have t48 : w4.heap.size < w5.heap.size := World.block_lt_of_cell? _ _ k41
          clear k16 k17 k18 k19 k20 k21 k22 k23 k24 k25 t26 t27 t28 t29 t30 hb5 hl5 hbl4
          go_wp2_with fail
          refine (H3.out _).mono ?_
          rintro e w6 ⟨rfl, hb6⟩
          have k49 := keep1 hb6 k31
          have k50 := keep1 hb6 k32
          have k51 := keep1 hb6 k33
          have k52 := keep1 hb6 k34
          have k53 := keep1 hb6 k35
          have k54 := keep1 hb6 k36
          have k55 := keep1 hb6 k37
          have k56 := keep1 hb6 k38
          have k57 := keep1 hb6 k39
          have k58 := keep1 hb6 k40
          have k59 := keep1 hb6 k41
          have k60 := keep1 hb6 k42
          obtain ⟨s6, k61, k62, hl6⟩ := new1 hb6
          have hbl6 := hbl5.trans (hl6.mono hbl5.size)
          have t63 : w1.heap.size < w6.heap.size := World.block_lt_of_cell? _ _ k49
          have t64 : w1.heap.size + 1 < w6.heap.size := World.block_lt_of_cell? _ _ k51
          have t65 : w2.heap.size < w6.heap.size := World.block_lt_of_cell? _ _ k53
          have t66 : w3.heap.size < w6.heap.size := World.block_lt_of_cell? _ _ k55
          have t67 : w3.heap.size + 1 < w6.heap.size := World.block_lt_of_cell? _ _ k57
          have t68 : w4.heap.size < w6.heap.size := World.block_lt_of_cell? _ _ k59
          have t69 : w5.heap.size < w6.heap.size := World.block_lt_of_cell? _ _ k61
          clear k31 k32 k33 k34 k35 k36 k37 k38 k39 k40 k41 k42 t43 t44 t45 t46 t47 t48 hb6 hl6 hbl5
          go_wp2
          go_ret
          first | exact ⟨rfl, hbl6⟩ | exact ⟨rfl, hbl6.alloc hbl6.size _⟩ | exact ⟨rfl, (hbl6.alloc hbl6.size _).alloc (by have := hbl6.size; simp; omega) _⟩
        · rw [h3] at H3
          clear h1 h2 h3 ho
          go_wp2_with fail
          refine (HI.out _).mono ?_
          rintro e w2 ⟨rfl, hb2⟩
          obtain ⟨s2, k1, k2, k3, k4, hl2⟩ := box2 hb2
          have hbl2 := hbl1.trans (hl2.mono hbl1.size)
          have t5 : w1.heap.size < w2.heap.size := World.block_lt_of_cell? _ _ k1
          have t6 : w1.heap.size + 1 < w2.heap.size := World.block_lt_of_cell? _ _ k3
          clear hb2 hl2 hbl1
          go_wp2_with fail
          refine (HS.out _).mono ?_
          rintro e w3 ⟨rfl, hb3⟩
          have k7 := keep1 hb3 k1
          have k8 := keep1 hb3 k2
          have k9 := keep1 hb3 k3
          have k10 := keep1 hb3 k4
          obtain ⟨s3, k11, k12, hl3⟩ := new1 hb3
          have hbl3 := hbl2.trans (hl3.mono hbl2.size)
          have t13 : w1.heap.size < w3.heap.size := World.block_lt_of_cell? _ _ k7
          have t14 : w1.heap.size + 1 < w3.heap.size := World.block_lt_of_cell? _ _ k9
          have t15 : w2.heap.size < w3.heap.size := World.block_lt_of_cell? _ _ k11
          clear k1 k2 k3 k4 t5 t6 hb3 hl3 hbl2
          go_wp2_with fail
          refine (H1.out _).mono ?_
          rintro e w4 ⟨rfl, hb4⟩
          have k16 := keep2 hb4 k7
          have k17 := keep2 hb4 k8
          have k18 := keep2 hb4 k9
          have k19 := keep2 hb4 k10
          have k20 := keep2 hb4 k11
          have k21 := keep2 hb4 k12
          obtain ⟨s4, k22, k23, k24, k25, hl4⟩ := box2 hb4
          have hbl4 := hbl3.trans (hl4.mono hbl3.size)
          have t26 : w1.heap.size < w4.heap.size := World.block_lt_of_cell? _ _ k16
          have t27 : w1.heap.size + 1 < w4.heap.size := World.block_lt_of_cell? _ _ k18
          have t28 : w2.heap.size < w4.heap.size := World.block_lt_of_cell? _ _ k20
          have t29 : w3.heap.size < w4.heap.size := World.block_lt_of_cell? _ _ k22
          have t30 : w3.heap.size + 1 < w4.heap.size := World.block_lt_of_cell? _ _ k24
          clear k7 k8 k9 k10 k11 k12 t13 t14 t15 hb4 hl4 hbl3
          go_wp2_with fail
          refine (H2.out _).mono ?_
          rintro e w5 ⟨rfl, hb5⟩
          have k31 := keep1 hb5 k16
          have k32 := keep1 hb5 k17
          have k33 := keep1 hb5 k18
          have k34 := keep1 hb5 k19
          have k35 := keep1 hb5 k20
          have k36 := keep1 hb5 k21
          have k37 := keep1 hb5 k22
          have k38 := keep1 hb5 k23
          have k39 := keep1 hb5 k24
          have k40 := keep1 hb5 k25
          obtain ⟨s5, k41, k42, hl5⟩ := new1 hb5
          have hbl5 := hbl4.trans (hl5.mono hbl4.size)
          have t43 : w1.heap.size < w5.heap.size := World.block_lt_of_cell? _ _ k31
          have t44 : w1.heap.size + 1 < w5.heap.size := World.block_lt_of_cell? _ _ k33
          have t45 : w2.heap.size < w5.heap.size := World.block_lt_of_cell? _ _ k35
          have t46 : w3.heap.size < w5.heap.size := World.block_lt_of_cell? _ _ k37
          have t47 : w3.heap.size + 1 < w5.heap.size := World.block_lt_of_cell? _ _ k39
          have t48 : w4.heap.size < w5.heap.size := World.block_lt_of_cell? _ _ k41
          clear k16 k17 k18 k19 k20 k21 k22 k23 k24 k25 t26 t27 t28 t29 t30 hb5 hl5 hbl4
          go_wp2_with fail
          refine (H3.out _).mono ?_
          rintro e w6 ⟨rfl, hb6⟩
          have k49 := keep1 hb6 k31
          have k50 := keep1 hb6 k32
          have k51 := keep1 hb6 k33
          have k52 := keep1 hb6 k34
          have k53 := keep1 hb6 k35
          have k54 := keep1 hb6 k36
          have k55 := keep1 hb6 k37
          have k56 := keep1 hb6 k38
          have k57 := keep1 hb6 k39
          have k58 := keep1 hb6 k40
          have k59 := keep1 hb6 k41
          have k60 := keep1 hb6 k42
          obtain ⟨s6, k61, k62, hl6⟩ := new1 hb6
          have hbl6 := hbl5.trans (hl6.mono hbl5.size)
          have t63 : w1.heap.size < w6.heap.size := World.block_lt_of_cell? _ _ k49
          have t64 : w1.heap.size + 1 < w6.heap.size := World.block_lt_of_cell? _ _ k51
          have t65 : w2.heap.size < w6.heap.size := World.block_lt_of_cell? _ _ k53
          have t66 : w3.heap.size < w6.heap.size := World.block_lt_of_cell? _ _ k55
          have t67 : w3.heap.size + 1 < w6.heap.size := World.block_lt_of_cell? _ _ k57
          have t68 : w4.heap.size < w6.heap.size := World.block_lt_of_cell? _ _ k59
          have t69 : w5.heap.size < w6.heap.size := World.block_lt_of_cell? _ _ k61
          clear k31 k32 k33 k34 k35 k36 k37 k38 k39 k40 k41 k42 t43 t44 t45 t46 t47 t48 hb6 hl6 hbl5
          go_wp2
          go_ret
          first | exact ⟨rfl, hbl6⟩ | exact ⟨rfl, hbl6.alloc hbl6.size _⟩ | exact ⟨rfl, (hbl6.alloc hbl6.size _).alloc (by have := hbl6.size; simp; omega) _⟩
      · rw [h1] at H1
        rw [h2] at H2
        have H3 : Hid (∀ W, Calls Try.prog 16 #[.agg #[.int .i64 an, .int .i64 ad], .agg #[.int .i64 u, .int .i64 v]] W (Res W (addR an ad u v))) := fun W => impl_add an ad u v W
        rcases h3 : addR an ad u v with _ | ⟨r, t⟩
        · rw [h3] at H3
          clear h1 h2 h3 ho
          go_wp2_with fail
          refine (HI.out _).mono ?_
          rintro e w2 ⟨rfl, hb2⟩
          obtain ⟨s2, k1, k2, k3, k4, hl2⟩ := box2 hb2
          have hbl2 := hbl1.trans (hl2.mono hbl1.size)
          have t5 : w1.heap.size < w2.heap.size := World.block_lt_of_cell? _ _ k1
          have t6 : w1.heap.size + 1 < w2.heap.size := World.block_lt_of_cell? _ _ k3
          clear hb2 hl2 hbl1
          go_wp2_with fail
          refine (HS.out _).mono ?_
          rintro e w3 ⟨rfl, hb3⟩
          have k7 := keep1 hb3 k1
          have k8 := keep1 hb3 k2
          have k9 := keep1 hb3 k3
          have k10 := keep1 hb3 k4
          obtain ⟨s3, k11, k12, hl3⟩ := new1 hb3
          have hbl3 := hbl2.trans (hl3.mono hbl2.size)
          have t13 : w1.heap.size < w3.heap.size := World.block_lt_of_cell? _ _ k7
          have t14 : w1.heap.size + 1 < w3.heap.size := World.block_lt_of_cell? _ _ k9
          have t15 : w2.heap.size < w3.heap.size := World.block_lt_of_cell? _ _ k11
          clear k1 k2 k3 k4 t5 t6 hb3 hl3 hbl2
          go_wp2_with fail
          refine (H1.out _).mono ?_
          rintro e w4 ⟨rfl, hb4⟩
          have k16 := keep2 hb4 k7
          have k17 := keep2 hb4 k8
          have k18 := keep2 hb4 k9
          have k19 := keep2 hb4 k10
          have k20 := keep2 hb4 k11
          have k21 := keep2 hb4 k12
          obtain ⟨s4, k22, k23, k24, k25, hl4⟩ := box2 hb4
          have hbl4 := hbl3.trans (hl4.mono hbl3.size)
          have t26 : w1.heap.size < w4.heap.size := World.block_lt_of_cell? _ _ k16
          have t27 : w1.heap.size + 1 < w4.heap.size := World.block_lt_of_cell? _ _ k18
          have t28 : w2.heap.size < w4.heap.size := World.block_lt_of_cell? _ _ k20
          have t29 : w3.heap.size < w4.heap.size := World.block_lt_of_cell? _ _ k22
          have t30 : w3.heap.size + 1 < w4.heap.size := World.block_lt_of_cell? _ _ k24
          clear k7 k8 k9 k10 k11 k12 t13 t14 t15 hb4 hl4 hbl3
          go_wp2_with fail
          refine (H2.out _).mono ?_
          rintro e w5 ⟨rfl, hb5⟩
          have k31 := keep1 hb5 k16
          have k32 := keep1 hb5 k17
          have k33 := keep1 hb5 k18
          have k34 := keep1 hb5 k19
          have k35 := keep1 hb5 k20
          have k36 := keep1 hb5 k21
          have k37 := keep1 hb5 k22
          have k38 := keep1 hb5 k23
          have k39 := keep1 hb5 k24
          have k40 := keep1 hb5 k25
          obtain ⟨s5, k41, k42, hl5⟩ := new1 hb5
          have hbl5 := hbl4.trans (hl5.mono hbl4.size)
          have t43 : w1.heap.size < w5.heap.size := World.block_lt_of_cell? _ _ k31
          have t44 : w1.heap.size + 1 < w5.heap.size := World.block_lt_of_cell? _ _ k33
          have t45 : w2.heap.size < w5.heap.size := World.block_lt_of_cell? _ _ k35
          have t46 : w3.heap.size < w5.heap.size := World.block_lt_of_cell? _ _ k37
          have t47 : w3.heap.size + 1 < w5.heap.size := World.block_lt_of_cell? _ _ k39
          have t48 : w4.heap.size < w5.heap.size := World.block_lt_of_cell? _ _ k41
          clear k16 k17 k18 k19 k20 k21 k22 k23 k24 k25 t26 t27 t28 t29 t30 hb5 hl5 hbl4
          go_wp2_with fail
          refine (H3.out _).mono ?_
          rintro e w6 ⟨rfl, hb6⟩
          have k49 := keep1 hb6 k31
          have k50 := keep1 hb6 k32
          have k51 := keep1 hb6 k33
          have k52 := keep1 hb6 k34
          have k53 := keep1 hb6 k35
          have k54 := keep1 hb6 k36
          have k55 := keep1 hb6 k37
          have k56 := keep1 hb6 k38
          have k57 := keep1 hb6 k39
          have k58 := keep1 hb6 k40
          have k59 := keep1 hb6 k41
          have k60 := keep1 hb6 k42
          obtain ⟨s6, k61, k62, hl6⟩ := new1 hb6
          have hbl6 := hbl5.trans (hl6.mono hbl5.size)
          have t63 : w1.heap.size < w6.heap.size := World.block_lt_of_cell? _ _ k49
          have t64 : w1.heap.size + 1 < w6.heap.size := World.block_lt_of_cell? _ _ k51
          have t65 : w2.heap.size < w6.heap.size := World.block_lt_of_cell? _ _ k53
          have t66 : w3.heap.size < w6.heap.size := World.block_lt_of_cell? _ _ k55
          have t67 : w3.heap.size + 1 < w6.heap.size := World.block_lt_of_cell? _ _ k57
          have t68 : w4.heap.size < w6.heap.size := World.block_lt_of_cell? _ _ k59
          have t69 : w5.heap.size < w6.heap.size := World.block_lt_of_cell? _ _ k61
          clear k31 k32 k33 k34 k35 k36 k37 k38 k39 k40 k41 k42 t43 t44 t45 t46 t47 t48 hb6 hl6 hbl5
          go_wp2
          go_ret
          first | exact ⟨rfl, hbl6⟩ | exact ⟨rfl, hbl6.alloc hbl6.size _⟩ | exact ⟨rfl, (hbl6.alloc hbl6.size _).alloc (by have := hbl6.size; simp; omega) _⟩
        · rw [h3] at H3
          obtain ⟨rfl, rfl⟩ := add_three ho h1 h2 h3
          clear h1 h2 h3 ho
          go_wp2_with fail
          refine (HI.out _).mono ?_
          rintro e w2 ⟨rfl, hb2⟩
          obtain ⟨s2, k1, k2, k3, k4, hl2⟩ := box2 hb2
          have hbl2 := hbl1.trans (hl2.mono hbl1.size)
          have t5 : w1.heap.size < w2.heap.size := World.block_lt_of_cell? _ _ k1
          have t6 : w1.heap.size + 1 < w2.heap.size := World.block_lt_of_cell? _ _ k3
          clear hb2 hl2 hbl1
          go_wp2_with fail
          refine (HS.out _).mono ?_
          rintro e w3 ⟨rfl, hb3⟩
          have k7 := keep1 hb3 k1
          have k8 := keep1 hb3 k2
          have k9 := keep1 hb3 k3
          have k10 := keep1 hb3 k4
          obtain ⟨s3, k11, k12, hl3⟩ := new1 hb3
          have hbl3 := hbl2.trans (hl3.mono hbl2.size)
          have t13 : w1.heap.size < w3.heap.size := World.block_lt_of_cell? _ _ k7
          have t14 : w1.heap.size + 1 < w3.heap.size := World.block_lt_of_cell? _ _ k9
          have t15 : w2.heap.size < w3.heap.size := World.block_lt_of_cell? _ _ k11
          clear k1 k2 k3 k4 t5 t6 hb3 hl3 hbl2
          go_wp2_with fail
          refine (H1.out _).mono ?_
          rintro e w4 ⟨rfl, hb4⟩
          have k16 := keep2 hb4 k7
          have k17 := keep2 hb4 k8
          have k18 := keep2 hb4 k9
          have k19 := keep2 hb4 k10
          have k20 := keep2 hb4 k11
          have k21 := keep2 hb4 k12
          obtain ⟨s4, k22, k23, k24, k25, hl4⟩ := box2 hb4
          have hbl4 := hbl3.trans (hl4.mono hbl3.size)
          have t26 : w1.heap.size < w4.heap.size := World.block_lt_of_cell? _ _ k16
          have t27 : w1.heap.size + 1 < w4.heap.size := World.block_lt_of_cell? _ _ k18
          have t28 : w2.heap.size < w4.heap.size := World.block_lt_of_cell? _ _ k20
          have t29 : w3.heap.size < w4.heap.size := World.block_lt_of_cell? _ _ k22
          have t30 : w3.heap.size + 1 < w4.heap.size := World.block_lt_of_cell? _ _ k24
          clear k7 k8 k9 k10 k11 k12 t13 t14 t15 hb4 hl4 hbl3
          go_wp2_with fail
          refine (H2.out _).mono ?_
          rintro e w5 ⟨rfl, hb5⟩
          have k31 := keep1 hb5 k16
          have k32 := keep1 hb5 k17
          have k33 := keep1 hb5 k18
          have k34 := keep1 hb5 k19
          have k35 := keep1 hb5 k20
          have k36 := keep1 hb5 k21
          have k37 := keep1 hb5 k22
          have k38 := keep1 hb5 k23
          have k39 := keep1 hb5 k24
          have k40 := keep1 hb5 k25
          obtain ⟨s5, k41, k42, hl5⟩ := new1 hb5
          have hbl5 := hbl4.trans (hl5.mono hbl4.size)
          have t43 : w1.heap.size < w5.heap.size := World.block_lt_of_cell? _ _ k31
          have t44 : w1.heap.size + 1 < w5.heap.size := World.block_lt_of_cell? _ _ k33
          have t45 : w2.heap.size < w5.heap.size := World.block_lt_of_cell? _ _ k35
          have t46 : w3.heap.size < w5.heap.size := World.block_lt_of_cell? _ _ k37
          have t47 : w3.heap.size + 1 < w5.heap.size := World.block_lt_of_cell? _ _ k39
          have t48 : w4.heap.size < w5.heap.size := World.block_lt_of_cell? _ _ k41
          clear k16 k17 k18 k19 k20 k21 k22 k23 k24 k25 t26 t27 t28 t29 t30 hb5 hl5 hbl4
          go_wp2_with fail
          refine (H3.out _).mono ?_
          rintro e w6 ⟨rfl, hb6⟩
          have k49 := keep1 hb6 k31
          have k50 := keep1 hb6 k32
          have k51 := keep1 hb6 k33
          have k52 := keep1 hb6 k34
          have k53 := keep1 hb6 k35
          have k54 := keep1 hb6 k36
          have k55 := keep1 hb6 k37
          have k56 := keep1 hb6 k38
          have k57 := keep1 hb6 k39
          have k58 := keep1 hb6 k40
          have k59 := keep1 hb6 k41
          have k60 := keep1 hb6 k42
          obtain ⟨s6, k61, k62, hl6⟩ := new1 hb6
          have hbl6 := hbl5.trans (hl6.mono hbl5.size)
          have t63 : w1.heap.size < w6.heap.size := World.block_lt_of_cell? _ _ k49
          have t64 : w1.heap.size + 1 < w6.heap.size := World.block_lt_of_cell? _ _ k51
          have t65 : w2.heap.size < w6.heap.size := World.block_lt_of_cell? _ _ k53
          have t66 : w3.heap.size < w6.heap.size := World.block_lt_of_cell? _ _ k55
          have t67 : w3.heap.size + 1 < w6.heap.size := World.block_lt_of_cell? _ _ k57
          have t68 : w4.heap.size < w6.heap.size := World.block_lt_of_cell? _ _ k59
          have t69 : w5.heap.size < w6.heap.size := World.block_lt_of_cell? _ _ k61
          clear k31 k32 k33 k34 k35 k36 k37 k38 k39 k40 k41 k42 t43 t44 t45 t46 t47 t48 hb6 hl6 hbl5
          go_wp2
          go_ret
          first | exact ⟨rfl, hbl6⟩ | exact ⟨rfl, hbl6.alloc hbl6.size _⟩ | exact ⟨rfl, (hbl6.alloc hbl6.size _).alloc (by have := hbl6.size; simp; omega) _⟩

set_option maxHeartbeats 2000000 in
theorem walk_FnRatLessOne (A : Option Addr) (n0 c0 : Nat) (w : World) (h : Code w.heap.size w A n0 c0) : Calls Try.prog 13 #[.slice A n0 c0] w (Holds w) := by
  have HO := Lib.hid (d_DrawRatAdd n0 c0 A w h)
  clear h
  go_enter Try.func13, Try.ntmps13
  go_wp2_with fail
  · go_ret
    exact ⟨rfl, Below.refl _ _⟩
  · refine HO.out.mono ?_
    rintro e w1 ⟨an, ad, bn, bd, ⟨an1, an2⟩, ⟨ad1, ad2⟩, ⟨bn1, bn2⟩, ⟨bd1, bd2⟩, rfl, hbl1⟩
    clear HO
    have HI : Hid (∀ W, Calls Try.prog 16 #[.agg #[.int .i64 an, .int .i64 ad], .agg #[.int .i64 bn, .int .i64 bd]] W (Res W (addR an ad bn bd))) := fun W => impl_add an ad bn bd W
    have HS : Hid (∀ W, Calls Try.prog 17 #[.agg #[.int .i64 an, .int .i64 ad], .agg #[.int .i64 bn, .int .i64 bd]] W (Res W (addR an ad bn bd))) := fun W => spec_add an ad bn bd W
    rcases ho : addR an ad bn bd with _ | ⟨x, y⟩
    · rw [ho] at HI HS
      clear ho
      go_wp2_with fail
      refine (HI.out _).mono ?_
      rintro e w2 ⟨rfl, hb2⟩
      obtain ⟨s2, k1, k2, k3, k4, hl2⟩ := box2 hb2
      have hbl2 := hbl1.trans (hl2.mono hbl1.size)
      have t5 : w1.heap.size < w2.heap.size := World.block_lt_of_cell? _ _ k1
      have t6 : w1.heap.size + 1 < w2.heap.size := World.block_lt_of_cell? _ _ k3
      clear hb2 hl2 hbl1
      go_wp2_with fail
      refine (HS.out _).mono ?_
      rintro e w3 ⟨rfl, hb3⟩
      have k7 := keep1 hb3 k1
      have k8 := keep1 hb3 k2
      have k9 := keep1 hb3 k3
      have k10 := keep1 hb3 k4
      obtain ⟨s3, k11, k12, hl3⟩ := new1 hb3
      have hbl3 := hbl2.trans (hl3.mono hbl2.size)
      have t13 : w1.heap.size < w3.heap.size := World.block_lt_of_cell? _ _ k7
      have t14 : w1.heap.size + 1 < w3.heap.size := World.block_lt_of_cell? _ _ k9
      have t15 : w2.heap.size < w3.heap.size := World.block_lt_of_cell? _ _ k11
      clear k1 k2 k3 k4 t5 t6 hb3 hl3 hbl2
      go_wp2
      go_ret
      first | exact ⟨rfl, hbl3⟩ | exact ⟨rfl, hbl3.alloc hbl3.size _⟩ | exact ⟨rfl, (hbl3.alloc hbl3.size _).alloc (by have := hbl3.size; simp; omega) _⟩
    · rw [ho] at HI HS
      obtain ⟨l1, l2⟩ := less_one ho
      have H1 : Hid (∀ W, Calls Try.prog 31 #[.agg #[.int .i64 an, .int .i64 ad], .agg #[.int .i64 x, .int .i64 y]] W (Said W (decide (0 < bn)))) := fun W => by have := impl_less an ad x y W; rw [l1] at this; exact this
      have H2 : Hid (∀ W, Calls Try.prog 31 #[.agg #[.int .i64 x, .int .i64 y], .agg #[.int .i64 an, .int .i64 ad]] W (Said W (decide (bn < 0)))) := fun W => by have := impl_less x y an ad W; rw [l2] at this; exact this
      clear l1 l2 ho
      go_wp2_with fail
      refine (HI.out _).mono ?_
      rintro e w2 ⟨rfl, hb2⟩
      obtain ⟨s2, k1, k2, k3, k4, hl2⟩ := box2 hb2
      have hbl2 := hbl1.trans (hl2.mono hbl1.size)
      have t5 : w1.heap.size < w2.heap.size := World.block_lt_of_cell? _ _ k1
      have t6 : w1.heap.size + 1 < w2.heap.size := World.block_lt_of_cell? _ _ k3
      clear hb2 hl2 hbl1
      go_wp2_with fail
      refine (HS.out _).mono ?_
      rintro e w3 ⟨rfl, hb3⟩
      have k7 := keep1 hb3 k1
      have k8 := keep1 hb3 k2
      have k9 := keep1 hb3 k3
      have k10 := keep1 hb3 k4
      obtain ⟨s3, k11, k12, hl3⟩ := new1 hb3
      have hbl3 := hbl2.trans (hl3.mono hbl2.size)
      have t13 : w1.heap.size < w3.heap.size := World.block_lt_of_cell? _ _ k7
      have t14 : w1.heap.size + 1 < w3.heap.size := World.block_lt_of_cell? _ _ k9
      have t15 : w2.heap.size < w3.heap.size := World.block_lt_of_cell? _ _ k11
      clear k1 k2 k3 k4 t5 t6 hb3 hl3 hbl2
      go_wp2_with fail
      refine (H1.out _).mono ?_
      rintro e w4 ⟨rfl, hb4⟩
      have k16 := keep1 hb4 k7
      have k17 := keep1 hb4 k8
      have k18 := keep1 hb4 k9
      have k19 := keep1 hb4 k10
      have k20 := keep1 hb4 k11
      have k21 := keep1 hb4 k12
      obtain ⟨s4, k22, k23, hl4⟩ := new1 hb4
      have hbl4 := hbl3.trans (hl4.mono hbl3.size)
      have t24 : w1.heap.size < w4.heap.size := World.block_lt_of_cell? _ _ k16
      have t25 : w1.heap.size + 1 < w4.heap.size := World.block_lt_of_cell? _ _ k18
      have t26 : w2.heap.size < w4.heap.size := World.block_lt_of_cell? _ _ k20
      have t27 : w3.heap.size < w4.heap.size := World.block_lt_of_cell? _ _ k22
      clear k7 k8 k9 k10 k11 k12 t13 t14 t15 hb4 hl4 hbl3
      go_wp2_with fail
      refine (H2.out _).mono ?_
      rintro e w5 ⟨rfl, hb5⟩
      have k28 := keep0 hb5 k16
      have k29 := keep0 hb5 k17
      have k30 := keep0 hb5 k18
      have k31 := keep0 hb5 k19
      have k32 := keep0 hb5 k20
      have k33 := keep0 hb5 k21
      have k34 := keep0 hb5 k22
      have k35 := keep0 hb5 k23
      obtain ⟨s5, hl5⟩ := new0 hb5
      have hbl5 := hbl4.trans (hl5.mono hbl4.size)
      have t36 : w1.heap.size < w5.heap.size := World.block_lt_of_cell? _ _ k28
      have t37 : w1.heap.size + 1 < w5.heap.size := World.block_lt_of_cell? _ _ k30
      have t38 : w2.heap.size < w5.heap.size := World.block_lt_of_cell? _ _ k32
      have t39 : w3.heap.size < w5.heap.size := World.block_lt_of_cell? _ _ k34
      clear k16 k17 k18 k19 k20 k21 k22 k23 t24 t25 t26 t27 hb5 hl5 hbl4
      go_wp2
      go_ret
      first | exact ⟨rfl, hbl5⟩ | exact ⟨rfl, hbl5.alloc hbl5.size _⟩ | exact ⟨rfl, (hbl5.alloc hbl5.size _).alloc (by have := hbl5.size; simp; omega) _⟩

end Go.Proofs.Ytkkmeghadbmcgaa
