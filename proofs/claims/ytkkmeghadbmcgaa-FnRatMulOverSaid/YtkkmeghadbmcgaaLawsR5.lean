/-
  The laws of rationals.
-/
import Derived.Test.YtkkmeghadbmcgaaRatLess
import Derived.Test.YtkkmeghadbmcgaaRatDraws2
import Derived.Test.YtkkmeghadbmcgaaLawsR2
namespace Go.Proofs.Ytkkmeghadbmcgaa
open Go.RowKit
set_option linter.unusedSimpArgs false
set_option linter.unusedVariables false

set_option maxHeartbeats 8000000 in
theorem walk_FnRatMulOver (A : Option Addr) (n0 c0 : Nat) (w : World) (h : Code w.heap.size w A n0 c0) : Calls Try.prog 8 #[.slice A n0 c0] w (Holds w) := by
  have HO := Lib.hid (d_DrawRatMul n0 c0 A w h)
  clear h
  go_enter Try.func8, Try.ntmps8
  go_wp2_with fail
  · go_ret
    exact ⟨rfl, Below.refl _ _⟩
  · refine HO.out.mono ?_
    rintro e w1 ⟨an, ad, bn, bd, ⟨an1, an2⟩, ⟨ad1, ad2⟩, ⟨bn1, bn2⟩, ⟨bd1, bd2⟩, rfl, hbl1⟩
    clear HO
    have HI : Hid (∀ W, Calls Try.prog 20 #[.agg #[.int .i64 an, .int .i64 ad], .agg #[.int .i64 bn, .int .i64 bd]] W (Res W (mulR an ad bn bd))) := fun W => impl_mul an ad bn bd W
    have HS : Hid (∀ W, Calls Try.prog 21 #[.agg #[.int .i64 an, .int .i64 ad], .agg #[.int .i64 bn, .int .i64 bd]] W (Res W (mulR an ad bn bd))) := fun W => spec_mul an ad bn bd W
    rcases ho : mulR an ad bn bd with _ | ⟨x, y⟩
    · rw [ho] at HI HS
      clear ho
      go_wp2_with fail
      refine (HI.out _).mono ?_
      rintro e w2 ⟨rfl, hb2⟩
      obtain ⟨s2, k1, k2, k3, k4, hl2⟩ := box2 hb2
      have hbl2 := hbl1.trans (hl2.mono hbl1.size)
      have t5 : w1.heap.size < w2.heap.size := World.block_lt_of_cell? _ _ k1
      have t6 : w1.heap.size + 1 < w2.heap.size := World.block_lt_of_cell? _ _ k3
      clear hb2 hl2 hbl1
      go_wp2_with fail
      refine (HS.out _).mono ?_
      rintro e w3 ⟨rfl, hb3⟩
      have k7 := keep1 hb3 k1
      have k8 := keep1 hb3 k2
      have k9 := keep1 hb3 k3
      have k10 := keep1 hb3 k4
      obtain ⟨s3, k11, k12, hl3⟩ := new1 hb3
      have hbl3 := hbl2.trans (hl3.mono hbl2.size)
      have t13 : w1.heap.size < w3.heap.size := World.block_lt_of_cell? _ _ k7
      have t14 : w1.heap.size + 1 < w3.heap.size := World.block_lt_of_cell? _ _ k9
      have t15 : w2.heap.size < w3.heap.size := World.block_lt_of_cell? _ _ k11
      clear k1 k2 k3 k4 t5 t6 hb3 hl3 hbl2
      go_wp2
      go_ret
      first | exact ⟨rfl, hbl3⟩ | exact ⟨rfl, hbl3.alloc hbl3.size _⟩ | exact ⟨rfl, (hbl3.alloc hbl3.size _).alloc (by have := hbl3.size; simp; omega) _⟩
    · rw [ho] at HI HS
      have H1 : Hid (∀ W, Calls Try.prog 16 #[.agg #[.int .i64 bn, .int .i64 bd], .agg #[.int .i64 1, .int .i64 2]] W (Res W (addR bn bd 1 2))) := fun W => impl_add bn bd 1 2 W
      have H3 : Hid (∀ W, Calls Try.prog 20 #[.agg #[.int .i64 an, .int .i64 ad], .agg #[.int .i64 1, .int .i64 2]] W (Res W (mulR an ad 1 2))) := fun W => impl_mul an ad 1 2 W
      rcases h1 : addR bn bd 1 2 with _ | ⟨p, q⟩ <;> rcases h3 : mulR an ad 1 2 with _ | ⟨u, v⟩
      · rw [h1] at H1
        rw [h3] at H3
        have H2 : Hid (∀ W, Calls Try.prog 20 #[.agg #[.int .i64 an, .int .i64 ad], .agg #[.int .i64 0, .int .i64 0]] W (Res W (mulR an ad 0 0))) := fun W => impl_mul an ad 0 0 W
        have H4 : Hid (∀ W, Calls Try.prog 16 #[.agg #[.int .i64 x, .int .i64 y], .agg #[.int .i64 0, .int .i64 0]] W (Res W (addR x y 0 0))) := fun W => impl_add x y 0 0 W
        rcases h2 : mulR an ad 0 0 with _ | ⟨r, t⟩ <;> rcases h4 : addR x y 0 0 with _ | ⟨r', t'⟩
        · rw [h2] at H2
          rw [h4] at H4
          clear h1 h2 h3 h4 ho
          go_wp2_with fail
          refine (HI.out _).mono ?_
          rintro e w2 ⟨rfl, hb2⟩
          obtain ⟨s2, k1, k2, k3, k4, hl2⟩ := box2 hb2
          have hbl2 := hbl1.trans (hl2.mono hbl1.size)
          have t5 : w1.heap.size < w2.heap.size := World.block_lt_of_cell? _ _ k1
          have t6 : w1.heap.size + 1 < w2.heap.size := World.block_lt_of_cell? _ _ k3
          clear hb2 hl2 hbl1
          go_wp2_with fail
          refine (HS.out _).mono ?_
          rintro e w3 ⟨rfl, hb3⟩
          have k7 := keep1 hb3 k1
          have k8 := keep1 hb3 k2
          have k9 := keep1 hb3 k3
          have k10 := keep1 hb3 k4
          obtain ⟨s3, k11, k12, hl3⟩ := new1 hb3
          have hbl3 := hbl2.trans (hl3.mono hbl2.size)
          have t13 : w1.heap.size < w3.heap.size := World.block_lt_of_cell? _ _ k7
          have t14 : w1.heap.size + 1 < w3.heap.size := World.block_lt_of_cell? _ _ k9
          have t15 : w2.heap.size < w3.heap.size := World.block_lt_of_cell? _ _ k11
          clear k1 k2 k3 k4 t5 t6 hb3 hl3 hbl2
          go_wp2_with fail
          refine (H1.out _).mono ?_
          rintro e w4 ⟨rfl, hb4⟩
          have k16 := keep2 hb4 k7
          have k17 := keep2 hb4 k8
          have k18 := keep2 hb4 k9
          have k19 := keep2 hb4 k10
          have k20 := keep2 hb4 k11
          have k21 := keep2 hb4 k12
          obtain ⟨s4, k22, k23, k24, k25, hl4⟩ := box2 hb4
          have hbl4 := hbl3.trans (hl4.mono hbl3.size)
          have t26 : w1.heap.size < w4.heap.size := World.block_lt_of_cell? _ _ k16
          have t27 : w1.heap.size + 1 < w4.heap.size := World.block_lt_of_cell? _ _ k18
          have t28 : w2.heap.size < w4.heap.size := World.block_lt_of_cell? _ _ k20
          have t29 : w3.heap.size < w4.heap.size := World.block_lt_of_cell? _ _ k22
          have t30 : w3.heap.size + 1 < w4.heap.size := World.block_lt_of_cell? _ _ k24
          clear k7 k8 k9 k10 k11 k12 t13 t14 t15 hb4 hl4 hbl3
          go_wp2_with fail
          refine (H2.out _).mono ?_
          rintro e w5 ⟨rfl, hb5⟩
          have k31 := keep1 hb5 k16
          have k32 := keep1 hb5 k17
          have k33 := keep1 hb5 k18
          have k34 := keep1 hb5 k19
          have k35 := keep1 hb5 k20
          have k36 := keep1 hb5 k21
          have k37 := keep1 hb5 k22
          have k38 := keep1 hb5 k23
          have k39 := keep1 hb5 k24
          have k40 := keep1 hb5 k25
          obtain ⟨s5, k41, k42, hl5⟩ := new1 hb5
          have hbl5 := hbl4.trans (hl5.mono hbl4.size)
          have t43 : w1.heap.size < w5.heap.size := World.block_lt_of_cell? _ _ k31
          have t44 : w1.heap.size + 1 < w5.heap.size := World.block_lt_of_cell? _ _ k33
          have t45 : w2.heap.size < w5.heap.size := World.block_lt_of_cell? _ _ k35
          have t46 : w3.heap.size < w5.heap.size := World.block_lt_of_cell? _ _ k37
          have t47 : w3.heap.size + 1 < w5.heap.size := World.block_lt_of_cell? _ _ k39
          have t48 : w4.heap.size < w5.heap.size := World.block_lt_of_cell? _ _ k41
          clear k16 k17 k18 k19 k20 k21 k22 k23 k24 k25 t26 t27 t28 t29 t30 hb5 hl5 hbl4
          go_wp2_with fail
          refine (H3.out _).mono ?_
          rintro e w6 ⟨rfl, hb6⟩
          have k49 := keep1 hb6 k31
          have k50 := keep1 hb6 k32
          have k51 := keep1 hb6 k33
          have k52 := keep1 hb6 k34
          have k53 := keep1 hb6 k35
          have k54 := keep1 hb6 k36
          have k55 := keep1 hb6 k37
          have k56 := keep1 hb6 k38
          have k57 := keep1 hb6 k39
          have k58 := keep1 hb6 k40
          have k59 := keep1 hb6 k41
          have k60 := keep1 hb6 k42
          obtain ⟨s6, k61, k62, hl6⟩ := new1 hb6
          have hbl6 := hbl5.trans (hl6.mono hbl5.size)
          have t63 : w1.heap.size < w6.heap.size := World.block_lt_of_cell? _ _ k49
          have t64 : w1.heap.size + 1 < w6.heap.size := World.block_lt_of_cell? _ _ k51
          have t65 : w2.heap.size < w6.heap.size := World.block_lt_of_cell? _ _ k53
          have t66 : w3.heap.size < w6.heap.size := World.block_lt_of_cell? _ _ k55
          have t67 : w3.heap.size + 1 < w6.heap.size := World.block_lt_of_cell? _ _ k57
          have t68 : w4.heap.size < w6.heap.size := World.block_lt_of_cell? _ _ k59
          have t69 : w5.heap.size < w6.heap.size := World.block_lt_of_cell? _ _ k61
          clear k31 k32 k33 k34 k35 k36 k37 k38 k39 k40 k41 k42 t43 t44 t45 t46 t47 t48 hb6 hl6 hbl5
          go_wp2_with fail
          refine (H4.out _).mono ?_
          rintro e w7 ⟨rfl, hb7⟩
          have k70 := keep1 hb7 k49
          have k71 := keep1 hb7 k50
          have k72 := keep1 hb7 k51
          have k73 := keep1 hb7 k52
          have k74 := keep1 hb7 k53
          have k75 := keep1 hb7 k54
          have k76 := keep1 hb7 k55
          have k77 := keep1 hb7 k56
          have k78 := keep1 hb7 k57
          have k79 := keep1 hb7 k58
          have k80 := keep1 hb7 k59
          have k81 := keep1 hb7 k60
          have k82 := keep1 hb7 k61
          have k83 := keep1 hb7 k62
          obtain ⟨s7, k84, k85, hl7⟩ := new1 hb7
          have hbl7 := hbl6.trans (hl7.mono hbl6.size)
          have t86 : w1.heap.size < w7.heap.size := World.block_lt_of_cell? _ _ k70
          have t87 : w1.heap.size + 1 < w7.heap.size := World.block_lt_of_cell? _ _ k72
          have t88 : w2.heap.size < w7.heap.size := World.block_lt_of_cell? _ _ k74
          have t89 : w3.heap.size < w7.heap.size := World.block_lt_of_cell? _ _ k76
          have t90 : w3.heap.size + 1 < w7.heap.size := World.block_lt_of_cell? _ _ k78
          have t91 : w4.heap.size < w7.heap.size := World.block_lt_of_cell? _ _ k80
          have t92 : w5.heap.size < w7.heap.size := World.block_lt_of_cell? _ _ k82
          have t93 : w6.heap.size < w7.heap.size := World.block_lt_of_cell? _ _ k84
          clear k49 k50 k51 k52 k53 k54 k55 k56 k57 k58 k59 k60 k61 k62 t63 t64 t65 t66 t67 t68 t69 hb7 hl7 hbl6
          go_wp2
          go_ret
          first | exact ⟨rfl, hbl7⟩ | exact ⟨rfl, hbl7.alloc hbl7.size _⟩ | exact ⟨rfl, (hbl7.alloc hbl7.size _).alloc (by have := hbl7.size; simp; omega) _⟩
        · rw [h2] at H2
          rw [h4] at H4
          clear h1 h2 h3 h4 ho
          go_wp2_with fail
          refine (HI.out _).mono ?_
          rintro e w2 ⟨rfl, hb2⟩
          obtain ⟨s2, k1, k2, k3, k4, hl2⟩ := box2 hb2
          have hbl2 := hbl1.trans (hl2.mono hbl1.size)
          have t5 : w1.heap.size < w2.heap.size := World.block_lt_of_cell? _ _ k1
          have t6 : w1.heap.size + 1 < w2.heap.size := World.block_lt_of_cell? _ _ k3
          clear hb2 hl2 hbl1
          go_wp2_with fail
          refine (HS.out _).mono ?_
          rintro e w3 ⟨rfl, hb3⟩
          have k7 := keep1 hb3 k1
          have k8 := keep1 hb3 k2
          have k9 := keep1 hb3 k3
          have k10 := keep1 hb3 k4
          obtain ⟨s3, k11, k12, hl3⟩ := new1 hb3
          have hbl3 := hbl2.trans (hl3.mono hbl2.size)
          have t13 : w1.heap.size < w3.heap.size := World.block_lt_of_cell? _ _ k7
          have t14 : w1.heap.size + 1 < w3.heap.size := World.block_lt_of_cell? _ _ k9
          have t15 : w2.heap.size < w3.heap.size := World.block_lt_of_cell? _ _ k11
          clear k1 k2 k3 k4 t5 t6 hb3 hl3 hbl2
          go_wp2_with fail
          refine (H1.out _).mono ?_
          rintro e w4 ⟨rfl, hb4⟩
          have k16 := keep2 hb4 k7
          have k17 := keep2 hb4 k8
          have k18 := keep2 hb4 k9
          have k19 := keep2 hb4 k10
          have k20 := keep2 hb4 k11
          have k21 := keep2 hb4 k12
          obtain ⟨s4, k22, k23, k24, k25, hl4⟩ := box2 hb4
          have hbl4 := hbl3.trans (hl4.mono hbl3.size)
          have t26 : w1.heap.size < w4.heap.size := World.block_lt_of_cell? _ _ k16
          have t27 : w1.heap.size + 1 < w4.heap.size := World.block_lt_of_cell? _ _ k18
          have t28 : w2.heap.size < w4.heap.size := World.block_lt_of_cell? _ _ k20
          have t29 : w3.heap.size < w4.heap.size := World.block_lt_of_cell? _ _ k22
          have t30 : w3.heap.size + 1 < w4.heap.size := World.block_lt_of_cell? _ _ k24
          clear k7 k8 k9 k10 k11 k12 t13 t14 t15 hb4 hl4 hbl3
          go_wp2_with fail
          refine (H2.out _).mono ?_
          rintro e w5 ⟨rfl, hb5⟩
          have k31 := keep1 hb5 k16
          have k32 := keep1 hb5 k17
          have k33 := keep1 hb5 k18
          have k34 := keep1 hb5 k19
          have k35 := keep1 hb5 k20
          have k36 := keep1 hb5 k21
          have k37 := keep1 hb5 k22
          have k38 := keep1 hb5 k23
          have k39 := keep1 hb5 k24
          have k40 := keep1 hb5 k25
          obtain ⟨s5, k41, k42, hl5⟩ := new1 hb5
          have hbl5 := hbl4.trans (hl5.mono hbl4.size)
          have t43 : w1.heap.size < w5.heap.size := World.block_lt_of_cell? _ _ k31
          have t44 : w1.heap.size + 1 < w5.heap.size := World.block_lt_of_cell? _ _ k33
          have t45 : w2.heap.size < w5.heap.size := World.block_lt_of_cell? _ _ k35
          have t46 : w3.heap.size < w5.heap.size := World.block_lt_of_cell? _ _ k37
          have t47 : w3.heap.size + 1 < w5.heap.size := World.block_lt_of_cell? _ _ k39
          have t48 : w4.heap.size < w5.heap.size := World.block_lt_of_cell? _ _ k41
          clear k16 k17 k18 k19 k20 k21 k22 k23 k24 k25 t26 t27 t28 t29 t30 hb5 hl5 hbl4
          go_wp2_with fail
          refine (H3.out _).mono ?_
          rintro e w6 ⟨rfl, hb6⟩
          have k49 := keep1 hb6 k31
          have k50 := keep1 hb6 k32
          have k51 := keep1 hb6 k33
          have k52 := keep1 hb6 k34
          have k53 := keep1 hb6 k35
          have k54 := keep1 hb6 k36
          have k55 := keep1 hb6 k37
          have k56 := keep1 hb6 k38
          have k57 := keep1 hb6 k39
          have k58 := keep1 hb6 k40
          have k59 := keep1 hb6 k41
          have k60 := keep1 hb6 k42
          obtain ⟨s6, k61, k62, hl6⟩ := new1 hb6
          have hbl6 := hbl5.trans (hl6.mono hbl5.size)
          have t63 : w1.heap.size < w6.heap.size := World.block_lt_of_cell? _ _ k49
          have t64 : w1.heap.size + 1 < w6.heap.size := World.block_lt_of_cell? _ _ k51
          have t65 : w2.heap.size < w6.heap.size := World.block_lt_of_cell? _ _ k53
          have t66 : w3.heap.size < w6.heap.size := World.block_lt_of_cell? _ _ k55
          have t67 : w3.heap.size + 1 < w6.heap.size := World.block_lt_of_cell? _ _ k57
          have t68 : w4.heap.size < w6.heap.size := World.block_lt_of_cell? _ _ k59
          have t69 : w5.heap.size < w6.heap.size := World.block_lt_of_cell? _ _ k61
          clear k31 k32 k33 k34 k35 k36 k37 k38 k39 k40 k41 k42 t43 t44 t45 t46 t47 t48 hb6 hl6 hbl5
          go_wp2_with fail
          refine (H4.out _).mono ?_
          rintro e w7 ⟨rfl, hb7⟩
          have k70 := keep1 hb7 k49
          have k71 := keep1 hb7 k50
          have k72 := keep1 hb7 k51
          have k73 := keep1 hb7 k52
          have k74 := keep1 hb7 k53
          have k75 := keep1 hb7 k54
          have k76 := keep1 hb7 k55
          have k77 := keep1 hb7 k56
          have k78 := keep1 hb7 k57
          have k79 := keep1 hb7 k58
          have k80 := keep1 hb7 k59
          have k81 := keep1 hb7 k60
          have k82 := keep1 hb7 k61
          have k83 := keep1 hb7 k62
          obtain ⟨s7, k84, k85, hl7⟩ := new1 hb7
          have hbl7 := hbl6.trans (hl7.mono hbl6.size)
          have t86 : w1.heap.size < w7.heap.size := World.block_lt_of_cell? _ _ k70
          have t87 : w1.heap.size + 1 < w7.heap.size := World.block_lt_of_cell? _ _ k72
          have t88 : w2.heap.size < w7.heap.size := World.block_lt_of_cell? _ _ k74
          have t89 : w3.heap.size < w7.heap.size := World.block_lt_of_cell? _ _ k76
          have t90 : w3.heap.size + 1 < w7.heap.size := World.block_lt_of_cell? _ _ k78
          have t91 : w4.heap.size < w7.heap.size := World.block_lt_of_cell? _ _ k80
          have t92 : w5.heap.size < w7.heap.size := World.block_lt_of_cell? _ _ k82
          have t93 : w6.heap.size < w7.heap.size := World.block_lt_of_cell? _ _ k84
          clear k49 k50 k51 k52 k53 k54 k55 k56 k57 k58 k59 k60 k61 k62 t63 t64 t65 t66 t67 t68 t69 hb7 hl7 hbl6
          go_wp2
          go_ret
          first | exact ⟨rfl, hbl7⟩ | exact ⟨rfl, hbl7.alloc hbl7.size _⟩ | exact ⟨rfl, (hbl7.alloc hbl7.size _).alloc (by have := hbl7.size; simp; omega) _⟩
        · rw [h2] at H2
          rw [h4] at H4
          clear h1 h2 h3 h4 ho
          go_wp2_with fail
          refine (HI.out _).mono ?_
          rintro e w2 ⟨rfl, hb2⟩
          obtain ⟨s2, k1, k2, k3, k4, hl2⟩ := box2 hb2
          have hbl2 := hbl1.trans (hl2.mono hbl1.size)
          have t5 : w1.heap.size < w2.heap.size := World.block_lt_of_cell? _ _ k1
          have t6 : w1.heap.size + 1 < w2.heap.size := World.block_lt_of_cell? _ _ k3
          clear hb2 hl2 hbl1
          go_wp2_with fail
          refine (HS.out _).mono ?_
          rintro e w3 ⟨rfl, hb3⟩
          have k7 := keep1 hb3 k1
          have k8 := keep1 hb3 k2
          have k9 := keep1 hb3 k3
          have k10 := keep1 hb3 k4
          obtain ⟨s3, k11, k12, hl3⟩ := new1 hb3
          have hbl3 := hbl2.trans (hl3.mono hbl2.size)
          have t13 : w1.heap.size < w3.heap.size := World.block_lt_of_cell? _ _ k7
          have t14 : w1.heap.size + 1 < w3.heap.size := World.block_lt_of_cell? _ _ k9
          have t15 : w2.heap.size < w3.heap.size := World.block_lt_of_cell? _ _ k11
          clear k1 k2 k3 k4 t5 t6 hb3 hl3 hbl2
          go_wp2_with fail
          refine (H1.out _).mono ?_
          rintro e w4 ⟨rfl, hb4⟩
          have k16 := keep2 hb4 k7
          have k17 := keep2 hb4 k8
          have k18 := keep2 hb4 k9
          have k19 := keep2 hb4 k10
          have k20 := keep2 hb4 k11
          have k21 := keep2 hb4 k12
          obtain ⟨s4, k22, k23, k24, k25, hl4⟩ := box2 hb4
          have hbl4 := hbl3.trans (hl4.mono hbl3.size)
          have t26 : w1.heap.size < w4.heap.size := World.block_lt_of_cell? _ _ k16
          have t27 : w1.heap.size + 1 < w4.heap.size := World.block_lt_of_cell? _ _ k18
          have t28 : w2.heap.size < w4.heap.size := World.block_lt_of_cell? _ _ k20
          have t29 : w3.heap.size < w4.heap.size := World.block_lt_of_cell? _ _ k22
          have t30 : w3.heap.size + 1 < w4.heap.size := World.block_lt_of_cell? _ _ k24
          clear k7 k8 k9 k10 k11 k12 t13 t14 t15 hb4 hl4 hbl3
          go_wp2_with fail
          refine (H2.out _).mono ?_
          rintro e w5 ⟨rfl, hb5⟩
          have k31 := keep1 hb5 k16
          have k32 := keep1 hb5 k17
          have k33 := keep1 hb5 k18
          have k34 := keep1 hb5 k19
          have k35 := keep1 hb5 k20
          have k36 := keep1 hb5 k21
          have k37 := keep1 hb5 k22
          have k38 := keep1 hb5 k23
          have k39 := keep1 hb5 k24
          have k40 := keep1 hb5 k25
          obtain ⟨s5, k41, k42, hl5⟩ := new1 hb5
          have hbl5 := hbl4.trans (hl5.mono hbl4.size)
          have t43 : w1.heap.size < w5.heap.size := World.block_lt_of_cell? _ _ k31
          have t44 : w1.heap.size + 1 < w5.heap.size := World.block_lt_of_cell? _ _ k33
          have t45 : w2.heap.size < w5.heap.size := World.block_lt_of_cell? _ _ k35
          have t46 : w3.heap.size < w5.heap.size := World.block_lt_of_cell? _ _ k37
          have t47 : w3.heap.size + 1 < w5.heap.size := World.block_lt_of_cell? _ _ k39
          have t48 : w4.heap.size < w5.heap.size := World.block_lt_of_cell? _ _ k41
          clear k16 k17 k18 k19 k20 k21 k22 k23 k24 k25 t26 t27 t28 t29 t30 hb5 hl5 hbl4
          go_wp2_with fail
          refine (H3.out _).mono ?_
          rintro e w6 ⟨rfl, hb6⟩
          have k49 := keep1 hb6 k31
          have k50 := keep1 hb6 k32
          have k51 := keep1 hb6 k33
          have k52 := keep1 hb6 k34
          have k53 := keep1 hb6 k35
          have k54 := keep1 hb6 k36
          have k55 := keep1 hb6 k37
          have k56 := keep1 hb6 k38
          have k57 := keep1 hb6 k39
          have k58 := keep1 hb6 k40
          have k59 := keep1 hb6 k41
          have k60 := keep1 hb6 k42
          obtain ⟨s6, k61, k62, hl6⟩ := new1 hb6
          have hbl6 := hbl5.trans (hl6.mono hbl5.size)
          have t63 : w1.heap.size < w6.heap.size := World.block_lt_of_cell? _ _ k49
          have t64 : w1.heap.size + 1 < w6.heap.size := World.block_lt_of_cell? _ _ k51
          have t65 : w2.heap.size < w6.heap.size := World.block_lt_of_cell? _ _ k53
          have t66 : w3.heap.size < w6.heap.size := World.block_lt_of_cell? _ _ k55
          have t67 : w3.heap.size + 1 < w6.heap.size := World.block_lt_of_cell? _ _ k57
          have t68 : w4.heap.size < w6.heap.size := World.block_lt_of_cell? _ _ k59
          have t69 : w5.heap.size < w6.heap.size := World.block_lt_of_cell? _ _ k61
          clear k31 k32 k33 k34 k35 k36 k37 k38 k39 k40 k41 k42 t43 t44 t45 t46 t47 t48 hb6 hl6 hbl5
          go_wp2_with fail
          refine (H4.out _).mono ?_
          rintro e w7 ⟨rfl, hb7⟩
          have k70 := keep1 hb7 k49
          have k71 := keep1 hb7 k50
          have k72 := keep1 hb7 k51
          have k73 := keep1 hb7 k52
          have k74 := keep1 hb7 k53
          have k75 := keep1 hb7 k54
          have k76 := keep1 hb7 k55
          have k77 := keep1 hb7 k56
          have k78 := keep1 hb7 k57
          have k79 := keep1 hb7 k58
          have k80 := keep1 hb7 k59
          have k81 := keep1 hb7 k60
          have k82 := keep1 hb7 k61
          have k83 := keep1 hb7 k62
          obtain ⟨s7, k84, k85, hl7⟩ := new1 hb7
          have hbl7 := hbl6.trans (hl7.mono hbl6.size)
          have t86 : w1.heap.size < w7.heap.size := World.block_lt_of_cell? _ _ k70
          have t87 : w1.heap.size + 1 < w7.heap.size := World.block_lt_of_cell? _ _ k72
          have t88 : w2.heap.size < w7.heap.size := World.block_lt_of_cell? _ _ k74
          have t89 : w3.heap.size < w7.heap.size := World.block_lt_of_cell? _ _ k76
          have t90 : w3.heap.size + 1 < w7.heap.size := World.block_lt_of_cell? _ _ k78
          have t91 : w4.heap.size < w7.heap.size := World.block_lt_of_cell? _ _ k80
          have t92 : w5.heap.size < w7.heap.size := World.block_lt_of_cell? _ _ k82
          have t93 : w6.heap.size < w7.heap.size := World.block_lt_of_cell? _ _ k84
          clear k49 k50 k51 k52 k53 k54 k55 k56 k57 k58 k59 k60 k61 k62 t63 t64 t65 t66 t67 t68 t69 hb7 hl7 hbl6
          go_wp2
          go_ret
          first | exact ⟨rfl, hbl7⟩ | exact ⟨rfl, hbl7.alloc hbl7.size _⟩ | exact ⟨rfl, (hbl7.alloc hbl7.size _).alloc (by have := hbl7.size; simp; omega) _⟩
        · rw [h2] at H2
          rw [h4] at H4
          clear h1 h2 h3 h4 ho
          go_wp2_with fail
          refine (HI.out _).mono ?_
          rintro e w2 ⟨rfl, hb2⟩
          obtain ⟨s2, k1, k2, k3, k4, hl2⟩ := box2 hb2
          have hbl2 := hbl1.trans (hl2.mono hbl1.size)
          have t5 : w1.heap.size < w2.heap.size := World.block_lt_of_cell? _ _ k1
          have t6 : w1.heap.size + 1 < w2.heap.size := World.block_lt_of_cell? _ _ k3
          clear hb2 hl2 hbl1
          go_wp2_with fail
          refine (HS.out _).mono ?_
          rintro e w3 ⟨rfl, hb3⟩
          have k7 := keep1 hb3 k1
          have k8 := keep1 hb3 k2
          have k9 := keep1 hb3 k3
          have k10 := keep1 hb3 k4
          obtain ⟨s3, k11, k12, hl3⟩ := new1 hb3
          have hbl3 := hbl2.trans (hl3.mono hbl2.size)
          have t13 : w1.heap.size < w3.heap.size := World.block_lt_of_cell? _ _ k7
          have t14 : w1.heap.size + 1 < w3.heap.size := World.block_lt_of_cell? _ _ k9
          have t15 : w2.heap.size < w3.heap.size := World.block_lt_of_cell? _ _ k11
          clear k1 k2 k3 k4 t5 t6 hb3 hl3 hbl2
          go_wp2_with fail
          refine (H1.out _).mono ?_
          rintro e w4 ⟨rfl, hb4⟩
          have k16 := keep2 hb4 k7
          have k17 := keep2 hb4 k8
          have k18 := keep2 hb4 k9
          have k19 := keep2 hb4 k10
          have k20 := keep2 hb4 k11
          have k21 := keep2 hb4 k12
          obtain ⟨s4, k22, k23, k24, k25, hl4⟩ := box2 hb4
          have hbl4 := hbl3.trans (hl4.mono hbl3.size)
          have t26 : w1.heap.size < w4.heap.size := World.block_lt_of_cell? _ _ k16
          have t27 : w1.heap.size + 1 < w4.heap.size := World.block_lt_of_cell? _ _ k18
          have t28 : w2.heap.size < w4.heap.size := World.block_lt_of_cell? _ _ k20
          have t29 : w3.heap.size < w4.heap.size := World.block_lt_of_cell? _ _ k22
          have t30 : w3.heap.size + 1 < w4.heap.size := World.block_lt_of_cell? _ _ k24
          clear k7 k8 k9 k10 k11 k12 t13 t14 t15 hb4 hl4 hbl3
          go_wp2_with fail
          refine (H2.out _).mono ?_
          rintro e w5 ⟨rfl, hb5⟩
          have k31 := keep1 hb5 k16
          have k32 := keep1 hb5 k17
          have k33 := keep1 hb5 k18
          have k34 := keep1 hb5 k19
          have k35 := keep1 hb5 k20
          have k36 := keep1 hb5 k21
          have k37 := keep1 hb5 k22
          have k38 := keep1 hb5 k23
          have k39 := keep1 hb5 k24
          have k40 := keep1 hb5 k25
          obtain ⟨s5, k41, k42, hl5⟩ := new1 hb5
          have hbl5 := hbl4.trans (hl5.mono hbl4.size)
          have t43 : w1.heap.size < w5.heap.size := World.block_lt_of_cell? _ _ k31
          have t44 : w1.heap.size + 1 < w5.heap.size := World.block_lt_of_cell? _ _ k33
          have t45 : w2.heap.size < w5.heap.size := World.block_lt_of_cell? _ _ k35
          have t46 : w3.heap.size < w5.heap.size := World.block_lt_of_cell? _ _ k37
          have t47 : w3.heap.size + 1 < w5.heap.size := World.block_lt_of_cell? _ _ k39
          have t48 : w4.heap.size < w5.heap.size := World.block_lt_of_cell? _ _ k41
          clear k16 k17 k18 k19 k20 k21 k22 k23 k24 k25 t26 t27 t28 t29 t30 hb5 hl5 hbl4
          go_wp2_with fail
          refine (H3.out _).mono ?_
          rintro e w6 ⟨rfl, hb6⟩
          have k49 := keep1 hb6 k31
          have k50 := keep1 hb6 k32
          have k51 := keep1 hb6 k33
          have k52 := keep1 hb6 k34
          have k53 := keep1 hb6 k35
          have k54 := keep1 hb6 k36
          have k55 := keep1 hb6 k37
          have k56 := keep1 hb6 k38
          have k57 := keep1 hb6 k39
          have k58 := keep1 hb6 k40
          have k59 := keep1 hb6 k41
          have k60 := keep1 hb6 k42
          obtain ⟨s6, k61, k62, hl6⟩ := new1 hb6
          have hbl6 := hbl5.trans (hl6.mono hbl5.size)
          have t63 : w1.heap.size < w6.heap.size := World.block_lt_of_cell? _ _ k49
          have t64 : w1.heap.size + 1 < w6.heap.size := World.block_lt_of_cell? _ _ k51
          have t65 : w2.heap.size < w6.heap.size := World.block_lt_of_cell? _ _ k53
          have t66 : w3.heap.size < w6.heap.size := World.block_lt_of_cell? _ _ k55
          have t67 : w3.heap.size + 1 < w6.heap.size := World.block_lt_of_cell? _ _ k57
          have t68 : w4.heap.size < w6.heap.size := World.block_lt_of_cell? _ _ k59
          have t69 : w5.heap.size < w6.heap.size := World.block_lt_of_cell? _ _ k61
          clear k31 k32 k33 k34 k35 k36 k37 k38 k39 k40 k41 k42 t43 t44 t45 t46 t47 t48 hb6 hl6 hbl5
          go_wp2_with fail
          refine (H4.out _).mono ?_
          rintro e w7 ⟨rfl, hb7⟩
          have k70 := keep1 hb7 k49
          have k71 := keep1 hb7 k50
          have k72 := keep1 hb7 k51
          have k73 := keep1 hb7 k52
          have k74 := keep1 hb7 k53
          have k75 := keep1 hb7 k54
          have k76 := keep1 hb7 k55
          have k77 := keep1 hb7 k56
          have k78 := keep1 hb7 k57
          have k79 := keep1 hb7 k58
          have k80 := keep1 hb7 k59
          have k81 := keep1 hb7 k60
          have k82 := keep1 hb7 k61
          have k83 := keep1 hb7 k62
          obtain ⟨s7, k84, k85, hl7⟩ := new1 hb7
          have hbl7 := hbl6.trans (hl7.mono hbl6.size)
          have t86 : w1.heap.size < w7.heap.size := World.block_lt_of_cell? _ _ k70
          have t87 : w1.heap.size + 1 < w7.heap.size := World.block_lt_of_cell? _ _ k72
          have t88 : w2.heap.size < w7.heap.size := World.block_lt_of_cell? _ _ k74
          have t89 : w3.heap.size < w7.heap.size := World.block_lt_of_cell? _ _ k76
          have t90 : w3.heap.size + 1 < w7.heap.size := World.block_lt_of_cell? _ _ k78
          have t91 : w4.heap.size < w7.heap.size := World.block_lt_of_cell? _ _ k80
          have t92 : w5.heap.size < w7.heap.size := World.block_lt_of_cell? _ _ k82
          have t93 : w6.heap.size < w7.heap.size := World.block_lt_of_cell? _ _ k84
          clear k49 k50 k51 k52 k53 k54 k55 k56 k57 k58 k59 k60 k61 k62 t63 t64 t65 t66 t67 t68 t69 hb7 hl7 hbl6
          go_wp2
          go_ret
          first | exact ⟨rfl, hbl7⟩ | exact ⟨rfl, hbl7.alloc hbl7.size _⟩ | exact ⟨rfl, (hbl7.alloc hbl7.size _).alloc (by have := hbl7.size; simp; omega) _⟩
      · rw [h1] at H1
        rw [h3] at H3
        have H2 : Hid (∀ W, Calls Try.prog 20 #[.agg #[.int .i64 an, .int .i64 ad], .agg #[.int .i64 0, .int .i64 0]] W (Res W (mulR an ad 0 0))) := fun W => impl_mul an ad 0 0 W
        have H4 : Hid (∀ W, Calls Try.prog 16 #[.agg #[.int .i64 x, .int .i64 y], .agg #[.int .i64 u, .int .i64 v]] W (Res W (addR x y u v))) := fun W => impl_add x y u v W
        rcases h2 : mulR an ad 0 0 with _ | ⟨r, t⟩ <;> rcases h4 : addR x y u v with _ | ⟨r', t'⟩
        · rw [h2] at H2
          rw [h4] at H4
          clear h1 h2 h3 h4 ho
          go_wp2_with fail
          refine (HI.out _).mono ?_
          rintro e w2 ⟨rfl, hb2⟩
          obtain ⟨s2, k1, k2, k3, k4, hl2⟩ := box2 hb2
          have hbl2 := hbl1.trans (hl2.mono hbl1.size)
          have t5 : w1.heap.size < w2.heap.size := World.block_lt_of_cell? _ _ k1
          have t6 : w1.heap.size + 1 < w2.heap.size := World.block_lt_of_cell? _ _ k3
          clear hb2 hl2 hbl1
          go_wp2_with fail
          refine (HS.out _).mono ?_
          rintro e w3 ⟨rfl, hb3⟩
          have k7 := keep1 hb3 k1
          have k8 := keep1 hb3 k2
          have k9 := keep1 hb3 k3
          have k10 := keep1 hb3 k4
          obtain ⟨s3, k11, k12, hl3⟩ := new1 hb3
          have hbl3 := hbl2.trans (hl3.mono hbl2.size)
          have t13 : w1.heap.size < w3.heap.size := World.block_lt_of_cell? _ _ k7
          have t14 : w1.heap.size + 1 < w3.heap.size := World.block_lt_of_cell? _ _ k9
          have t15 : w2.heap.size < w3.heap.size := World.block_lt_of_cell? _ _ k11
          clear k1 k2 k3 k4 t5 t6 hb3 hl3 hbl2
          go_wp2_with fail
          refine (H1.out _).mono ?_
          rintro e w4 ⟨rfl, hb4⟩
          have k16 := keep2 hb4 k7
          have k17 := keep2 hb4 k8
          have k18 := keep2 hb4 k9
          have k19 := keep2 hb4 k10
          have k20 := keep2 hb4 k11
          have k21 := keep2 hb4 k12
          obtain ⟨s4, k22, k23, k24, k25, hl4⟩ := box2 hb4
          have hbl4 := hbl3.trans (hl4.mono hbl3.size)
          have t26 : w1.heap.size < w4.heap.size := World.block_lt_of_cell? _ _ k16
          have t27 : w1.heap.size + 1 < w4.heap.size := World.block_lt_of_cell? _ _ k18
          have t28 : w2.heap.size < w4.heap.size := World.block_lt_of_cell? _ _ k20
          have t29 : w3.heap.size < w4.heap.size := World.block_lt_of_cell? _ _ k22
          have t30 : w3.heap.size + 1 < w4.heap.size := World.block_lt_of_cell? _ _ k24
          clear k7 k8 k9 k10 k11 k12 t13 t14 t15 hb4 hl4 hbl3
          go_wp2_with fail
          refine (H2.out _).mono ?_
          rintro e w5 ⟨rfl, hb5⟩
          have k31 := keep1 hb5 k16
          have k32 := keep1 hb5 k17
          have k33 := keep1 hb5 k18
          have k34 := keep1 hb5 k19
          have k35 := keep1 hb5 k20
          have k36 := keep1 hb5 k21
          have k37 := keep1 hb5 k22
          have k38 := keep1 hb5 k23
          have k39 := keep1 hb5 k24
          have k40 := keep1 hb5 k25
          obtain ⟨s5, k41, k42, hl5⟩ := new1 hb5
          have hbl5 := hbl4.trans (hl5.mono hbl4.size)
          have t43 : w1.heap.size < w5.heap.size := World.block_lt_of_cell? _ _ k31
          have t44 : w1.heap.size + 1 < w5.heap.size := World.block_lt_of_cell? _ _ k33
          have t45 : w2.heap.size < w5.heap.size := World.block_lt_of_cell? _ _ k35
          have t46 : w3.heap.size < w5.heap.size := World.block_lt_of_cell? _ _ k37
          have t47 : w3.heap.size + 1 < w5.heap.size := World.block_lt_of_cell? _ _ k39
          have t48 : w4.heap.size < w5.heap.size := World.block_lt_of_cell? _ _ k41
          clear k16 k17 k18 k19 k20 k21 k22 k23 k24 k25 t26 t27 t28 t29 t30 hb5 hl5 hbl4
          go_wp2_with fail
          refine (H3.out _).mono ?_
          rintro e w6 ⟨rfl, hb6⟩
          have k49 := keep1 hb6 k31
          have k50 := keep1 hb6 k32
          have k51 := keep1 hb6 k33
          have k52 := keep1 hb6 k34
          have k53 := keep1 hb6 k35
          have k54 := keep1 hb6 k36
          have k55 := keep1 hb6 k37
          have k56 := keep1 hb6 k38
          have k57 := keep1 hb6 k39
          have k58 := keep1 hb6 k40
          have k59 := keep1 hb6 k41
          have k60 := keep1 hb6 k42
          obtain ⟨s6, k61, k62, hl6⟩ := new1 hb6
          have hbl6 := hbl5.trans (hl6.mono hbl5.size)
          have t63 : w1.heap.size < w6.heap.size := World.block_lt_of_cell? _ _ k49
          have t64 : w1.heap.size + 1 < w6.heap.size := World.block_lt_of_cell? _ _ k51
          have t65 : w2.heap.size < w6.heap.size := World.block_lt_of_cell? _ _ k53
          have t66 : w3.heap.size < w6.heap.size := World.block_lt_of_cell? _ _ k55
          have t67 : w3.heap.size + 1 < w6.heap.size := World.block_lt_of_cell? _ _ k57
          have t68 : w4.heap.size < w6.heap.size := World.block_lt_of_cell? _ _ k59
          have t69 : w5.heap.size < w6.heap.size := World.block_lt_of_cell? _ _ k61
          clear k31 k32 k33 k34 k35 k36 k37 k38 k39 k40 k41 k42 t43 t44 t45 t46 t47 t48 hb6 hl6 hbl5
          go_wp2_with fail
          refine (H4.out _).mono ?_
          rintro e w7 ⟨rfl, hb7⟩
          have k70 := keep1 hb7 k49
          have k71 := keep1 hb7 k50
          have k72 := keep1 hb7 k51
          have k73 := keep1 hb7 k52
          have k74 := keep1 hb7 k53
          have k75 := keep1 hb7 k54
          have k76 := keep1 hb7 k55
          have k77 := keep1 hb7 k56
          have k78 := keep1 hb7 k57
          have k79 := keep1 hb7 k58
          have k80 := keep1 hb7 k59
          have k81 := keep1 hb7 k60
          have k82 := keep1 hb7 k61
          have k83 := keep1 hb7 k62
          obtain ⟨s7, k84, k85, hl7⟩ := new1 hb7
          have hbl7 := hbl6.trans (hl7.mono hbl6.size)
          have t86 : w1.heap.size < w7.heap.size := World.block_lt_of_cell? _ _ k70
          have t87 : w1.heap.size + 1 < w7.heap.size := World.block_lt_of_cell? _ _ k72
          have t88 : w2.heap.size < w7.heap.size := World.block_lt_of_cell? _ _ k74
          have t89 : w3.heap.size < w7.heap.size := World.block_lt_of_cell? _ _ k76
          have t90 : w3.heap.size + 1 < w7.heap.size := World.block_lt_of_cell? _ _ k78
          have t91 : w4.heap.size < w7.heap.size := World.block_lt_of_cell? _ _ k80
          have t92 : w5.heap.size < w7.heap.size := World.block_lt_of_cell? _ _ k82
          have t93 : w6.heap.size < w7.heap.size := World.block_lt_of_cell? _ _ k84
          clear k49 k50 k51 k52 k53 k54 k55 k56 k57 k58 k59 k60 k61 k62 t63 t64 t65 t66 t67 t68 t69 hb7 hl7 hbl6
          go_wp2
          go_ret
          first | exact ⟨rfl, hbl7⟩ | exact ⟨rfl, hbl7.alloc hbl7.size _⟩ | exact ⟨rfl, (hbl7.alloc hbl7.size _).alloc (by have := hbl7.size; simp; omega) _⟩
        · rw [h2] at H2
          rw [h4] at H4
          clear h1 h2 h3 h4 ho
          go_wp2_with fail
          refine (HI.out _).mono ?_
          rintro e w2 ⟨rfl, hb2⟩
          obtain ⟨s2, k1, k2, k3, k4, hl2⟩ := box2 hb2
          have hbl2 := hbl1.trans (hl2.mono hbl1.size)
          have t5 : w1.heap.size < w2.heap.size := World.block_lt_of_cell? _ _ k1
          have t6 : w1.heap.size + 1 < w2.heap.size := World.block_lt_of_cell? _ _ k3
          clear hb2 hl2 hbl1
          go_wp2_with fail
          refine (HS.out _).mono ?_
          rintro e w3 ⟨rfl, hb3⟩
          have k7 := keep1 hb3 k1
          have k8 := keep1 hb3 k2
          have k9 := keep1 hb3 k3
          have k10 := keep1 hb3 k4
          obtain ⟨s3, k11, k12, hl3⟩ := new1 hb3
          have hbl3 := hbl2.trans (hl3.mono hbl2.size)
          have t13 : w1.heap.size < w3.heap.size := World.block_lt_of_cell? _ _ k7
          have t14 : w1.heap.size + 1 < w3.heap.size := World.block_lt_of_cell? _ _ k9
          have t15 : w2.heap.size < w3.heap.size := World.block_lt_of_cell? _ _ k11
          clear k1 k2 k3 k4 t5 t6 hb3 hl3 hbl2
          go_wp2_with fail
          refine (H1.out _).mono ?_
          rintro e w4 ⟨rfl, hb4⟩
          have k16 := keep2 hb4 k7
          have k17 := keep2 hb4 k8
          have k18 := keep2 hb4 k9
          have k19 := keep2 hb4 k10
          have k20 := keep2 hb4 k11
          have k21 := keep2 hb4 k12
          obtain ⟨s4, k22, k23, k24, k25, hl4⟩ := box2 hb4
          have hbl4 := hbl3.trans (hl4.mono hbl3.size)
          have t26 : w1.heap.size < w4.heap.size := World.block_lt_of_cell? _ _ k16
          have t27 : w1.heap.size + 1 < w4.heap.size := World.block_lt_of_cell? _ _ k18
          have t28 : w2.heap.size < w4.heap.size := World.block_lt_of_cell? _ _ k20
          have t29 : w3.heap.size < w4.heap.size := World.block_lt_of_cell? _ _ k22
          have t30 : w3.heap.size + 1 < w4.heap.size := World.block_lt_of_cell? _ _ k24
          clear k7 k8 k9 k10 k11 k12 t13 t14 t15 hb4 hl4 hbl3
          go_wp2_with fail
          refine (H2.out _).mono ?_
          rintro e w5 ⟨rfl, hb5⟩
          have k31 := keep1 hb5 k16
          have k32 := keep1 hb5 k17
          have k33 := keep1 hb5 k18
          have k34 := keep1 hb5 k19
          have k35 := keep1 hb5 k20
          have k36 := keep1 hb5 k21
          have k37 := keep1 hb5 k22
          have k38 := keep1 hb5 k23
          have k39 := keep1 hb5 k24
          have k40 := keep1 hb5 k25
          obtain ⟨s5, k41, k42, hl5⟩ := new1 hb5
          have hbl5 := hbl4.trans (hl5.mono hbl4.size)
          have t43 : w1.heap.size < w5.heap.size := World.block_lt_of_cell? _ _ k31
          have t44 : w1.heap.size + 1 < w5.heap.size := World.block_lt_of_cell? _ _ k33
          have t45 : w2.heap.size < w5.heap.size := World.block_lt_of_cell? _ _ k35
          have t46 : w3.heap.size < w5.heap.size := World.block_lt_of_cell? _ _ k37
          have t47 : w3.heap.size + 1 < w5.heap.size := World.block_lt_of_cell? _ _ k39
          have t48 : w4.heap.size < w5.heap.size := World.block_lt_of_cell? _ _ k41
          clear k16 k17 k18 k19 k20 k21 k22 k23 k24 k25 t26 t27 t28 t29 t30 hb5 hl5 hbl4
          go_wp2_with fail
          refine (H3.out _).mono ?_
          rintro e w6 ⟨rfl, hb6⟩
          have k49 := keep1 hb6 k31
          have k50 := keep1 hb6 k32
          have k51 := keep1 hb6 k33
          have k52 := keep1 hb6 k34
          have k53 := keep1 hb6 k35
          have k54 := keep1 hb6 k36
          have k55 := keep1 hb6 k37
          have k56 := keep1 hb6 k38
          have k57 := keep1 hb6 k39
          have k58 := keep1 hb6 k40
          have k59 := keep1 hb6 k41
          have k60 := keep1 hb6 k42
          obtain ⟨s6, k61, k62, hl6⟩ := new1 hb6
          have hbl6 := hbl5.trans (hl6.mono hbl5.size)
          have t63 : w1.heap.size < w6.heap.size := World.block_lt_of_cell? _ _ k49
          have t64 : w1.heap.size + 1 < w6.heap.size := World.block_lt_of_cell? _ _ k51
          have t65 : w2.heap.size < w6.heap.size := World.block_lt_of_cell? _ _ k53
          have t66 : w3.heap.size < w6.heap.size := World.block_lt_of_cell? _ _ k55
          have t67 : w3.heap.size + 1 < w6.heap.size := World.block_lt_of_cell? _ _ k57
          have t68 : w4.heap.size < w6.heap.size := World.block_lt_of_cell? _ _ k59
          have t69 : w5.heap.size < w6.heap.size := World.block_lt_of_cell? _ _ k61
          clear k31 k32 k33 k34 k35 k36 k37 k38 k39 k40 k41 k42 t43 t44 t45 t46 t47 t48 hb6 hl6 hbl5
          go_wp2_with fail
          refine (H4.out _).mono ?_
          rintro e w7 ⟨rfl, hb7⟩
          have k70 := keep1 hb7 k49
          have k71 := keep1 hb7 k50
          have k72 := keep1 hb7 k51
          have k73 := keep1 hb7 k52
          have k74 := keep1 hb7 k53
          have k75 := keep1 hb7 k54
          have k76 := keep1 hb7 k55
          have k77 := keep1 hb7 k56
          have k78 := keep1 hb7 k57
          have k79 := keep1 hb7 k58
          have k80 := keep1 hb7 k59
          have k81 := keep1 hb7 k60
          have k82 := keep1 hb7 k61
          have k83 := keep1 hb7 k62
          obtain ⟨s7, k84, k85, hl7⟩ := new1 hb7
          have hbl7 := hbl6.trans (hl7.mono hbl6.size)
          have t86 : w1.heap.size < w7.heap.size := World.block_lt_of_cell? _ _ k70
          have t87 : w1.heap.size + 1 < w7.heap.size := World.block_lt_of_cell? _ _ k72
          have t88 : w2.heap.size < w7.heap.size := World.block_lt_of_cell? _ _ k74
          have t89 : w3.heap.size < w7.heap.size := World.block_lt_of_cell? _ _ k76
          have t90 : w3.heap.size + 1 < w7.heap.size := World.block_lt_of_cell? _ _ k78
          have t91 : w4.heap.size < w7.heap.size := World.block_lt_of_cell? _ _ k80
          have t92 : w5.heap.size < w7.heap.size := World.block_lt_of_cell? _ _ k82
          have t93 : w6.heap.size < w7.heap.size := World.block_lt_of_cell? _ _ k84
          clear k49 k50 k51 k52 k53 k54 k55 k56 k57 k58 k59 k60 k61 k62 t63 t64 t65 t66 t67 t68 t69 hb7 hl7 hbl6
          go_wp2
          go_ret
          first | exact ⟨rfl, hbl7⟩ | exact ⟨rfl, hbl7.alloc hbl7.size _⟩ | exact ⟨rfl, (hbl7.alloc hbl7.size _).alloc (by have := hbl7.size; simp; omega) _⟩
        · rw [h2] at H2
          rw [h4] at H4
          clear h1 h2 h3 h4 ho
          go_wp2_with fail
          refine (HI.out _).mono ?_
          rintro e w2 ⟨rfl, hb2⟩
          obtain ⟨s2, k1, k2, k3, k4, hl2⟩ := box2 hb2
          have hbl2 := hbl1.trans (hl2.mono hbl1.size)
          have t5 : w1.heap.size < w2.heap.size := World.block_lt_of_cell? _ _ k1
          have t6 : w1.heap.size + 1 < w2.heap.size := World.block_lt_of_cell? _ _ k3
          clear hb2 hl2 hbl1
          go_wp2_with fail
          refine (HS.out _).mono ?_
          rintro e w3 ⟨rfl, hb3⟩
          have k7 := keep1 hb3 k1
          have k8 := keep1 hb3 k2
          have k9 := keep1 hb3 k3
          have k10 := keep1 hb3 k4
          obtain ⟨s3, k11, k12, hl3⟩ := new1 hb3
          have hbl3 := hbl2.trans (hl3.mono hbl2.size)
          have t13 : w1.heap.size < w3.heap.size := World.block_lt_of_cell? _ _ k7
          have t14 : w1.heap.size + 1 < w3.heap.size := World.block_lt_of_cell? _ _ k9
          have t15 : w2.heap.size < w3.heap.size := World.block_lt_of_cell? _ _ k11
          clear k1 k2 k3 k4 t5 t6 hb3 hl3 hbl2
          go_wp2_with fail
          refine (H1.out _).mono ?_
          rintro e w4 ⟨rfl, hb4⟩
          have k16 := keep2 hb4 k7
          have k17 := keep2 hb4 k8
          have k18 := keep2 hb4 k9
          have k19 := keep2 hb4 k10
          have k20 := keep2 hb4 k11
          have k21 := keep2 hb4 k12
          obtain ⟨s4, k22, k23, k24, k25, hl4⟩ := box2 hb4
          have hbl4 := hbl3.trans (hl4.mono hbl3.size)
          have t26 : w1.heap.size < w4.heap.size := World.block_lt_of_cell? _ _ k16
          have t27 : w1.heap.size + 1 < w4.heap.size := World.block_lt_of_cell? _ _ k18
          have t28 : w2.heap.size < w4.heap.size := World.block_lt_of_cell? _ _ k20
          have t29 : w3.heap.size < w4.heap.size := World.block_lt_of_cell? _ _ k22
          have t30 : w3.heap.size + 1 < w4.heap.size := World.block_lt_of_cell? _ _ k24
          clear k7 k8 k9 k10 k11 k12 t13 t14 t15 hb4 hl4 hbl3
          go_wp2_with fail
          refine (H2.out _).mono ?_
          rintro e w5 ⟨rfl, hb5⟩
          have k31 := keep1 hb5 k16
          have k32 := keep1 hb5 k17
          have k33 := keep1 hb5 k18
          have k34 := keep1 hb5 k19
          have k35 := keep1 hb5 k20
          have k36 := keep1 hb5 k21
          have k37 := keep1 hb5 k22
          have k38 := keep1 hb5 k23
          have k39 := keep1 hb5 k24
          have k40 := keep1 hb5 k25
          obtain ⟨s5, k41, k42, hl5⟩ := new1 hb5
          have hbl5 := hbl4.trans (hl5.mono hbl4.size)
          have t43 : w1.heap.size < w5.heap.size := World.block_lt_of_cell? _ _ k31
          have t44 : w1.heap.size + 1 < w5.heap.size := World.block_lt_of_cell? _ _ k33
          have t45 : w2.heap.size < w5.heap.size := World.block_lt_of_cell? _ _ k35
          have t46 : w3.heap.size < w5.heap.size := World.block_lt_of_cell? _ _ k37
          have t47 : w3.heap.size + 1 < w5.heap.size := World.block_lt_of_cell? _ _ k39
          have t48 : w4.heap.size < w5.heap.size := World.block_lt_of_cell? _ _ k41
          clear k16 k17 k18 k19 k20 k21 k22 k23 k24 k25 t26 t27 t28 t29 t30 hb5 hl5 hbl4
          go_wp2_with fail
          refine (H3.out _).mono ?_
          rintro e w6 ⟨rfl, hb6⟩
          have k49 := keep1 hb6 k31
          have k50 := keep1 hb6 k32
          have k51 := keep1 hb6 k33
          have k52 := keep1 hb6 k34
          have k53 := keep1 hb6 k35
          have k54 := keep1 hb6 k36
          have k55 := keep1 hb6 k37
          have k56 := keep1 hb6 k38
          have k57 := keep1 hb6 k39
          have k58 := keep1 hb6 k40
          have k59 := keep1 hb6 k41
          have k60 := keep1 hb6 k42
          obtain ⟨s6, k61, k62, hl6⟩ := new1 hb6
          have hbl6 := hbl5.trans (hl6.mono hbl5.size)
          have t63 : w1.heap.size < w6.heap.size := World.block_lt_of_cell? _ _ k49
          have t64 : w1.heap.size + 1 < w6.heap.size := World.block_lt_of_cell? _ _ k51
          have t65 : w2.heap.size < w6.heap.size := World.block_lt_of_cell? _ _ k53
          have t66 : w3.heap.size < w6.heap.size := World.block_lt_of_cell? _ _ k55
          have t67 : w3.heap.size + 1 < w6.heap.size := World.block_lt_of_cell? _ _ k57
          have t68 : w4.heap.size < w6.heap.size := World.block_lt_of_cell? _ _ k59
          have t69 : w5.heap.size < w6.heap.size := World.block_lt_of_cell? _ _ k61
          clear k31 k32 k33 k34 k35 k36 k37 k38 k39 k40 k41 k42 t43 t44 t45 t46 t47 t48 hb6 hl6 hbl5
          go_wp2_with fail
          refine (H4.out _).mono ?_
          rintro e w7 ⟨rfl, hb7⟩
          have k70 := keep1 hb7 k49
          have k71 := keep1 hb7 k50
          have k72 := keep1 hb7 k51
          have k73 := keep1 hb7 k52
          have k74 := keep1 hb7 k53
          have k75 := keep1 hb7 k54
          have k76 := keep1 hb7 k55
          have k77 := keep1 hb7 k56
          have k78 := keep1 hb7 k57
          have k79 := keep1 hb7 k58
          have k80 := keep1 hb7 k59
          have k81 := keep1 hb7 k60
          have k82 := keep1 hb7 k61
          have k83 := keep1 hb7 k62
          obtain ⟨s7, k84, k85, hl7⟩ := new1 hb7
          have hbl7 := hbl6.trans (hl7.mono hbl6.size)
          have t86 : w1.heap.size < w7.heap.size := World.block_lt_of_cell? _ _ k70
          have t87 : w1.heap.size + 1 < w7.heap.size := World.block_lt_of_cell? _ _ k72
          have t88 : w2.heap.size < w7.heap.size := World.block_lt_of_cell? _ _ k74
          have t89 : w3.heap.size < w7.heap.size := World.block_lt_of_cell? _ _ k76
          have t90 : w3.heap.size + 1 < w7.heap.size := World.block_lt_of_cell? _ _ k78
          have t91 : w4.heap.size < w7.heap.size := World.block_lt_of_cell? _ _ k80
          have t92 : w5.heap.size < w7.heap.size := World.block_lt_of_cell? _ _ k82
          have t93 : w6.heap.size < w7.heap.size := World.block_lt_of_cell? _ _ k84
          clear k49 k50 k51 k52 k53 k54 k55 k56 k57 k58 k59 k60 k61 k62 t63 t64 t65 t66 t67 t68 t69 hb7 hl7 hbl6
          go_wp2
          go_ret
          first | exact ⟨rfl, hbl7⟩ | exact ⟨rfl, hbl7.alloc hbl7.size _⟩ | exact ⟨rfl, (hbl7.alloc hbl7.size _).alloc (by have := hbl7.size; simp; omega) _⟩
        · rw [h2] at H2
          rw [h4] at H4
          clear h1 h2 h3 h4 ho
          go_wp2_with fail
          refine (HI.out _).mono ?_
          rintro e w2 ⟨rfl, hb2⟩
          obtain ⟨s2, k1, k2, k3, k4, hl2⟩ := box2 hb2
          have hbl2 := hbl1.trans (hl2.mono hbl1.size)
          have t5 : w1.heap.size < w2.heap.size := World.block_lt_of_cell? _ _ k1
          have t6 : w1.heap.size + 1 < w2.heap.size := World.block_lt_of_cell? _ _ k3
          clear hb2 hl2 hbl1
          go_wp2_with fail
          refine (HS.out _).mono ?_
          rintro e w3 ⟨rfl, hb3⟩
          have k7 := keep1 hb3 k1
          have k8 := keep1 hb3 k2
          have k9 := keep1 hb3 k3
          have k10 := keep1 hb3 k4
          obtain ⟨s3, k11, k12, hl3⟩ := new1 hb3
          have hbl3 := hbl2.trans (hl3.mono hbl2.size)
          have t13 : w1.heap.size < w3.heap.size := World.block_lt_of_cell? _ _ k7
          have t14 : w1.heap.size + 1 < w3.heap.size := World.block_lt_of_cell? _ _ k9
          have t15 : w2.heap.size < w3.heap.size := World.block_lt_of_cell? _ _ k11
          clear k1 k2 k3 k4 t5 t6 hb3 hl3 hbl2
          go_wp2_with fail
          refine (H1.out _).mono ?_
          rintro e w4 ⟨rfl, hb4⟩
          have k16 := keep2 hb4 k7
          have k17 := keep2 hb4 k8
          have k18 := keep2 hb4 k9
          have k19 := keep2 hb4 k10
          have k20 := keep2 hb4 k11
          have k21 := keep2 hb4 k12
          obtain ⟨s4, k22, k23, k24, k25, hl4⟩ := box2 hb4
          have hbl4 := hbl3.trans (hl4.mono hbl3.size)
          have t26 : w1.heap.size < w4.heap.size := World.block_lt_of_cell? _ _ k16
          have t27 : w1.heap.size + 1 < w4.heap.size := World.block_lt_of_cell? _ _ k18
          have t28 : w2.heap.size < w4.heap.size := World.block_lt_of_cell? _ _ k20
          have t29 : w3.heap.size < w4.heap.size := World.block_lt_of_cell? _ _ k22
          have t30 : w3.heap.size + 1 < w4.heap.size := World.block_lt_of_cell? _ _ k24
          clear k7 k8 k9 k10 k11 k12 t13 t14 t15 hb4 hl4 hbl3
          go_wp2_with fail
          refine (H2.out _).mono ?_
          rintro e w5 ⟨rfl, hb5⟩
          have k31 := keep1 hb5 k16
          have k32 := keep1 hb5 k17
          have k33 := keep1 hb5 k18
          have k34 := keep1 hb5 k19
          have k35 := keep1 hb5 k20
          have k36 := keep1 hb5 k21
          have k37 := keep1 hb5 k22
          have k38 := keep1 hb5 k23
          have k39 := keep1 hb5 k24
          have k40 := keep1 hb5 k25
          obtain ⟨s5, k41, k42, hl5⟩ := new1 hb5
          have hbl5 := hbl4.trans (hl5.mono hbl4.size)
          have t43 : w1.heap.size < w5.heap.size := World.block_lt_of_cell? _ _ k31
          have t44 : w1.heap.size + 1 < w5.heap.size := World.block_lt_of_cell? _ _ k33
          have t45 : w2.heap.size < w5.heap.size := World.block_lt_of_cell? _ _ k35
          have t46 : w3.heap.size < w5.heap.size := World.block_lt_of_cell? _ _ k37
          have t47 : w3.heap.size + 1 < w5.heap.size := World.block_lt_of_cell? _ _ k39
          have t48 : w4.heap.size < w5.heap.size := World.block_lt_of_cell? _ _ k41
          clear k16 k17 k18 k19 k20 k21 k22 k23 k24 k25 t26 t27 t28 t29 t30 hb5 hl5 hbl4
          go_wp2_with fail
          refine (H3.out _).mono ?_
          rintro e w6 ⟨rfl, hb6⟩
          have k49 := keep1 hb6 k31
          have k50 := keep1 hb6 k32
          have k51 := keep1 hb6 k33
          have k52 := keep1 hb6 k34
          have k53 := keep1 hb6 k35
          have k54 := keep1 hb6 k36
          have k55 := keep1 hb6 k37
          have k56 := keep1 hb6 k38
          have k57 := keep1 hb6 k39
          have k58 := keep1 hb6 k40
          have k59 := keep1 hb6 k41
          have k60 := keep1 hb6 k42
          obtain ⟨s6, k61, k62, hl6⟩ := new1 hb6
          have hbl6 := hbl5.trans (hl6.mono hbl5.size)
          have t63 : w1.heap.size < w6.heap.size := World.block_lt_of_cell? _ _ k49
          have t64 : w1.heap.size + 1 < w6.heap.size := World.block_lt_of_cell? _ _ k51
          have t65 : w2.heap.size < w6.heap.size := World.block_lt_of_cell? _ _ k53
          have t66 : w3.heap.size < w6.heap.size := World.block_lt_of_cell? _ _ k55
          have t67 : w3.heap.size + 1 < w6.heap.size := World.block_lt_of_cell? _ _ k57
          have t68 : w4.heap.size < w6.heap.size := World.block_lt_of_cell? _ _ k59
          have t69 : w5.heap.size < w6.heap.size := World.block_lt_of_cell? _ _ k61
          clear k31 k32 k33 k34 k35 k36 k37 k38 k39 k40 k41 k42 t43 t44 t45 t46 t47 t48 hb6 hl6 hbl5
          go_wp2_with fail
          refine (H4.out _).mono ?_
          rintro e w7 ⟨rfl, hb7⟩
          have k70 := keep1 hb7 k49
          have k71 := keep1 hb7 k50
          have k72 := keep1 hb7 k51
          have k73 := keep1 hb7 k52
          have k74 := keep1 hb7 k53
          have k75 := keep1 hb7 k54
          have k76 := keep1 hb7 k55
          have k77 := keep1 hb7 k56
          have k78 := keep1 hb7 k57
          have k79 := keep1 hb7 k58
          have k80 := keep1 hb7 k59
          have k81 := keep1 hb7 k60
          have k82 := keep1 hb7 k61
          have k83 := keep1 hb7 k62
          obtain ⟨s7, k84, k85, hl7⟩ := new1 hb7
          have hbl7 := hbl6.trans (hl7.mono hbl6.size)
          have t86 : w1.heap.size < w7.heap.size := World.block_lt_of_cell? _ _ k70
          have t87 : w1.heap.size + 1 < w7.heap.size := World.block_lt_of_cell? _ _ k72
          have t88 : w2.heap.size < w7.heap.size := World.block_lt_of_cell? _ _ k74
          have t89 : w3.heap.size < w7.heap.size := World.block_lt_of_cell? _ _ k76
          have t90 : w3.heap.size + 1 < w7.heap.size := World.block_lt_of_cell? _ _ k78
          have t91 : w4.heap.size < w7.heap.size := World.block_lt_of_cell? _ _ k80
          have t92 : w5.heap.size < w7.heap.size := World.block_lt_of_cell? _ _ k82
          have t93 : w6.heap.size < w7.heap.size := World.block_lt_of_cell? _ _ k84
          clear k49 k50 k51 k52 k53 k54 k55 k56 k57 k58 k59 k60 k61 k62 t63 t64 t65 t66 t67 t68 t69 hb7 hl7 hbl6
          go_wp2
          go_ret
          first | exact ⟨rfl, hbl7⟩ | exact ⟨rfl, hbl7.alloc hbl7.size _⟩ | exact ⟨rfl, (hbl7.alloc hbl7.size _).alloc (by have := hbl7.size; simp; omega) _⟩
      · rw [h1] at H1
        rw [h3] at H3
        have H2 : Hid (∀ W, Calls Try.prog 20 #[.agg #[.int .i64 an, .int .i64 ad], .agg #[.int .i64 p, .int .i64 q]] W (Res W (mulR an ad p q))) := fun W => impl_mul an ad p q W
        have H4 : Hid (∀ W, Calls Try.prog 16 #[.agg #[.int .i64 x, .int .i64 y], .agg #[.int .i64 0, .int .i64 0]] W (Res W (addR x y 0 0))) := fun W => impl_add x y 0 0 W
        rcases h2 : mulR an ad p q with _ | ⟨r, t⟩ <;> rcases h4 : addR x y 0 0 with _ | ⟨r', t'⟩
        · rw [h2] at H2
          rw [h4] at H4
          clear h1 h2 h3 h4 ho
          go_wp2_with fail
          refine (HI.out _).mono ?_
          rintro e w2 ⟨rfl, hb2⟩
          obtain ⟨s2, k1, k2, k3, k4, hl2⟩ := box2 hb2
          have hbl2 := hbl1.trans (hl2.mono hbl1.size)
          have t5 : w1.heap.size < w2.heap.size := World.block_lt_of_cell? _ _ k1
          have t6 : w1.heap.size + 1 < w2.heap.size := World.block_lt_of_cell? _ _ k3
          clear hb2 hl2 hbl1
          go_wp2_with fail
          refine (HS.out _).mono ?_
          rintro e w3 ⟨rfl, hb3⟩
          have k7 := keep1 hb3 k1
          have k8 := keep1 hb3 k2
          have k9 := keep1 hb3 k3
          have k10 := keep1 hb3 k4
          obtain ⟨s3, k11, k12, hl3⟩ := new1 hb3
          have hbl3 := hbl2.trans (hl3.mono hbl2.size)
          have t13 : w1.heap.size < w3.heap.size := World.block_lt_of_cell? _ _ k7
          have t14 : w1.heap.size + 1 < w3.heap.size := World.block_lt_of_cell? _ _ k9
          have t15 : w2.heap.size < w3.heap.size := World.block_lt_of_cell? _ _ k11
          clear k1 k2 k3 k4 t5 t6 hb3 hl3 hbl2
          go_wp2_with fail
          refine (H1.out _).mono ?_
          rintro e w4 ⟨rfl, hb4⟩
          have k16 := keep2 hb4 k7
          have k17 := keep2 hb4 k8
          have k18 := keep2 hb4 k9
          have k19 := keep2 hb4 k10
          have k20 := keep2 hb4 k11
          have k21 := keep2 hb4 k12
          obtain ⟨s4, k22, k23, k24, k25, hl4⟩ := box2 hb4
          have hbl4 := hbl3.trans (hl4.mono hbl3.size)
          have t26 : w1.heap.size < w4.heap.size := World.block_lt_of_cell? _ _ k16
          have t27 : w1.heap.size + 1 < w4.heap.size := World.block_lt_of_cell? _ _ k18
          have t28 : w2.heap.size < w4.heap.size := World.block_lt_of_cell? _ _ k20
          have t29 : w3.heap.size < w4.heap.size := World.block_lt_of_cell? _ _ k22
          have t30 : w3.heap.size + 1 < w4.heap.size := World.block_lt_of_cell? _ _ k24
          clear k7 k8 k9 k10 k11 k12 t13 t14 t15 hb4 hl4 hbl3
          go_wp2_with fail
          refine (H2.out _).mono ?_
          rintro e w5 ⟨rfl, hb5⟩
          have k31 := keep1 hb5 k16
          have k32 := keep1 hb5 k17
          have k33 := keep1 hb5 k18
          have k34 := keep1 hb5 k19
          have k35 := keep1 hb5 k20
          have k36 := keep1 hb5 k21
          have k37 := keep1 hb5 k22
          have k38 := keep1 hb5 k23
          have k39 := keep1 hb5 k24
          have k40 := keep1 hb5 k25
          obtain ⟨s5, k41, k42, hl5⟩ := new1 hb5
          have hbl5 := hbl4.trans (hl5.mono hbl4.size)
          have t43 : w1.heap.size < w5.heap.size := World.block_lt_of_cell? _ _ k31
          have t44 : w1.heap.size + 1 < w5.heap.size := World.block_lt_of_cell? _ _ k33
          have t45 : w2.heap.size < w5.heap.size := World.block_lt_of_cell? _ _ k35
          have t46 : w3.heap.size < w5.heap.size := World.block_lt_of_cell? _ _ k37
          have t47 : w3.heap.size + 1 < w5.heap.size := World.block_lt_of_cell? _ _ k39
          have t48 : w4.heap.size < w5.heap.size := World.block_lt_of_cell? _ _ k41
          clear k16 k17 k18 k19 k20 k21 k22 k23 k24 k25 t26 t27 t28 t29 t30 hb5 hl5 hbl4
          go_wp2_with fail
          refine (H3.out _).mono ?_
          rintro e w6 ⟨rfl, hb6⟩
          have k49 := keep1 hb6 k31
          have k50 := keep1 hb6 k32
          have k51 := keep1 hb6 k33
          have k52 := keep1 hb6 k34
          have k53 := keep1 hb6 k35
          have k54 := keep1 hb6 k36
          have k55 := keep1 hb6 k37
          have k56 := keep1 hb6 k38
          have k57 := keep1 hb6 k39
          have k58 := keep1 hb6 k40
          have k59 := keep1 hb6 k41
          have k60 := keep1 hb6 k42
          obtain ⟨s6, k61, k62, hl6⟩ := new1 hb6
          have hbl6 := hbl5.trans (hl6.mono hbl5.size)
          have t63 : w1.heap.size < w6.heap.size := World.block_lt_of_cell? _ _ k49
          have t64 : w1.heap.size + 1 < w6.heap.size := World.block_lt_of_cell? _ _ k51
          have t65 : w2.heap.size < w6.heap.size := World.block_lt_of_cell? _ _ k53
          have t66 : w3.heap.size < w6.heap.size := World.block_lt_of_cell? _ _ k55
          have t67 : w3.heap.size + 1 < w6.heap.size := World.block_lt_of_cell? _ _ k57
          have t68 : w4.heap.size < w6.heap.size := World.block_lt_of_cell? _ _ k59
          have t69 : w5.heap.size < w6.heap.size := World.block_lt_of_cell? _ _ k61
          clear k31 k32 k33 k34 k35 k36 k37 k38 k39 k40 k41 k42 t43 t44 t45 t46 t47 t48 hb6 hl6 hbl5
          go_wp2_with fail
          refine (H4.out _).mono ?_
          rintro e w7 ⟨rfl, hb7⟩
          have k70 := keep1 hb7 k49
          have k71 := keep1 hb7 k50
          have k72 := keep1 hb7 k51
          have k73 := keep1 hb7 k52
          have k74 := keep1 hb7 k53
          have k75 := keep1 hb7 k54
          have k76 := keep1 hb7 k55
          have k77 := keep1 hb7 k56
          have k78 := keep1 hb7 k57
          have k79 := keep1 hb7 k58
          have k80 := keep1 hb7 k59
          have k81 := keep1 hb7 k60
          have k82 := keep1 hb7 k61
          have k83 := keep1 hb7 k62
          obtain ⟨s7, k84, k85, hl7⟩ := new1 hb7
          have hbl7 := hbl6.trans (hl7.mono hbl6.size)
          have t86 : w1.heap.size < w7.heap.size := World.block_lt_of_cell? _ _ k70
          have t87 : w1.heap.size + 1 < w7.heap.size := World.block_lt_of_cell? _ _ k72
          have t88 : w2.heap.size < w7.heap.size := World.block_lt_of_cell? _ _ k74
          have t89 : w3.heap.size < w7.heap.size := World.block_lt_of_cell? _ _ k76
          have t90 : w3.heap.size + 1 < w7.heap.size := World.block_lt_of_cell? _ _ k78
          have t91 : w4.heap.size < w7.heap.size := World.block_lt_of_cell? _ _ k80
          have t92 : w5.heap.size < w7.heap.size := World.block_lt_of_cell? _ _ k82
          have t93 : w6.heap.size < w7.heap.size := World.block_lt_of_cell? _ _ k84
          clear k49 k50 k51 k52 k53 k54 k55 k56 k57 k58 k59 k60 k61 k62 t63 t64 t65 t66 t67 t68 t69 hb7 hl7 hbl6
          go_wp2
          go_ret
          first | exact ⟨rfl, hbl7⟩ | exact ⟨rfl, hbl7.alloc hbl7.size _⟩ | exact ⟨rfl, (hbl7.alloc hbl7.size _).alloc (by have := hbl7.size; simp; omega) _⟩
        · rw [h2] at H2
          rw [h4] at H4
          clear h1 h2 h3 h4 ho
          go_wp2_with fail
          refine (HI.out _).mono ?_
          rintro e w2 ⟨rfl, hb2⟩
          obtain ⟨s2, k1, k2, k3, k4, hl2⟩ := box2 hb2
          have hbl2 := hbl1.trans (hl2.mono hbl1.size)
          have t5 : w1.heap.size < w2.heap.size := World.block_lt_of_cell? _ _ k1
          have t6 : w1.heap.size + 1 < w2.heap.size := World.block_lt_of_cell? _ _ k3
          clear hb2 hl2 hbl1
          go_wp2_with fail
          refine (HS.out _).mono ?_
          rintro e w3 ⟨rfl, hb3⟩
          have k7 := keep1 hb3 k1
          have k8 := keep1 hb3 k2
          have k9 := keep1 hb3 k3
          have k10 := keep1 hb3 k4
          obtain ⟨s3, k11, k12, hl3⟩ := new1 hb3
          have hbl3 := hbl2.trans (hl3.mono hbl2.size)
          have t13 : w1.heap.size < w3.heap.size := World.block_lt_of_cell? _ _ k7
          have t14 : w1.heap.size + 1 < w3.heap.size := World.block_lt_of_cell? _ _ k9
          have t15 : w2.heap.size < w3.heap.size := World.block_lt_of_cell? _ _ k11
          clear k1 k2 k3 k4 t5 t6 hb3 hl3 hbl2
          go_wp2_with fail
          refine (H1.out _).mono ?_
          rintro e w4 ⟨rfl, hb4⟩
          have k16 := keep2 hb4 k7
          have k17 := keep2 hb4 k8
          have k18 := keep2 hb4 k9
          have k19 := keep2 hb4 k10
          have k20 := keep2 hb4 k11
          have k21 := keep2 hb4 k12
          obtain ⟨s4, k22, k23, k24, k25, hl4⟩ := box2 hb4
          have hbl4 := hbl3.trans (hl4.mono hbl3.size)
          have t26 : w1.heap.size < w4.heap.size := World.block_lt_of_cell? _ _ k16
          have t27 : w1.heap.size + 1 < w4.heap.size := World.block_lt_of_cell? _ _ k18
          have t28 : w2.heap.size < w4.heap.size := World.block_lt_of_cell? _ _ k20
          have t29 : w3.heap.size < w4.heap.size := World.block_lt_of_cell? _ _ k22
          have t30 : w3.heap.size + 1 < w4.heap.size := World.block_lt_of_cell? _ _ k24
          clear k7 k8 k9 k10 k11 k12 t13 t14 t15 hb4 hl4 hbl3
          go_wp2_with fail
          refine (H2.out _).mono ?_
          rintro e w5 ⟨rfl, hb5⟩
          have k31 := keep1 hb5 k16
          have k32 := keep1 hb5 k17
          have k33 := keep1 hb5 k18
          have k34 := keep1 hb5 k19
          have k35 := keep1 hb5 k20
          have k36 := keep1 hb5 k21
          have k37 := keep1 hb5 k22
          have k38 := keep1 hb5 k23
          have k39 := keep1 hb5 k24
          have k40 := keep1 hb5 k25
          obtain ⟨s5, k41, k42, hl5⟩ := new1 hb5
          have hbl5 := hbl4.trans (hl5.mono hbl4.size)
          have t43 : w1.heap.size < w5.heap.size := World.block_lt_of_cell? _ _ k31
          have t44 : w1.heap.size + 1 < w5.heap.size := World.block_lt_of_cell? _ _ k33
          have t45 : w2.heap.size < w5.heap.size := World.block_lt_of_cell? _ _ k35
          have t46 : w3.heap.size < w5.heap.size := World.block_lt_of_cell? _ _ k37
          have t47 : w3.heap.size + 1 < w5.heap.size := World.block_lt_of_cell? _ _ k39
          have t48 : w4.heap.size < w5.heap.size := World.block_lt_of_cell? _ _ k41
          clear k16 k17 k18 k19 k20 k21 k22 k23 k24 k25 t26 t27 t28 t29 t30 hb5 hl5 hbl4
          go_wp2_with fail
          refine (H3.out _).mono ?_
          rintro e w6 ⟨rfl, hb6⟩
          have k49 := keep1 hb6 k31
          have k50 := keep1 hb6 k32
          have k51 := keep1 hb6 k33
          have k52 := keep1 hb6 k34
          have k53 := keep1 hb6 k35
          have k54 := keep1 hb6 k36
          have k55 := keep1 hb6 k37
          have k56 := keep1 hb6 k38
          have k57 := keep1 hb6 k39
          have k58 := keep1 hb6 k40
          have k59 := keep1 hb6 k41
          have k60 := keep1 hb6 k42
          obtain ⟨s6, k61, k62, hl6⟩ := new1 hb6
          have hbl6 := hbl5.trans (hl6.mono hbl5.size)
          have t63 : w1.heap.size < w6.heap.size := World.block_lt_of_cell? _ _ k49
          have t64 : w1.heap.size + 1 < w6.heap.size := World.block_lt_of_cell? _ _ k51
          have t65 : w2.heap.size < w6.heap.size := World.block_lt_of_cell? _ _ k53
          have t66 : w3.heap.size < w6.heap.size := World.block_lt_of_cell? _ _ k55
          have t67 : w3.heap.size + 1 < w6.heap.size := World.block_lt_of_cell? _ _ k57
          have t68 : w4.heap.size < w6.heap.size := World.block_lt_of_cell? _ _ k59
          have t69 : w5.heap.size < w6.heap.size := World.block_lt_of_cell? _ _ k61
          clear k31 k32 k33 k34 k35 k36 k37 k38 k39 k40 k41 k42 t43 t44 t45 t46 t47 t48 hb6 hl6 hbl5
          go_wp2_with fail
          refine (H4.out _).mono ?_
          rintro e w7 ⟨rfl, hb7⟩
          have k70 := keep1 hb7 k49
          have k71 := keep1 hb7 k50
          have k72 := keep1 hb7 k51
          have k73 := keep1 hb7 k52
          have k74 := keep1 hb7 k53
          have k75 := keep1 hb7 k54
          have k76 := keep1 hb7 k55
          have k77 := keep1 hb7 k56
          have k78 := keep1 hb7 k57
          have k79 := keep1 hb7 k58
          have k80 := keep1 hb7 k59
          have k81 := keep1 hb7 k60
          have k82 := keep1 hb7 k61
          have k83 := keep1 hb7 k62
          obtain ⟨s7, k84, k85, hl7⟩ := new1 hb7
          have hbl7 := hbl6.trans (hl7.mono hbl6.size)
          have t86 : w1.heap.size < w7.heap.size := World.block_lt_of_cell? _ _ k70
          have t87 : w1.heap.size + 1 < w7.heap.size := World.block_lt_of_cell? _ _ k72
          have t88 : w2.heap.size < w7.heap.size := World.block_lt_of_cell? _ _ k74
          have t89 : w3.heap.size < w7.heap.size := World.block_lt_of_cell? _ _ k76
          have t90 : w3.heap.size + 1 < w7.heap.size := World.block_lt_of_cell? _ _ k78
          have t91 : w4.heap.size < w7.heap.size := World.block_lt_of_cell? _ _ k80
          have t92 : w5.heap.size < w7.heap.size := World.block_lt_of_cell? _ _ k82
          have t93 : w6.heap.size < w7.heap.size := World.block_lt_of_cell? _ _ k84
          clear k49 k50 k51 k52 k53 k54 k55 k56 k57 k58 k59 k60 k61 k62 t63 t64 t65 t66 t67 t68 t69 hb7 hl7 hbl6
          go_wp2
          go_ret
          first | exact ⟨rfl, hbl7⟩ | exact ⟨rfl, hbl7.alloc hbl7.size _⟩ | exact ⟨rfl, (hbl7.alloc hbl7.size _).alloc (by have := hbl7.size; simp; omega) _⟩
        · rw [h2] at H2
          rw [h4] at H4
          clear h1 h2 h3 h4 ho
          go_wp2_with fail
          refine (HI.out _).mono ?_
          rintro e w2 ⟨rfl, hb2⟩
          obtain ⟨s2, k1, k2, k3, k4, hl2⟩ := box2 hb2
          have hbl2 := hbl1.trans (hl2.mono hbl1.size)
          have t5 : w1.heap.size < w2.heap.size := World.block_lt_of_cell? _ _ k1
          have t6 : w1.heap.size + 1 < w2.heap.size := World.block_lt_of_cell? _ _ k3
          clear hb2 hl2 hbl1
          go_wp2_with fail
          refine (HS.out _).mono ?_
          rintro e w3 ⟨rfl, hb3⟩
          have k7 := keep1 hb3 k1
          have k8 := keep1 hb3 k2
          have k9 := keep1 hb3 k3
          have k10 := keep1 hb3 k4
          obtain ⟨s3, k11, k12, hl3⟩ := new1 hb3
          have hbl3 := hbl2.trans (hl3.mono hbl2.size)
          have t13 : w1.heap.size < w3.heap.size := World.block_lt_of_cell? _ _ k7
          have t14 : w1.heap.size + 1 < w3.heap.size := World.block_lt_of_cell? _ _ k9
          have t15 : w2.heap.size < w3.heap.size := World.block_lt_of_cell? _ _ k11
          clear k1 k2 k3 k4 t5 t6 hb3 hl3 hbl2
          go_wp2_with fail
          refine (H1.out _).mono ?_
          rintro e w4 ⟨rfl, hb4⟩
          have k16 := keep2 hb4 k7
          have k17 := keep2 hb4 k8
          have k18 := keep2 hb4 k9
          have k19 := keep2 hb4 k10
          have k20 := keep2 hb4 k11
          have k21 := keep2 hb4 k12
          obtain ⟨s4, k22, k23, k24, k25, hl4⟩ := box2 hb4
          have hbl4 := hbl3.trans (hl4.mono hbl3.size)
          have t26 : w1.heap.size < w4.heap.size := World.block_lt_of_cell? _ _ k16
          have t27 : w1.heap.size + 1 < w4.heap.size := World.block_lt_of_cell? _ _ k18
          have t28 : w2.heap.size < w4.heap.size := World.block_lt_of_cell? _ _ k20
          have t29 : w3.heap.size < w4.heap.size := World.block_lt_of_cell? _ _ k22
          have t30 : w3.heap.size + 1 < w4.heap.size := World.block_lt_of_cell? _ _ k24
          clear k7 k8 k9 k10 k11 k12 t13 t14 t15 hb4 hl4 hbl3
          go_wp2_with fail
          refine (H2.out _).mono ?_
          rintro e w5 ⟨rfl, hb5⟩
          have k31 := keep1 hb5 k16
          have k32 := keep1 hb5 k17
          have k33 := keep1 hb5 k18
          have k34 := keep1 hb5 k19
          have k35 := keep1 hb5 k20
          have k36 := keep1 hb5 k21
          have k37 := keep1 hb5 k22
          have k38 := keep1 hb5 k23
          have k39 := keep1 hb5 k24
          have k40 := keep1 hb5 k25
          obtain ⟨s5, k41, k42, hl5⟩ := new1 hb5
          have hbl5 := hbl4.trans (hl5.mono hbl4.size)
          have t43 : w1.heap.size < w5.heap.size := World.block_lt_of_cell? _ _ k31
          have t44 : w1.heap.size + 1 < w5.heap.size := World.block_lt_of_cell? _ _ k33
          have t45 : w2.heap.size < w5.heap.size := World.block_lt_of_cell? _ _ k35
          have t46 : w3.heap.size < w5.heap.size := World.block_lt_of_cell? _ _ k37
          have t47 : w3.heap.size + 1 < w5.heap.size := World.block_lt_of_cell? _ _ k39
          have t48 : w4.heap.size < w5.heap.size := World.block_lt_of_cell? _ _ k41
          clear k16 k17 k18 k19 k20 k21 k22 k23 k24 k25 t26 t27 t28 t29 t30 hb5 hl5 hbl4
          go_wp2_with fail
          refine (H3.out _).mono ?_
          rintro e w6 ⟨rfl, hb6⟩
          have k49 := keep1 hb6 k31
          have k50 := keep1 hb6 k32
          have k51 := keep1 hb6 k33
          have k52 := keep1 hb6 k34
          have k53 := keep1 hb6 k35
          have k54 := keep1 hb6 k36
          have k55 := keep1 hb6 k37
          have k56 := keep1 hb6 k38
          have k57 := keep1 hb6 k39
          have k58 := keep1 hb6 k40
          have k59 := keep1 hb6 k41
          have k60 := keep1 hb6 k42
          obtain ⟨s6, k61, k62, hl6⟩ := new1 hb6
          have hbl6 := hbl5.trans (hl6.mono hbl5.size)
          have t63 : w1.heap.size < w6.heap.size := World.block_lt_of_cell? _ _ k49
          have t64 : w1.heap.size + 1 < w6.heap.size := World.block_lt_of_cell? _ _ k51
          have t65 : w2.heap.size < w6.heap.size := World.block_lt_of_cell? _ _ k53
          have t66 : w3.heap.size < w6.heap.size := World.block_lt_of_cell? _ _ k55
          have t67 : w3.heap.size + 1 < w6.heap.size := World.block_lt_of_cell? _ _ k57
          have t68 : w4.heap.size < w6.heap.size := World.block_lt_of_cell? _ _ k59
          have t69 : w5.heap.size < w6.heap.size := World.block_lt_of_cell? _ _ k61
          clear k31 k32 k33 k34 k35 k36 k37 k38 k39 k40 k41 k42 t43 t44 t45 t46 t47 t48 hb6 hl6 hbl5
          go_wp2_with fail
          refine (H4.out _).mono ?_
          rintro e w7 ⟨rfl, hb7⟩
          have k70 := keep1 hb7 k49
          have k71 := keep1 hb7 k50
          have k72 := keep1 hb7 k51
          have k73 := keep1 hb7 k52
          have k74 := keep1 hb7 k53
          have k75 := keep1 hb7 k54
          have k76 := keep1 hb7 k55
          have k77 := keep1 hb7 k56
          have k78 := keep1 hb7 k57
          have k79 := keep1 hb7 k58
          have k80 := keep1 hb7 k59
          have k81 := keep1 hb7 k60
          have k82 := keep1 hb7 k61
          have k83 := keep1 hb7 k62
          obtain ⟨s7, k84, k85, hl7⟩ := new1 hb7
          have hbl7 := hbl6.trans (hl7.mono hbl6.size)
          have t86 : w1.heap.size < w7.heap.size := World.block_lt_of_cell? _ _ k70
          have t87 : w1.heap.size + 1 < w7.heap.size := World.block_lt_of_cell? _ _ k72
          have t88 : w2.heap.size < w7.heap.size := World.block_lt_of_cell? _ _ k74
          have t89 : w3.heap.size < w7.heap.size := World.block_lt_of_cell? _ _ k76
          have t90 : w3.heap.size + 1 < w7.heap.size := World.block_lt_of_cell? _ _ k78
          have t91 : w4.heap.size < w7.heap.size := World.block_lt_of_cell? _ _ k80
          have t92 : w5.heap.size < w7.heap.size := World.block_lt_of_cell? _ _ k82
          have t93 : w6.heap.size < w7.heap.size := World.block_lt_of_cell? _ _ k84
          clear k49 k50 k51 k52 k53 k54 k55 k56 k57 k58 k59 k60 k61 k62 t63 t64 t65 t66 t67 t68 t69 hb7 hl7 hbl6
          go_wp2
          go_ret
          first | exact ⟨rfl, hbl7⟩ | exact ⟨rfl, hbl7.alloc hbl7.size _⟩ | exact ⟨rfl, (hbl7.alloc hbl7.size _).alloc (by have := hbl7.size; simp; omega) _⟩
        · rw [h2] at H2
          rw [h4] at H4
          clear h1 h2 h3 h4 ho
          go_wp2_with fail
          refine (HI.out _).mono ?_
          rintro e w2 ⟨rfl, hb2⟩
          obtain ⟨s2, k1, k2, k3, k4, hl2⟩ := box2 hb2
          have hbl2 := hbl1.trans (hl2.mono hbl1.size)
          have t5 : w1.heap.size < w2.heap.size := World.block_lt_of_cell? _ _ k1
          have t6 : w1.heap.size + 1 < w2.heap.size := World.block_lt_of_cell? _ _ k3
          clear hb2 hl2 hbl1
          go_wp2_with fail
          refine (HS.out _).mono ?_
          rintro e w3 ⟨rfl, hb3⟩
          have k7 := keep1 hb3 k1
          have k8 := keep1 hb3 k2
          have k9 := keep1 hb3 k3
          have k10 := keep1 hb3 k4
          obtain ⟨s3, k11, k12, hl3⟩ := new1 hb3
          have hbl3 := hbl2.trans (hl3.mono hbl2.size)
          have t13 : w1.heap.size < w3.heap.size := World.block_lt_of_cell? _ _ k7
          have t14 : w1.heap.size + 1 < w3.heap.size := World.block_lt_of_cell? _ _ k9
          have t15 : w2.heap.size < w3.heap.size := World.block_lt_of_cell? _ _ k11
          clear k1 k2 k3 k4 t5 t6 hb3 hl3 hbl2
          go_wp2_with fail
          refine (H1.out _).mono ?_
          rintro e w4 ⟨rfl, hb4⟩
          have k16 := keep2 hb4 k7
          have k17 := keep2 hb4 k8
          have k18 := keep2 hb4 k9
          have k19 := keep2 hb4 k10
          have k20 := keep2 hb4 k11
          have k21 := keep2 hb4 k12
          obtain ⟨s4, k22, k23, k24, k25, hl4⟩ := box2 hb4
          have hbl4 := hbl3.trans (hl4.mono hbl3.size)
          have t26 : w1.heap.size < w4.heap.size := World.block_lt_of_cell? _ _ k16
          have t27 : w1.heap.size + 1 < w4.heap.size := World.block_lt_of_cell? _ _ k18
          have t28 : w2.heap.size < w4.heap.size := World.block_lt_of_cell? _ _ k20
          have t29 : w3.heap.size < w4.heap.size := World.block_lt_of_cell? _ _ k22
          have t30 : w3.heap.size + 1 < w4.heap.size := World.block_lt_of_cell? _ _ k24
          clear k7 k8 k9 k10 k11 k12 t13 t14 t15 hb4 hl4 hbl3
          go_wp2_with fail
          refine (H2.out _).mono ?_
          rintro e w5 ⟨rfl, hb5⟩
          have k31 := keep1 hb5 k16
          have k32 := keep1 hb5 k17
          have k33 := keep1 hb5 k18
          have k34 := keep1 hb5 k19
          have k35 := keep1 hb5 k20
          have k36 := keep1 hb5 k21
          have k37 := keep1 hb5 k22
          have k38 := keep1 hb5 k23
          have k39 := keep1 hb5 k24
          have k40 := keep1 hb5 k25
          obtain ⟨s5, k41, k42, hl5⟩ := new1 hb5
          have hbl5 := hbl4.trans (hl5.mono hbl4.size)
          have t43 : w1.heap.size < w5.heap.size := World.block_lt_of_cell? _ _ k31
          have t44 : w1.heap.size + 1 < w5.heap.size := World.block_lt_of_cell? _ _ k33
          have t45 : w2.heap.size < w5.heap.size := World.block_lt_of_cell? _ _ k35
          have t46 : w3.heap.size < w5.heap.size := World.block_lt_of_cell? _ _ k37
          have t47 : w3.heap.size + 1 < w5.heap.size := World.block_lt_of_cell? _ _ k39
          have t48 : w4.heap.size < w5.heap.size := World.block_lt_of_cell? _ _ k41
          clear k16 k17 k18 k19 k20 k21 k22 k23 k24 k25 t26 t27 t28 t29 t30 hb5 hl5 hbl4
          go_wp2_with fail
          refine (H3.out _).mono ?_
          rintro e w6 ⟨rfl, hb6⟩
          have k49 := keep1 hb6 k31
          have k50 := keep1 hb6 k32
          have k51 := keep1 hb6 k33
          have k52 := keep1 hb6 k34
          have k53 := keep1 hb6 k35
          have k54 := keep1 hb6 k36
          have k55 := keep1 hb6 k37
          have k56 := keep1 hb6 k38
          have k57 := keep1 hb6 k39
          have k58 := keep1 hb6 k40
          have k59 := keep1 hb6 k41
          have k60 := keep1 hb6 k42
          obtain ⟨s6, k61, k62, hl6⟩ := new1 hb6
          have hbl6 := hbl5.trans (hl6.mono hbl5.size)
          have t63 : w1.heap.size < w6.heap.size := World.block_lt_of_cell? _ _ k49
          have t64 : w1.heap.size + 1 < w6.heap.size := World.block_lt_of_cell? _ _ k51
          have t65 : w2.heap.size < w6.heap.size := World.block_lt_of_cell? _ _ k53
          have t66 : w3.heap.size < w6.heap.size := World.block_lt_of_cell? _ _ k55
          have t67 : w3.heap.size + 1 < w6.heap.size := World.block_lt_of_cell? _ _ k57
          have t68 : w4.heap.size < w6.heap.size := World.block_lt_of_cell? _ _ k59
          have t69 : w5.heap.size < w6.heap.size := World.block_lt_of_cell? _ _ k61
          clear k31 k32 k33 k34 k35 k36 k37 k38 k39 k40 k41 k42 t43 t44 t45 t46 t47 t48 hb6 hl6 hbl5
          go_wp2_with fail
          refine (H4.out _).mono ?_
          rintro e w7 ⟨rfl, hb7⟩
          have k70 := keep1 hb7 k49
          have k71 := keep1 hb7 k50
          have k72 := keep1 hb7 k51
          have k73 := keep1 hb7 k52
          have k74 := keep1 hb7 k53
          have k75 := keep1 hb7 k54
          have k76 := keep1 hb7 k55
          have k77 := keep1 hb7 k56
          have k78 := keep1 hb7 k57
          have k79 := keep1 hb7 k58
          have k80 := keep1 hb7 k59
          have k81 := keep1 hb7 k60
          have k82 := keep1 hb7 k61
          have k83 := keep1 hb7 k62
          obtain ⟨s7, k84, k85, hl7⟩ := new1 hb7
          have hbl7 := hbl6.trans (hl7.mono hbl6.size)
          have t86 : w1.heap.size < w7.heap.size := World.block_lt_of_cell? _ _ k70
          have t87 : w1.heap.size + 1 < w7.heap.size := World.block_lt_of_cell? _ _ k72
          have t88 : w2.heap.size < w7.heap.size := World.block_lt_of_cell? _ _ k74
          have t89 : w3.heap.size < w7.heap.size := World.block_lt_of_cell? _ _ k76
          have t90 : w3.heap.size + 1 < w7.heap.size := World.block_lt_of_cell? _ _ k78
          have t91 : w4.heap.size < w7.heap.size := World.block_lt_of_cell? _ _ k80
          have t92 : w5.heap.size < w7.heap.size := World.block_lt_of_cell? _ _ k82
          have t93 : w6.heap.size < w7.heap.size := World.block_lt_of_cell? _ _ k84
          clear k49 k50 k51 k52 k53 k54 k55 k56 k57 k58 k59 k60 k61 k62 t63 t64 t65 t66 t67 t68 t69 hb7 hl7 hbl6
          go_wp2
          go_ret
          first | exact ⟨rfl, hbl7⟩ | exact ⟨rfl, hbl7.alloc hbl7.size _⟩ | exact ⟨rfl, (hbl7.alloc hbl7.size _).alloc (by have := hbl7.size; simp; omega) _⟩
      · rw [h1] at H1
        rw [h3] at H3
        have H2 : Hid (∀ W, Calls Try.prog 20 #[.agg #[.int .i64 an, .int .i64 ad], .agg #[.int .i64 p, .int .i64 q]] W (Res W (mulR an ad p q))) := fun W => impl_mul an ad p q W
        have H4 : Hid (∀ W, Calls Try.prog 16 #[.agg #[.int .i64 x, .int .i64 y], .agg #[.int .i64 u, .int .i64 v]] W (Res W (addR x y u v))) := fun W => impl_add x y u v W
        rcases h2 : mulR an ad p q with _ | ⟨r, t⟩ <;> rcases h4 : addR x y u v with _ | ⟨r', t'⟩
        · rw [h2] at H2
          rw [h4] at H4
          clear h1 h2 h3 h4 ho
          go_wp2_with fail
          refine (HI.out _).mono ?_
          rintro e w2 ⟨rfl, hb2⟩
          obtain ⟨s2, k1, k2, k3, k4, hl2⟩ := box2 hb2
          have hbl2 := hbl1.trans (hl2.mono hbl1.size)
          have t5 : w1.heap.size < w2.heap.size := World.block_lt_of_cell? _ _ k1
          have t6 : w1.heap.size + 1 < w2.heap.size := World.block_lt_of_cell? _ _ k3
          clear hb2 hl2 hbl1
          go_wp2_with fail
          refine (HS.out _).mono ?_
          rintro e w3 ⟨rfl, hb3⟩
          have k7 := keep1 hb3 k1
          have k8 := keep1 hb3 k2
          have k9 := keep1 hb3 k3
          have k10 := keep1 hb3 k4
          obtain ⟨s3, k11, k12, hl3⟩ := new1 hb3
          have hbl3 := hbl2.trans (hl3.mono hbl2.size)
          have t13 : w1.heap.size < w3.heap.size := World.block_lt_of_cell? _ _ k7
          have t14 : w1.heap.size + 1 < w3.heap.size := World.block_lt_of_cell? _ _ k9
          have t15 : w2.heap.size < w3.heap.size := World.block_lt_of_cell? _ _ k11
          clear k1 k2 k3 k4 t5 t6 hb3 hl3 hbl2
          go_wp2_with fail
          refine (H1.out _).mono ?_
          rintro e w4 ⟨rfl, hb4⟩
          have k16 := keep2 hb4 k7
          have k17 := keep2 hb4 k8
          have k18 := keep2 hb4 k9
          have k19 := keep2 hb4 k10
          have k20 := keep2 hb4 k11
          have k21 := keep2 hb4 k12
          obtain ⟨s4, k22, k23, k24, k25, hl4⟩ := box2 hb4
          have hbl4 := hbl3.trans (hl4.mono hbl3.size)
          have t26 : w1.heap.size < w4.heap.size := World.block_lt_of_cell? _ _ k16
          have t27 : w1.heap.size + 1 < w4.heap.size := World.block_lt_of_cell? _ _ k18
          have t28 : w2.heap.size < w4.heap.size := World.block_lt_of_cell? _ _ k20
          have t29 : w3.heap.size < w4.heap.size := World.block_lt_of_cell? _ _ k22
          have t30 : w3.heap.size + 1 < w4.heap.size := World.block_lt_of_cell? _ _ k24
          clear k7 k8 k9 k10 k11 k12 t13 t14 t15 hb4 hl4 hbl3
          go_wp2_with fail
          refine (H2.out _).mono ?_
          rintro e w5 ⟨rfl, hb5⟩
          have k31 := keep1 hb5 k16
          have k32 := keep1 hb5 k17
          have k33 := keep1 hb5 k18
          have k34 := keep1 hb5 k19
          have k35 := keep1 hb5 k20
          have k36 := keep1 hb5 k21
          have k37 := keep1 hb5 k22
          have k38 := keep1 hb5 k23
          have k39 := keep1 hb5 k24
          have k40 := keep1 hb5 k25
          obtain ⟨s5, k41, k42, hl5⟩ := new1 hb5
          have hbl5 := hbl4.trans (hl5.mono hbl4.size)
          have t43 : w1.heap.size < w5.heap.size := World.block_lt_of_cell? _ _ k31
          have t44 : w1.heap.size + 1 < w5.heap.size := World.block_lt_of_cell? _ _ k33
          have t45 : w2.heap.size < w5.heap.size := World.block_lt_of_cell? _ _ k35
          have t46 : w3.heap.size < w5.heap.size := World.block_lt_of_cell? _ _ k37
          have t47 : w3.heap.size + 1 < w5.heap.size := World.block_lt_of_cell? _ _ k39
          have t48 : w4.heap.size < w5.heap.size := World.block_lt_of_cell? _ _ k41
          clear k16 k17 k18 k19 k20 k21 k22 k23 k24 k25 t26 t27 t28 t29 t30 hb5 hl5 hbl4
          go_wp2_with fail
          refine (H3.out _).mono ?_
          rintro e w6 ⟨rfl, hb6⟩
          have k49 := keep1 hb6 k31
          have k50 := keep1 hb6 k32
          have k51 := keep1 hb6 k33
          have k52 := keep1 hb6 k34
          have k53 := keep1 hb6 k35
          have k54 := keep1 hb6 k36
          have k55 := keep1 hb6 k37
          have k56 := keep1 hb6 k38
          have k57 := keep1 hb6 k39
          have k58 := keep1 hb6 k40
          have k59 := keep1 hb6 k41
          have k60 := keep1 hb6 k42
          obtain ⟨s6, k61, k62, hl6⟩ := new1 hb6
          have hbl6 := hbl5.trans (hl6.mono hbl5.size)
          have t63 : w1.heap.size < w6.heap.size := World.block_lt_of_cell? _ _ k49
          have t64 : w1.heap.size + 1 < w6.heap.size := World.block_lt_of_cell? _ _ k51
          have t65 : w2.heap.size < w6.heap.size := World.block_lt_of_cell? _ _ k53
          have t66 : w3.heap.size < w6.heap.size := World.block_lt_of_cell? _ _ k55
          have t67 : w3.heap.size + 1 < w6.heap.size := World.block_lt_of_cell? _ _ k57
          have t68 : w4.heap.size < w6.heap.size := World.block_lt_of_cell? _ _ k59
          have t69 : w5.heap.size < w6.heap.size := World.block_lt_of_cell? _ _ k61
          clear k31 k32 k33 k34 k35 k36 k37 k38 k39 k40 k41 k42 t43 t44 t45 t46 t47 t48 hb6 hl6 hbl5
          go_wp2_with fail
          refine (H4.out _).mono ?_
          rintro e w7 ⟨rfl, hb7⟩
          have k70 := keep1 hb7 k49
          have k71 := keep1 hb7 k50
          have k72 := keep1 hb7 k51
          have k73 := keep1 hb7 k52
          have k74 := keep1 hb7 k53
          have k75 := keep1 hb7 k54
          have k76 := keep1 hb7 k55
          have k77 := keep1 hb7 k56
          have k78 := keep1 hb7 k57
          have k79 := keep1 hb7 k58
          have k80 := keep1 hb7 k59
          have k81 := keep1 hb7 k60
          have k82 := keep1 hb7 k61
          have k83 := keep1 hb7 k62
          obtain ⟨s7, k84, k85, hl7⟩ := new1 hb7
          have hbl7 := hbl6.trans (hl7.mono hbl6.size)
          have t86 : w1.heap.size < w7.heap.size := World.block_lt_of_cell? _ _ k70
          have t87 : w1.heap.size + 1 < w7.heap.size := World.block_lt_of_cell? _ _ k72
          have t88 : w2.heap.size < w7.heap.size := World.block_lt_of_cell? _ _ k74
          have t89 : w3.heap.size < w7.heap.size := World.block_lt_of_cell? _ _ k76
          have t90 : w3.heap.size + 1 < w7.heap.size := World.block_lt_of_cell? _ _ k78
          have t91 : w4.heap.size < w7.heap.size := World.block_lt_of_cell? _ _ k80
          have t92 : w5.heap.size < w7.heap.size := World.block_lt_of_cell? _ _ k82
          have t93 : w6.heap.size < w7.heap.size := World.block_lt_of_cell? _ _ k84
          clear k49 k50 k51 k52 k53 k54 k55 k56 k57 k58 k59 k60 k61 k62 t63 t64 t65 t66 t67 t68 t69 hb7 hl7 hbl6
          go_wp2
          go_ret
          first | exact ⟨rfl, hbl7⟩ | exact ⟨rfl, hbl7.alloc hbl7.size _⟩ | exact ⟨rfl, (hbl7.alloc hbl7.size _).alloc (by have := hbl7.size; simp; omega) _⟩
        · rw [h2] at H2
          rw [h4] at H4
          clear h1 h2 h3 h4 ho
          go_wp2_with fail
          refine (HI.out _).mono ?_
          rintro e w2 ⟨rfl, hb2⟩
          obtain ⟨s2, k1, k2, k3, k4, hl2⟩ := box2 hb2
          have hbl2 := hbl1.trans (hl2.mono hbl1.size)
          have t5 : w1.heap.size < w2.heap.size := World.block_lt_of_cell? _ _ k1
          have t6 : w1.heap.size + 1 < w2.heap.size := World.block_lt_of_cell? _ _ k3
          clear hb2 hl2 hbl1
          go_wp2_with fail
          refine (HS.out _).mono ?_
          rintro e w3 ⟨rfl, hb3⟩
          have k7 := keep1 hb3 k1
          have k8 := keep1 hb3 k2
          have k9 := keep1 hb3 k3
          have k10 := keep1 hb3 k4
          obtain ⟨s3, k11, k12, hl3⟩ := new1 hb3
          have hbl3 := hbl2.trans (hl3.mono hbl2.size)
          have t13 : w1.heap.size < w3.heap.size := World.block_lt_of_cell? _ _ k7
          have t14 : w1.heap.size + 1 < w3.heap.size := World.block_lt_of_cell? _ _ k9
          have t15 : w2.heap.size < w3.heap.size := World.block_lt_of_cell? _ _ k11
          clear k1 k2 k3 k4 t5 t6 hb3 hl3 hbl2
          go_wp2_with fail
          refine (H1.out _).mono ?_
          rintro e w4 ⟨rfl, hb4⟩
          have k16 := keep2 hb4 k7
          have k17 := keep2 hb4 k8
          have k18 := keep2 hb4 k9
          have k19 := keep2 hb4 k10
          have k20 := keep2 hb4 k11
          have k21 := keep2 hb4 k12
          obtain ⟨s4, k22, k23, k24, k25, hl4⟩ := box2 hb4
          have hbl4 := hbl3.trans (hl4.mono hbl3.size)
          have t26 : w1.heap.size < w4.heap.size := World.block_lt_of_cell? _ _ k16
          have t27 : w1.heap.size + 1 < w4.heap.size := World.block_lt_of_cell? _ _ k18
          have t28 : w2.heap.size < w4.heap.size := World.block_lt_of_cell? _ _ k20
          have t29 : w3.heap.size < w4.heap.size := World.block_lt_of_cell? _ _ k22
          have t30 : w3.heap.size + 1 < w4.heap.size := World.block_lt_of_cell? _ _ k24
          clear k7 k8 k9 k10 k11 k12 t13 t14 t15 hb4 hl4 hbl3
          go_wp2_with fail
          refine (H2.out _).mono ?_
          rintro e w5 ⟨rfl, hb5⟩
          have k31 := keep1 hb5 k16
          have k32 := keep1 hb5 k17
          have k33 := keep1 hb5 k18
          have k34 := keep1 hb5 k19
          have k35 := keep1 hb5 k20
          have k36 := keep1 hb5 k21
          have k37 := keep1 hb5 k22
          have k38 := keep1 hb5 k23
          have k39 := keep1 hb5 k24
          have k40 := keep1 hb5 k25
          obtain ⟨s5, k41, k42, hl5⟩ := new1 hb5
          have hbl5 := hbl4.trans (hl5.mono hbl4.size)
          have t43 : w1.heap.size < w5.heap.size := World.block_lt_of_cell? _ _ k31
          have t44 : w1.heap.size + 1 < w5.heap.size := World.block_lt_of_cell? _ _ k33
          have t45 : w2.heap.size < w5.heap.size := World.block_lt_of_cell? _ _ k35
          have t46 : w3.heap.size < w5.heap.size := World.block_lt_of_cell? _ _ k37
          have t47 : w3.heap.size + 1 < w5.heap.size := World.block_lt_of_cell? _ _ k39
          have t48 : w4.heap.size < w5.heap.size := World.block_lt_of_cell? _ _ k41
          clear k16 k17 k18 k19 k20 k21 k22 k23 k24 k25 t26 t27 t28 t29 t30 hb5 hl5 hbl4
          go_wp2_with fail
          refine (H3.out _).mono ?_
          rintro e w6 ⟨rfl, hb6⟩
          have k49 := keep1 hb6 k31
          have k50 := keep1 hb6 k32
          have k51 := keep1 hb6 k33
          have k52 := keep1 hb6 k34
          have k53 := keep1 hb6 k35
          have k54 := keep1 hb6 k36
          have k55 := keep1 hb6 k37
          have k56 := keep1 hb6 k38
          have k57 := keep1 hb6 k39
          have k58 := keep1 hb6 k40
          have k59 := keep1 hb6 k41
          have k60 := keep1 hb6 k42
          obtain ⟨s6, k61, k62, hl6⟩ := new1 hb6
          have hbl6 := hbl5.trans (hl6.mono hbl5.size)
          have t63 : w1.heap.size < w6.heap.size := World.block_lt_of_cell? _ _ k49
          have t64 : w1.heap.size + 1 < w6.heap.size := World.block_lt_of_cell? _ _ k51
          have t65 : w2.heap.size < w6.heap.size := World.block_lt_of_cell? _ _ k53
          have t66 : w3.heap.size < w6.heap.size := World.block_lt_of_cell? _ _ k55
          have t67 : w3.heap.size + 1 < w6.heap.size := World.block_lt_of_cell? _ _ k57
          have t68 : w4.heap.size < w6.heap.size := World.block_lt_of_cell? _ _ k59
          have t69 : w5.heap.size < w6.heap.size := World.block_lt_of_cell? _ _ k61
          clear k31 k32 k33 k34 k35 k36 k37 k38 k39 k40 k41 k42 t43 t44 t45 t46 t47 t48 hb6 hl6 hbl5
          go_wp2_with fail
          refine (H4.out _).mono ?_
          rintro e w7 ⟨rfl, hb7⟩
          have k70 := keep1 hb7 k49
          have k71 := keep1 hb7 k50
          have k72 := keep1 hb7 k51
          have k73 := keep1 hb7 k52
          have k74 := keep1 hb7 k53
          have k75 := keep1 hb7 k54
          have k76 := keep1 hb7 k55
          have k77 := keep1 hb7 k56
          have k78 := keep1 hb7 k57
          have k79 := keep1 hb7 k58
          have k80 := keep1 hb7 k59
          have k81 := keep1 hb7 k60
          have k82 := keep1 hb7 k61
          have k83 := keep1 hb7 k62
          obtain ⟨s7, k84, k85, hl7⟩ := new1 hb7
          have hbl7 := hbl6.trans (hl7.mono hbl6.size)
          have t86 : w1.heap.size < w7.heap.size := World.block_lt_of_cell? _ _ k70
          have t87 : w1.heap.size + 1 < w7.heap.size := World.block_lt_of_cell? _ _ k72
          have t88 : w2.heap.size < w7.heap.size := World.block_lt_of_cell? _ _ k74
          have t89 : w3.heap.size < w7.heap.size := World.block_lt_of_cell? _ _ k76
          have t90 : w3.heap.size + 1 < w7.heap.size := World.block_lt_of_cell? _ _ k78
          have t91 : w4.heap.size < w7.heap.size := World.block_lt_of_cell? _ _ k80
          have t92 : w5.heap.size < w7.heap.size := World.block_lt_of_cell? _ _ k82
          have t93 : w6.heap.size < w7.heap.size := World.block_lt_of_cell? _ _ k84
          clear k49 k50 k51 k52 k53 k54 k55 k56 k57 k58 k59 k60 k61 k62 t63 t64 t65 t66 t67 t68 t69 hb7 hl7 hbl6
          go_wp2
          go_ret
          first | exact ⟨rfl, hbl7⟩ | exact ⟨rfl, hbl7.alloc hbl7.size _⟩ | exact ⟨rfl, (hbl7.alloc hbl7.size _).alloc (by have := hbl7.size; simp; omega) _⟩
        · rw [h2] at H2
          rw [h4] at H4
          clear h1 h2 h3 h4 ho
          go_wp2_with fail
          refine (HI.out _).mono ?_
          rintro e w2 ⟨rfl, hb2⟩
          obtain ⟨s2, k1, k2, k3, k4, hl2⟩ := box2 hb2
          have hbl2 := hbl1.trans (hl2.mono hbl1.size)
          have t5 : w1.heap.size < w2.heap.size := World.block_lt_of_cell? _ _ k1
          have t6 : w1.heap.size + 1 < w2.heap.size := World.block_lt_of_cell? _ _ k3
          clear hb2 hl2 hbl1
          go_wp2_with fail
          refine (HS.out _).mono ?_
          rintro e w3 ⟨rfl, hb3⟩
          have k7 := keep1 hb3 k1
          have k8 := keep1 hb3 k2
          have k9 := keep1 hb3 k3
          have k10 := keep1 hb3 k4
          obtain ⟨s3, k11, k12, hl3⟩ := new1 hb3
          have hbl3 := hbl2.trans (hl3.mono hbl2.size)
          have t13 : w1.heap.size < w3.heap.size := World.block_lt_of_cell? _ _ k7
          have t14 : w1.heap.size + 1 < w3.heap.size := World.block_lt_of_cell? _ _ k9
          have t15 : w2.heap.size < w3.heap.size := World.block_lt_of_cell? _ _ k11
          clear k1 k2 k3 k4 t5 t6 hb3 hl3 hbl2
          go_wp2_with fail
          refine (H1.out _).mono ?_
          rintro e w4 ⟨rfl, hb4⟩
          have k16 := keep2 hb4 k7
          have k17 := keep2 hb4 k8
          have k18 := keep2 hb4 k9
          have k19 := keep2 hb4 k10
          have k20 := keep2 hb4 k11
          have k21 := keep2 hb4 k12
          obtain ⟨s4, k22, k23, k24, k25, hl4⟩ := box2 hb4
          have hbl4 := hbl3.trans (hl4.mono hbl3.size)
          have t26 : w1.heap.size < w4.heap.size := World.block_lt_of_cell? _ _ k16
          have t27 : w1.heap.size + 1 < w4.heap.size := World.block_lt_of_cell? _ _ k18
          have t28 : w2.heap.size < w4.heap.size := World.block_lt_of_cell? _ _ k20
          have t29 : w3.heap.size < w4.heap.size := World.block_lt_of_cell? _ _ k22
          have t30 : w3.heap.size + 1 < w4.heap.size := World.block_lt_of_cell? _ _ k24
          clear k7 k8 k9 k10 k11 k12 t13 t14 t15 hb4 hl4 hbl3
          go_wp2_with fail
          refine (H2.out _).mono ?_
          rintro e w5 ⟨rfl, hb5⟩
          have k31 := keep1 hb5 k16
          have k32 := keep1 hb5 k17
          have k33 := keep1 hb5 k18
          have k34 := keep1 hb5 k19
          have k35 := keep1 hb5 k20
          have k36 := keep1 hb5 k21
          have k37 := keep1 hb5 k22
          have k38 := keep1 hb5 k23
          have k39 := keep1 hb5 k24
          have k40 := keep1 hb5 k25
          obtain ⟨s5, k41, k42, hl5⟩ := new1 hb5
          have hbl5 := hbl4.trans (hl5.mono hbl4.size)
          have t43 : w1.heap.size < w5.heap.size := World.block_lt_of_cell? _ _ k31
          have t44 : w1.heap.size + 1 < w5.heap.size := World.block_lt_of_cell? _ _ k33
          have t45 : w2.heap.size < w5.heap.size := World.block_lt_of_cell? _ _ k35
          have t46 : w3.heap.size < w5.heap.size := World.block_lt_of_cell? _ _ k37
          have t47 : w3.heap.size + 1 < w5.heap.size := World.block_lt_of_cell? _ _ k39
          have t48 : w4.heap.size < w5.heap.size := World.block_lt_of_cell? _ _ k41
          clear k16 k17 k18 k19 k20 k21 k22 k23 k24 k25 t26 t27 t28 t29 t30 hb5 hl5 hbl4
          go_wp2_with fail
          refine (H3.out _).mono ?_
          rintro e w6 ⟨rfl, hb6⟩
          have k49 := keep1 hb6 k31
          have k50 := keep1 hb6 k32
          have k51 := keep1 hb6 k33
          have k52 := keep1 hb6 k34
          have k53 := keep1 hb6 k35
          have k54 := keep1 hb6 k36
          have k55 := keep1 hb6 k37
          have k56 := keep1 hb6 k38
          have k57 := keep1 hb6 k39
          have k58 := keep1 hb6 k40
          have k59 := keep1 hb6 k41
          have k60 := keep1 hb6 k42
          obtain ⟨s6, k61, k62, hl6⟩ := new1 hb6
          have hbl6 := hbl5.trans (hl6.mono hbl5.size)
          have t63 : w1.heap.size < w6.heap.size := World.block_lt_of_cell? _ _ k49
          have t64 : w1.heap.size + 1 < w6.heap.size := World.block_lt_of_cell? _ _ k51
          have t65 : w2.heap.size < w6.heap.size := World.block_lt_of_cell? _ _ k53
          have t66 : w3.heap.size < w6.heap.size := World.block_lt_of_cell? _ _ k55
          have t67 : w3.heap.size + 1 < w6.heap.size := World.block_lt_of_cell? _ _ k57
          have t68 : w4.heap.size < w6.heap.size := World.block_lt_of_cell? _ _ k59
          have t69 : w5.heap.size < w6.heap.size := World.block_lt_of_cell? _ _ k61
          clear k31 k32 k33 k34 k35 k36 k37 k38 k39 k40 k41 k42 t43 t44 t45 t46 t47 t48 hb6 hl6 hbl5
          go_wp2_with fail
          refine (H4.out _).mono ?_
          rintro e w7 ⟨rfl, hb7⟩
          have k70 := keep1 hb7 k49
          have k71 := keep1 hb7 k50
          have k72 := keep1 hb7 k51
          have k73 := keep1 hb7 k52
          have k74 := keep1 hb7 k53
          have k75 := keep1 hb7 k54
          have k76 := keep1 hb7 k55
          have k77 := keep1 hb7 k56
          have k78 := keep1 hb7 k57
          have k79 := keep1 hb7 k58
          have k80 := keep1 hb7 k59
          have k81 := keep1 hb7 k60
          have k82 := keep1 hb7 k61
          have k83 := keep1 hb7 k62
          obtain ⟨s7, k84, k85, hl7⟩ := new1 hb7
          have hbl7 := hbl6.trans (hl7.mono hbl6.size)
          have t86 : w1.heap.size < w7.heap.size := World.block_lt_of_cell? _ _ k70
          have t87 : w1.heap.size + 1 < w7.heap.size := World.block_lt_of_cell? _ _ k72
          have t88 : w2.heap.size < w7.heap.size := World.block_lt_of_cell? _ _ k74
          have t89 : w3.heap.size < w7.heap.size := World.block_lt_of_cell? _ _ k76
          have t90 : w3.heap.size + 1 < w7.heap.size := World.block_lt_of_cell? _ _ k78
          have t91 : w4.heap.size < w7.heap.size := World.block_lt_of_cell? _ _ k80
          have t92 : w5.heap.size < w7.heap.size := World.block_lt_of_cell? _ _ k82
          have t93 : w6.heap.size < w7.heap.size := World.block_lt_of_cell? _ _ k84
          clear k49 k50 k51 k52 k53 k54 k55 k56 k57 k58 k59 k60 k61 k62 t63 t64 t65 t66 t67 t68 t69 hb7 hl7 hbl6
          go_wp2
          go_ret
          first | exact ⟨rfl, hbl7⟩ | exact ⟨rfl, hbl7.alloc hbl7.size _⟩ | exact ⟨rfl, (hbl7.alloc hbl7.size _).alloc (by have := hbl7.size; simp; omega) _⟩
        · rw [h2] at H2
          rw [h4] at H4
          obtain ⟨rfl, rfl⟩ := mul_over ho h1 h2 h3 h4
          clear h1 h2 h3 h4 ho
          go_wp2_with fail
          refine (HI.out _).mono ?_
          rintro e w2 ⟨rfl, hb2⟩
          obtain ⟨s2, k1, k2, k3, k4, hl2⟩ := box2 hb2
          have hbl2 := hbl1.trans (hl2.mono hbl1.size)
          have t5 : w1.heap.size < w2.heap.size := World.block_lt_of_cell? _ _ k1
          have t6 : w1.heap.size + 1 < w2.heap.size := World.block_lt_of_cell? _ _ k3
          clear hb2 hl2 hbl1
          go_wp2_with fail
          refine (HS.out _).mono ?_
          rintro e w3 ⟨rfl, hb3⟩
          have k7 := keep1 hb3 k1
          have k8 := keep1 hb3 k2
          have k9 := keep1 hb3 k3
          have k10 := keep1 hb3 k4
          obtain ⟨s3, k11, k12, hl3⟩ := new1 hb3
          have hbl3 := hbl2.trans (hl3.mono hbl2.size)
          have t13 : w1.heap.size < w3.heap.size := World.block_lt_of_cell? _ _ k7
          have t14 : w1.heap.size + 1 < w3.heap.size := World.block_lt_of_cell? _ _ k9
          have t15 : w2.heap.size < w3.heap.size := World.block_lt_of_cell? _ _ k11
          clear k1 k2 k3 k4 t5 t6 hb3 hl3 hbl2
          go_wp2_with fail
          refine (H1.out _).mono ?_
          rintro e w4 ⟨rfl, hb4⟩
          have k16 := keep2 hb4 k7
          have k17 := keep2 hb4 k8
          have k18 := keep2 hb4 k9
          have k19 := keep2 hb4 k10
          have k20 := keep2 hb4 k11
          have k21 := keep2 hb4 k12
          obtain ⟨s4, k22, k23, k24, k25, hl4⟩ := box2 hb4
          have hbl4 := hbl3.trans (hl4.mono hbl3.size)
          have t26 : w1.heap.size < w4.heap.size := World.block_lt_of_cell? _ _ k16
          have t27 : w1.heap.size + 1 < w4.heap.size := World.block_lt_of_cell? _ _ k18
          have t28 : w2.heap.size < w4.heap.size := World.block_lt_of_cell? _ _ k20
          have t29 : w3.heap.size < w4.heap.size := World.block_lt_of_cell? _ _ k22
          have t30 : w3.heap.size + 1 < w4.heap.size := World.block_lt_of_cell? _ _ k24
          clear k7 k8 k9 k10 k11 k12 t13 t14 t15 hb4 hl4 hbl3
          go_wp2_with fail
          refine (H2.out _).mono ?_
          rintro e w5 ⟨rfl, hb5⟩
          have k31 := keep1 hb5 k16
          have k32 := keep1 hb5 k17
          have k33 := keep1 hb5 k18
          have k34 := keep1 hb5 k19
          have k35 := keep1 hb5 k20
          have k36 := keep1 hb5 k21
          have k37 := keep1 hb5 k22
          have k38 := keep1 hb5 k23
          have k39 := keep1 hb5 k24
          have k40 := keep1 hb5 k25
          obtain ⟨s5, k41, k42, hl5⟩ := new1 hb5
          have hbl5 := hbl4.trans (hl5.mono hbl4.size)
          have t43 : w1.heap.size < w5.heap.size := World.block_lt_of_cell? _ _ k31
          have t44 : w1.heap.size + 1 < w5.heap.size := World.block_lt_of_cell? _ _ k33
          have t45 : w2.heap.size < w5.heap.size := World.block_lt_of_cell? _ _ k35
          have t46 : w3.heap.size < w5.heap.size := World.block_lt_of_cell? _ _ k37
          have t47 : w3.heap.size + 1 < w5.heap.size := World.block_lt_of_cell? _ _ k39
          have t48 : w4.heap.size < w5.heap.size := World.block_lt_of_cell? _ _ k41
          clear k16 k17 k18 k19 k20 k21 k22 k23 k24 k25 t26 t27 t28 t29 t30 hb5 hl5 hbl4
          go_wp2_with fail
          refine (H3.out _).mono ?_
          rintro e w6 ⟨rfl, hb6⟩
          have k49 := keep1 hb6 k31
          have k50 := keep1 hb6 k32
          have k51 := keep1 hb6 k33
          have k52 := keep1 hb6 k34
          have k53 := keep1 hb6 k35
          have k54 := keep1 hb6 k36
          have k55 := keep1 hb6 k37
          have k56 := keep1 hb6 k38
          have k57 := keep1 hb6 k39
          have k58 := keep1 hb6 k40
          have k59 := keep1 hb6 k41
          have k60 := keep1 hb6 k42
          obtain ⟨s6, k61, k62, hl6⟩ := new1 hb6
          have hbl6 := hbl5.trans (hl6.mono hbl5.size)
          have t63 : w1.heap.size < w6.heap.size := World.block_lt_of_cell? _ _ k49
          have t64 : w1.heap.size + 1 < w6.heap.size := World.block_lt_of_cell? _ _ k51
          have t65 : w2.heap.size < w6.heap.size := World.block_lt_of_cell? _ _ k53
          have t66 : w3.heap.size < w6.heap.size := World.block_lt_of_cell? _ _ k55
          have t67 : w3.heap.size + 1 < w6.heap.size := World.block_lt_of_cell? _ _ k57
          have t68 : w4.heap.size < w6.heap.size := World.block_lt_of_cell? _ _ k59
          have t69 : w5.heap.size < w6.heap.size := World.block_lt_of_cell? _ _ k61
          clear k31 k32 k33 k34 k35 k36 k37 k38 k39 k40 k41 k42 t43 t44 t45 t46 t47 t48 hb6 hl6 hbl5
          go_wp2_with fail
          refine (H4.out _).mono ?_
          rintro e w7 ⟨rfl, hb7⟩
          have k70 := keep1 hb7 k49
          have k71 := keep1 hb7 k50
          have k72 := keep1 hb7 k51
          have k73 := keep1 hb7 k52
          have k74 := keep1 hb7 k53
          have k75 := keep1 hb7 k54
          have k76 := keep1 hb7 k55
          have k77 := keep1 hb7 k56
          have k78 := keep1 hb7 k57
          have k79 := keep1 hb7 k58
          have k80 := keep1 hb7 k59
          have k81 := keep1 hb7 k60
          have k82 := keep1 hb7 k61
          have k83 := keep1 hb7 k62
          obtain ⟨s7, k84, k85, hl7⟩ := new1 hb7
          have hbl7 := hbl6.trans (hl7.mono hbl6.size)
          have t86 : w1.heap.size < w7.heap.size := World.block_lt_of_cell? _ _ k70
          have t87 : w1.heap.size + 1 < w7.heap.size := World.block_lt_of_cell? _ _ k72
          have t88 : w2.heap.size < w7.heap.size := World.block_lt_of_cell? _ _ k74
          have t89 : w3.heap.size < w7.heap.size := World.block_lt_of_cell? _ _ k76
          have t90 : w3.heap.size + 1 < w7.heap.size := World.block_lt_of_cell? _ _ k78
          have t91 : w4.heap.size < w7.heap.size := World.block_lt_of_cell? _ _ k80
          have t92 : w5.heap.size < w7.heap.size := World.block_lt_of_cell? _ _ k82
          have t93 : w6.heap.size < w7.heap.size := World.block_lt_of_cell? _ _ k84
          clear k49 k50 k51 k52 k53 k54 k55 k56 k57 k58 k59 k60 k61 k62 t63 t64 t65 t66 t67 t68 t69 hb7 hl7 hbl6
          go_wp2
          go_ret
          first | exact ⟨rfl, hbl7⟩ | exact ⟨rfl, hbl7.alloc hbl7.size _⟩ | exact ⟨rfl, (hbl7.alloc hbl7.size _).alloc (by have := hbl7.size; simp; omega) _⟩

end Go.Proofs.Ytkkmeghadbmcgaa
