/-
  A law of roots.
-/
import Derived.Test.YtecoekenkjgijaaRootKit
import Derived.Test.YtecoekenkjgijaaRootMulI
import Derived.Test.YtecoekenkjgijaaRootMulS
import Derived.Test.YtecoekenkjgijaaRootOfI
import Derived.Test.YtecoekenkjgijaaRootOfS
import Derived.Test.YtecoekenkjgijaaRootDraws2
import Derived.Deep.RegionHeld3
import Derived.Deep.DrawnRows
import Derived.Deep.CutRange
namespace Go.Proofs.Ytecoekenkjgijaa
open Go.RowKit
set_option linter.unusedSimpArgs false
set_option linter.unusedVariables false
attribute [local go_sem ↓] Go.wp_at_zero Go.wp_at_succ

set_option maxHeartbeats 4000000 in
theorem walk_FnRootMul (A : Option Addr) (n0 c0 : Nat) (w : World) (h : Code w.heap.size w A n0 c0) : Calls Try.prog 11 #[.slice A n0 c0] w (Holds w) := by
  have HO := Lib.hid (d_DrawRootMul n0 c0 A w h)
  clear h
  go_enter Try.func11, Try.ntmps11
  go_wp2_with fail
  · go_ret
    exact ⟨rfl, Below.refl _ _⟩
  · refine HO.out.mono ?_
    rintro e w1 ⟨s, n, d, s', n', d', ⟨⟨s1, s2⟩, ⟨n1, n2⟩, ⟨d1, d2⟩⟩, ⟨⟨s1', s2'⟩, ⟨n1', n2'⟩, ⟨d1', d2'⟩⟩, rfl, hbl1⟩
    clear HO
    have HI : Hid (∀ W, Calls Try.prog 19 #[.agg #[.int .i64 s, .int .i64 n, .int .i64 d], .agg #[.int .i64 s', .int .i64 n', .int .i64 d']] W (RO W (mulO s n d s' n' d'))) := fun W => impl_rmul s n d s' n' d' W
    have HS : Hid (∀ W, Calls Try.prog 18 #[.agg #[.int .i64 s, .int .i64 n, .int .i64 d], .agg #[.int .i64 s', .int .i64 n', .int .i64 d']] W (RO W (mulO s n d s' n' d'))) := fun W => spec_rmul s n d s' n' d' W
    rcases ho : mulO s n d s' n' d' with _ | ⟨t, x, y⟩
    · rw [ho] at HI HS
      clear ho
      go_wp2_with fail
      refine (HI.out _).mono ?_
      rintro e w2 ⟨rfl, hb2⟩
      obtain ⟨s2, k1, k2, k3, k4, k5, k6, hl2⟩ := box33 hb2
      have hbl2 := hbl1.trans (hl2.mono hbl1.size)
      have t7 : w1.heap.size < w2.heap.size := World.block_lt_of_cell? _ _ k1
      have t8 : w1.heap.size + 1 < w2.heap.size := World.block_lt_of_cell? _ _ k4
      clear hb2 hl2 hbl1
      go_wp2_with fail
      refine (HS.out _).mono ?_
      rintro e w3 ⟨rfl, hb3⟩
      have k9 := keep1 hb3 k1
      have k10 := keep1 hb3 k2
      have k11 := keep1 hb3 k3
      have k12 := keep1 hb3 k4
      have k13 := keep1 hb3 k5
      have k14 := keep1 hb3 k6
      obtain ⟨s3, k15, k16, k17, hl3⟩ := keep3c hb3
      have hbl3 := hbl2.trans (hl3.mono hbl2.size)
      have t18 : w1.heap.size < w3.heap.size := World.block_lt_of_cell? _ _ k9
      have t19 : w1.heap.size + 1 < w3.heap.size := World.block_lt_of_cell? _ _ k12
      have t20 : w2.heap.size < w3.heap.size := World.block_lt_of_cell? _ _ k15
      clear k1 k2 k3 k4 k5 k6 t7 t8 hb3 hl3 hbl2
      go_wp2
      go_ret
      first | exact ⟨rfl, hbl3⟩ | exact ⟨rfl, hbl3.alloc hbl3.size _⟩ | exact ⟨rfl, (hbl3.alloc hbl3.size _).alloc (by have := hbl3.size; simp; omega) _⟩
    · rw [ho] at HI HS
      have hv := mulO_valid ho
      have hw := mulO_swap s n d s' n' d'
      rw [ho] at hw
      obtain ⟨v1, v2, hm, rfl⟩ := mulO_some ho
      obtain ⟨p1, p2⟩ := sign_prod v1 v2
      have HM : Hid (∀ W, Calls Try.prog 28 #[.agg #[.int .i64 n, .int .i64 d], .agg #[.int .i64 n', .int .i64 d']] W (Res1 W x y true)) := fun W => by have := impl_mul n d n' d' W; rw [hm] at this; exact this
      have HW : Hid (∀ W, Calls Try.prog 19 #[.agg #[.int .i64 s', .int .i64 n', .int .i64 d'], .agg #[.int .i64 s, .int .i64 n, .int .i64 d]] W (RO W (some (s * s', x, y)))) := fun W => by have := impl_rmul s' n' d' s n d W; rw [hw] at this; exact this
      have HB : Hid (∀ W, Calls Try.prog 14 #[.agg #[.int .i64 (s * s'), .int .i64 x, .int .i64 y]] W (Said W true)) := fun W => by have := impl_rvalid (s * s') x y W; rw [hv] at this; exact this
      clear ho hv hw hm v1 v2
      go_wp2_with fail
      refine (HI.out _).mono ?_
      rintro e w2 ⟨rfl, hb2⟩
      obtain ⟨s2, k1, k2, k3, k4, k5, k6, hl2⟩ := box33 hb2
      have hbl2 := hbl1.trans (hl2.mono hbl1.size)
      have t7 : w1.heap.size < w2.heap.size := World.block_lt_of_cell? _ _ k1
      have t8 : w1.heap.size + 1 < w2.heap.size := World.block_lt_of_cell? _ _ k4
      clear hb2 hl2 hbl1
      go_wp2_with fail
      refine (HS.out _).mono ?_
      rintro e w3 ⟨rfl, hb3⟩
      have k9 := keep1 hb3 k1
      have k10 := keep1 hb3 k2
      have k11 := keep1 hb3 k3
      have k12 := keep1 hb3 k4
      have k13 := keep1 hb3 k5
      have k14 := keep1 hb3 k6
      obtain ⟨s3, k15, k16, k17, hl3⟩ := keep3c hb3
      have hbl3 := hbl2.trans (hl3.mono hbl2.size)
      have t18 : w1.heap.size < w3.heap.size := World.block_lt_of_cell? _ _ k9
      have t19 : w1.heap.size + 1 < w3.heap.size := World.block_lt_of_cell? _ _ k12
      have t20 : w2.heap.size < w3.heap.size := World.block_lt_of_cell? _ _ k15
      clear k1 k2 k3 k4 k5 k6 t7 t8 hb3 hl3 hbl2
      go_wp2_with fail
      refine (HM.out _).mono ?_
      rintro e w4 ⟨rfl, hb4⟩
      have k21 := keep1 hb4 k9
      have k22 := keep1 hb4 k10
      have k23 := keep1 hb4 k11
      have k24 := keep1 hb4 k12
      have k25 := keep1 hb4 k13
      have k26 := keep1 hb4 k14
      have k27 := keep1 hb4 k15
      have k28 := keep1 hb4 k16
      have k29 := keep1 hb4 k17
      obtain ⟨s4, k30, k31, k32, hl4⟩ := keep3c hb4
      have hbl4 := hbl3.trans (hl4.mono hbl3.size)
      have t33 : w1.heap.size < w4.heap.size := World.block_lt_of_cell? _ _ k21
      have t34 : w1.heap.size + 1 < w4.heap.size := World.block_lt_of_cell? _ _ k24
      have t35 : w2.heap.size < w4.heap.size := World.block_lt_of_cell? _ _ k27
      have t36 : w3.heap.size < w4.heap.size := World.block_lt_of_cell? _ _ k30
      clear k9 k10 k11 k12 k13 k14 k15 k16 k17 t18 t19 t20 hb4 hl4 hbl3
      go_wp2_with fail
      refine (HW.out _).mono ?_
      rintro e w5 ⟨rfl, hb5⟩
      have k37 := keep1 hb5 k21
      have k38 := keep1 hb5 k22
      have k39 := keep1 hb5 k23
      have k40 := keep1 hb5 k24
      have k41 := keep1 hb5 k25
      have k42 := keep1 hb5 k26
      have k43 := keep1 hb5 k27
      have k44 := keep1 hb5 k28
      have k45 := keep1 hb5 k29
      have k46 := keep1 hb5 k30
      have k47 := keep1 hb5 k31
      have k48 := keep1 hb5 k32
      obtain ⟨s5, k49, k50, hl5⟩ := new1 hb5
      have hbl5 := hbl4.trans (hl5.mono hbl4.size)
      have t51 : w1.heap.size < w5.heap.size := World.block_lt_of_cell? _ _ k37
      have t52 : w1.heap.size + 1 < w5.heap.size := World.block_lt_of_cell? _ _ k40
      have t53 : w2.heap.size < w5.heap.size := World.block_lt_of_cell? _ _ k43
      have t54 : w3.heap.size < w5.heap.size := World.block_lt_of_cell? _ _ k46
      have t55 : w4.heap.size < w5.heap.size := World.block_lt_of_cell? _ _ k49
      clear k21 k22 k23 k24 k25 k26 k27 k28 k29 k30 k31 k32 t33 t34 t35 t36 hb5 hl5 hbl4
      go_wp2_with fail
      refine (HB.out _).mono ?_
      rintro e w6 ⟨rfl, hb6⟩
      have k56 := keep1 hb6 k37
      have k57 := keep1 hb6 k38
      have k58 := keep1 hb6 k39
      have k59 := keep1 hb6 k40
      have k60 := keep1 hb6 k41
      have k61 := keep1 hb6 k42
      have k62 := keep1 hb6 k43
      have k63 := keep1 hb6 k44
      have k64 := keep1 hb6 k45
      have k65 := keep1 hb6 k46
      have k66 := keep1 hb6 k47
      have k67 := keep1 hb6 k48
      have k68 := keep1 hb6 k49
      have k69 := keep1 hb6 k50
      obtain ⟨s6, k70, k71, k72, hl6⟩ := keep3c hb6
      have hbl6 := hbl5.trans (hl6.mono hbl5.size)
      have t73 : w1.heap.size < w6.heap.size := World.block_lt_of_cell? _ _ k56
      have t74 : w1.heap.size + 1 < w6.heap.size := World.block_lt_of_cell? _ _ k59
      have t75 : w2.heap.size < w6.heap.size := World.block_lt_of_cell? _ _ k62
      have t76 : w3.heap.size < w6.heap.size := World.block_lt_of_cell? _ _ k65
      have t77 : w4.heap.size < w6.heap.size := World.block_lt_of_cell? _ _ k68
      have t78 : w5.heap.size < w6.heap.size := World.block_lt_of_cell? _ _ k70
      clear k37 k38 k39 k40 k41 k42 k43 k44 k45 k46 k47 k48 k49 k50 t51 t52 t53 t54 t55 hb6 hl6 hbl5
      go_wp2
      go_ret
      first | exact ⟨rfl, hbl6⟩ | exact ⟨rfl, hbl6.alloc hbl6.size _⟩ | exact ⟨rfl, (hbl6.alloc hbl6.size _).alloc (by have := hbl6.size; simp; omega) _⟩
end Go.Proofs.Ytecoekenkjgijaa
