/-
  The exact laws of roots: validity, negatives, roots of numbers.
-/
import Derived.Test.YtecoekenkjgijaaRootKit
import Derived.Test.YtecoekenkjgijaaRootMulI
import Derived.Test.YtecoekenkjgijaaRootMulS
import Derived.Test.YtecoekenkjgijaaRootOfI
import Derived.Test.YtecoekenkjgijaaRootOfS
import Derived.Deep.RegionHeld3
import Derived.Deep.DrawnRows
import Derived.Deep.CutRange
namespace Go.Proofs.Ytecoekenkjgijaa
open Go.RowKit
set_option linter.unusedSimpArgs false
set_option linter.unusedVariables false
attribute [local go_sem ↓] Go.wp_at_zero Go.wp_at_succ

theorem walk_FnExactRootValid (s n d : Int) (w1 : World) (_h0 : (Lit.int .i64 s).wf = true) (_h1 : (Lit.int .i64 n).wf = true) (_h2 : (Lit.int .i64 d).wf = true) : Calls Try.prog 3 #[.agg #[.int .i64 s, .int .i64 n, .int .i64 d]] w1 (Holds w1) := by
  clear _h0 _h1 _h2
  have hok : (rootB s n d != rootB s n d) = false := by simp
  go_enter Try.func3, Try.ntmps3
  have hbl1 : Below w1.heap.size w1 w1 := Below.refl _ _
  go_wp2_with fail
  refine (to_root s n d _).mono ?_
  rintro e w2 ⟨rfl, hb2⟩
  obtain ⟨s2, k1, k2, k3, hl2⟩ := keep3c hb2
  have hbl2 := hbl1.trans (hl2.mono hbl1.size)
  have t4 : w1.heap.size < w2.heap.size := World.block_lt_of_cell? _ _ k1
  clear hb2 hl2 hbl1
  go_wp2_with fail
  refine (spec_rvalid s n d _).mono ?_
  rintro e w3 ⟨rfl, hb3⟩
  have k5 := keep0 hb3 k1
  have k6 := keep0 hb3 k2
  have k7 := keep0 hb3 k3
  obtain ⟨s3, hl3⟩ := new0 hb3
  have hbl3 := hbl2.trans (hl3.mono hbl2.size)
  have t8 : w1.heap.size < w3.heap.size := World.block_lt_of_cell? _ _ k5
  clear k1 k2 k3 t4 hb3 hl3 hbl2
  go_wp2_with fail
  refine (to_root s n d _).mono ?_
  rintro e w4 ⟨rfl, hb4⟩
  have k9 := keep0 hb4 k5
  have k10 := keep0 hb4 k6
  have k11 := keep0 hb4 k7
  obtain ⟨s4, hl4⟩ := new0 hb4
  have hbl4 := hbl3.trans (hl4.mono hbl3.size)
  have t12 : w1.heap.size < w4.heap.size := World.block_lt_of_cell? _ _ k9
  clear k5 k6 k7 t8 hb4 hl4 hbl3
  go_wp2_with fail
  refine (impl_rvalid s n d _).mono ?_
  rintro e w5 ⟨rfl, hb5⟩
  have k13 := keep0 hb5 k9
  have k14 := keep0 hb5 k10
  have k15 := keep0 hb5 k11
  obtain ⟨s5, hl5⟩ := new0 hb5
  have hbl5 := hbl4.trans (hl5.mono hbl4.size)
  have t16 : w1.heap.size < w5.heap.size := World.block_lt_of_cell? _ _ k13
  clear k9 k10 k11 t12 hb5 hl5 hbl4
  go_wp2
  go_ret
  first | exact ⟨rfl, hbl5⟩ | exact ⟨rfl, hbl5.alloc hbl5.size _⟩ | exact ⟨rfl, (hbl5.alloc hbl5.size _).alloc (by have := hbl5.size; simp; omega) _⟩

theorem walk_FnExactRootNeg (s n d : Int) (w1 : World) (_h0 : (Lit.int .i64 s).wf = true) (_h1 : (Lit.int .i64 n).wf = true) (_h2 : (Lit.int .i64 d).wf = true) : Calls Try.prog 4 #[.agg #[.int .i64 s, .int .i64 n, .int .i64 d]] w1 (Holds w1) := by
  clear _h0 _h1 _h2
  obtain ⟨t, x, y, ok, hr⟩ := ro_one (negO s n d)
  have HS : Hid (∀ W, Calls Try.prog 15 #[.agg #[.int .i64 s, .int .i64 n, .int .i64 d]] W (RO1 W t x y ok)) := fun W => by rw [← hr]; exact spec_rneg s n d W
  have HI : Hid (∀ W, Calls Try.prog 16 #[.agg #[.int .i64 s, .int .i64 n, .int .i64 d]] W (RO1 W t x y ok)) := fun W => by rw [← hr]; exact impl_rneg s n d W
  have hok : (ok != ok) = false := by cases ok <;> rfl
  clear hr
  go_enter Try.func4, Try.ntmps4
  have hbl1 : Below w1.heap.size w1 w1 := Below.refl _ _
  go_wp2_with fail
  refine (to_root s n d _).mono ?_
  rintro e w2 ⟨rfl, hb2⟩
  obtain ⟨s2, k1, k2, k3, hl2⟩ := keep3c hb2
  have hbl2 := hbl1.trans (hl2.mono hbl1.size)
  have t4 : w1.heap.size < w2.heap.size := World.block_lt_of_cell? _ _ k1
  clear hb2 hl2 hbl1
  go_wp2_with fail
  refine (HS.out _).mono ?_
  rintro e w3 ⟨rfl, hb3⟩
  have k5 := keep0 hb3 k1
  have k6 := keep0 hb3 k2
  have k7 := keep0 hb3 k3
  obtain ⟨s3, hl3⟩ := new0 hb3
  have hbl3 := hbl2.trans (hl3.mono hbl2.size)
  have t8 : w1.heap.size < w3.heap.size := World.block_lt_of_cell? _ _ k5
  clear k1 k2 k3 t4 hb3 hl3 hbl2
  go_wp2_with fail
  refine (to_root s n d _).mono ?_
  rintro e w4 ⟨rfl, hb4⟩
  have k9 := keep1 hb4 k5
  have k10 := keep1 hb4 k6
  have k11 := keep1 hb4 k7
  obtain ⟨s4, k12, k13, k14, hl4⟩ := keep3c hb4
  have hbl4 := hbl3.trans (hl4.mono hbl3.size)
  have t15 : w1.heap.size < w4.heap.size := World.block_lt_of_cell? _ _ k9
  have t16 : w3.heap.size < w4.heap.size := World.block_lt_of_cell? _ _ k12
  clear k5 k6 k7 t8 hb4 hl4 hbl3
  go_wp2_with fail
  refine (HI.out _).mono ?_
  rintro e w5 ⟨rfl, hb5⟩
  have k17 := keep0 hb5 k9
  have k18 := keep0 hb5 k10
  have k19 := keep0 hb5 k11
  have k20 := keep0 hb5 k12
  have k21 := keep0 hb5 k13
  have k22 := keep0 hb5 k14
  obtain ⟨s5, hl5⟩ := new0 hb5
  have hbl5 := hbl4.trans (hl5.mono hbl4.size)
  have t23 : w1.heap.size < w5.heap.size := World.block_lt_of_cell? _ _ k17
  have t24 : w3.heap.size < w5.heap.size := World.block_lt_of_cell? _ _ k20
  clear k9 k10 k11 k12 k13 k14 t15 t16 hb5 hl5 hbl4
  go_wp2_with fail
  refine (eq_root _ _ _ _).mono ?_
  rintro e w6 ⟨rfl, hb6⟩
  have k25 := keep1 hb6 k17
  have k26 := keep1 hb6 k18
  have k27 := keep1 hb6 k19
  have k28 := keep1 hb6 k20
  have k29 := keep1 hb6 k21
  have k30 := keep1 hb6 k22
  obtain ⟨s6, k31, k32, k33, hl6⟩ := keep3c hb6
  have hbl6 := hbl5.trans (hl6.mono hbl5.size)
  have t34 : w1.heap.size < w6.heap.size := World.block_lt_of_cell? _ _ k25
  have t35 : w3.heap.size < w6.heap.size := World.block_lt_of_cell? _ _ k28
  have t36 : w5.heap.size < w6.heap.size := World.block_lt_of_cell? _ _ k31
  clear k17 k18 k19 k20 k21 k22 t23 t24 hb6 hl6 hbl5
  go_wp2
  go_ret
  first | exact ⟨rfl, hbl6⟩ | exact ⟨rfl, hbl6.alloc hbl6.size _⟩ | exact ⟨rfl, (hbl6.alloc hbl6.size _).alloc (by have := hbl6.size; simp; omega) _⟩

theorem walk_FnExactRootOf (s n d : Int) (w1 : World) (_h0 : (Lit.int .i64 s).wf = true) (_h1 : (Lit.int .i64 n).wf = true) (_h2 : (Lit.int .i64 d).wf = true) : Calls Try.prog 6 #[.int .i64 s, .int .i64 n, .int .i64 d] w1 (Holds w1) := by
  clear _h0 _h1 _h2
  obtain ⟨t, x, y, ok, hr⟩ := ro_one (rootR s n d)
  have HS : Hid (∀ W, Calls Try.prog 20 #[.int .i64 s, .int .i64 n, .int .i64 d] W (RO1 W t x y ok)) := fun W => by rw [← hr]; exact spec_rof s n d W
  have HI : Hid (∀ W, Calls Try.prog 21 #[.int .i64 s, .int .i64 n, .int .i64 d] W (RO1 W t x y ok)) := fun W => by rw [← hr]; exact impl_rof s n d W
  have hok : (ok != ok) = false := by cases ok <;> rfl
  clear hr
  go_enter Try.func6, Try.ntmps6
  have hbl1 : Below w1.heap.size w1 w1 := Below.refl _ _
  go_wp2_with fail
  refine (HS.out _).mono ?_
  rintro e w2 ⟨rfl, hb2⟩
  obtain ⟨s2, hl2⟩ := new0 hb2
  have hbl2 := hbl1.trans (hl2.mono hbl1.size)
  clear hb2 hl2 hbl1
  go_wp2_with fail
  refine (HI.out _).mono ?_
  rintro e w3 ⟨rfl, hb3⟩
  obtain ⟨s3, k1, k2, k3, hl3⟩ := keep3c hb3
  have hbl3 := hbl2.trans (hl3.mono hbl2.size)
  have t4 : w2.heap.size < w3.heap.size := World.block_lt_of_cell? _ _ k1
  clear hb3 hl3 hbl2
  go_wp2_with fail
  refine (eq_root _ _ _ _).mono ?_
  rintro e w4 ⟨rfl, hb4⟩
  have k5 := keep1 hb4 k1
  have k6 := keep1 hb4 k2
  have k7 := keep1 hb4 k3
  obtain ⟨s4, k8, k9, k10, hl4⟩ := keep3c hb4
  have hbl4 := hbl3.trans (hl4.mono hbl3.size)
  have t11 : w2.heap.size < w4.heap.size := World.block_lt_of_cell? _ _ k5
  have t12 : w3.heap.size < w4.heap.size := World.block_lt_of_cell? _ _ k8
  clear k1 k2 k3 t4 hb4 hl4 hbl3
  go_wp2
  go_ret
  first | exact ⟨rfl, hbl4⟩ | exact ⟨rfl, hbl4.alloc hbl4.size _⟩ | exact ⟨rfl, (hbl4.alloc hbl4.size _).alloc (by have := hbl4.size; simp; omega) _⟩
end Go.Proofs.Ytecoekenkjgijaa
