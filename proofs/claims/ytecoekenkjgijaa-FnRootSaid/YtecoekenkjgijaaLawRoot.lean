/-
  A law of roots.
-/
import Derived.Test.YtecoekenkjgijaaRootKit
import Derived.Test.YtecoekenkjgijaaRootMulI
import Derived.Test.YtecoekenkjgijaaRootMulS
import Derived.Test.YtecoekenkjgijaaRootOfI
import Derived.Test.YtecoekenkjgijaaRootOfS
import Derived.Test.YtecoekenkjgijaaRootDraws2
import Derived.Deep.RegionHeld3
import Derived.Deep.DrawnRows
import Derived.Deep.CutRange
namespace Go.Proofs.Ytecoekenkjgijaa
open Go.RowKit
set_option linter.unusedSimpArgs false
set_option linter.unusedVariables false
attribute [local go_sem ↓] Go.wp_at_zero Go.wp_at_succ

set_option maxHeartbeats 4000000 in
theorem walk_FnRoot (A : Option Addr) (n0 c0 : Nat) (w : World) (h : Code w.heap.size w A n0 c0) : Calls Try.prog 7 #[.slice A n0 c0] w (Holds w) := by
  have HO := Lib.hid (d_DrawRootValid n0 c0 A w h)
  clear h
  go_enter Try.func7, Try.ntmps7
  go_wp2_with fail
  · go_ret
    exact ⟨rfl, Below.refl _ _⟩
  · refine HO.out.mono ?_
    rintro e w1 ⟨s, n, d, ⟨⟨s1, s2⟩, ⟨n1, n2⟩, ⟨d1, d2⟩⟩, rfl, hbl1⟩
    clear HO
    have HI : Hid (∀ W, Calls Try.prog 14 #[.agg #[.int .i64 s, .int .i64 n, .int .i64 d]] W (Said W (rootB s n d))) := fun W => impl_rvalid s n d W
    have HS : Hid (∀ W, Calls Try.prog 12 #[.agg #[.int .i64 s, .int .i64 n, .int .i64 d]] W (Said W (rootB s n d))) := fun W => spec_rvalid s n d W
    rcases hr : rootB s n d with _ | _
    · rw [hr] at HI HS
      clear hr
      go_wp2_with fail
      refine (HI.out _).mono ?_
      rintro e w2 ⟨rfl, hb2⟩
      obtain ⟨s2, k1, k2, k3, hl2⟩ := keep3c hb2
      have hbl2 := hbl1.trans (hl2.mono hbl1.size)
      have t4 : w1.heap.size < w2.heap.size := World.block_lt_of_cell? _ _ k1
      clear hb2 hl2 hbl1
      go_wp2_with fail
      refine (HS.out _).mono ?_
      rintro e w3 ⟨rfl, hb3⟩
      have k5 := keep0 hb3 k1
      have k6 := keep0 hb3 k2
      have k7 := keep0 hb3 k3
      obtain ⟨s3, hl3⟩ := new0 hb3
      have hbl3 := hbl2.trans (hl3.mono hbl2.size)
      have t8 : w1.heap.size < w3.heap.size := World.block_lt_of_cell? _ _ k5
      clear k1 k2 k3 t4 hb3 hl3 hbl2
      go_wp2
      go_ret
      first | exact ⟨rfl, hbl3⟩ | exact ⟨rfl, hbl3.alloc hbl3.size _⟩ | exact ⟨rfl, (hbl3.alloc hbl3.size _).alloc (by have := hbl3.size; simp; omega) _⟩
    · rw [hr] at HI HS
      rcases (rootB_cases hr).2 with ⟨rfl, rfl, rfl⟩ | ⟨rfl, hn⟩ | ⟨rfl, hn⟩
      · have hv := (rootB_cases hr).1
        have HV : Hid (∀ W, Calls Try.prog 23 #[.agg #[.int .i64 0, .int .i64 1]] W (Said W true)) := fun W => by have := impl_valid 0 1 W; rw [hv] at this; exact this
        have HX : Hid (∀ W, Calls Try.prog 14 #[.agg #[.int .i64 2, .int .i64 0, .int .i64 1]] W (Said W false)) := fun W => by have := impl_rvalid 2 0 1 W; rw [rootB_false (fun h => by have := h.1; omega)] at this; exact this
        have HY : Hid (∀ W, Calls Try.prog 14 #[.agg #[.int .i64 1, .int .i64 0, .int .i64 1]] W (Said W false)) := fun W => by have := impl_rvalid 1 0 1 W; rw [rootB_false (fun h => by have := h.2.2.2; omega)] at this; exact this
        clear hr hv
        go_wp2_with fail
        refine (HI.out _).mono ?_
        rintro e w2 ⟨rfl, hb2⟩
        obtain ⟨s2, k1, k2, k3, hl2⟩ := keep3c hb2
        have hbl2 := hbl1.trans (hl2.mono hbl1.size)
        have t4 : w1.heap.size < w2.heap.size := World.block_lt_of_cell? _ _ k1
        clear hb2 hl2 hbl1
        go_wp2_with fail
        refine (HS.out _).mono ?_
        rintro e w3 ⟨rfl, hb3⟩
        have k5 := keep0 hb3 k1
        have k6 := keep0 hb3 k2
        have k7 := keep0 hb3 k3
        obtain ⟨s3, hl3⟩ := new0 hb3
        have hbl3 := hbl2.trans (hl3.mono hbl2.size)
        have t8 : w1.heap.size < w3.heap.size := World.block_lt_of_cell? _ _ k5
        clear k1 k2 k3 t4 hb3 hl3 hbl2
        go_wp2_with fail
        refine (HV.out _).mono ?_
        rintro e w4 ⟨rfl, hb4⟩
        have k9 := keep2 hb4 k5
        have k10 := keep2 hb4 k6
        have k11 := keep2 hb4 k7
        obtain ⟨s4, k12, k13, k14, k15, k16, k17, hl4⟩ := box33 hb4
        have hbl4 := hbl3.trans (hl4.mono hbl3.size)
        have t18 : w1.heap.size < w4.heap.size := World.block_lt_of_cell? _ _ k9
        have t19 : w3.heap.size < w4.heap.size := World.block_lt_of_cell? _ _ k12
        have t20 : w3.heap.size + 1 < w4.heap.size := World.block_lt_of_cell? _ _ k15
        clear k5 k6 k7 t8 hb4 hl4 hbl3
        go_wp2_with fail
        refine (HX.out _).mono ?_
        rintro e w5 ⟨rfl, hb5⟩
        have k21 := keep0 hb5 k9
        have k22 := keep0 hb5 k10
        have k23 := keep0 hb5 k11
        have k24 := keep0 hb5 k12
        have k25 := keep0 hb5 k13
        have k26 := keep0 hb5 k14
        have k27 := keep0 hb5 k15
        have k28 := keep0 hb5 k16
        have k29 := keep0 hb5 k17
        obtain ⟨s5, hl5⟩ := new0 hb5
        have hbl5 := hbl4.trans (hl5.mono hbl4.size)
        have t30 : w1.heap.size < w5.heap.size := World.block_lt_of_cell? _ _ k21
        have t31 : w3.heap.size < w5.heap.size := World.block_lt_of_cell? _ _ k24
        have t32 : w3.heap.size + 1 < w5.heap.size := World.block_lt_of_cell? _ _ k27
        clear k9 k10 k11 k12 k13 k14 k15 k16 k17 t18 t19 t20 hb5 hl5 hbl4
        go_wp2_with fail
        refine (HY.out _).mono ?_
        rintro e w6 ⟨rfl, hb6⟩
        have k33 := keep0 hb6 k21
        have k34 := keep0 hb6 k22
        have k35 := keep0 hb6 k23
        have k36 := keep0 hb6 k24
        have k37 := keep0 hb6 k25
        have k38 := keep0 hb6 k26
        have k39 := keep0 hb6 k27
        have k40 := keep0 hb6 k28
        have k41 := keep0 hb6 k29
        obtain ⟨s6, hl6⟩ := new0 hb6
        have hbl6 := hbl5.trans (hl6.mono hbl5.size)
        have t42 : w1.heap.size < w6.heap.size := World.block_lt_of_cell? _ _ k33
        have t43 : w3.heap.size < w6.heap.size := World.block_lt_of_cell? _ _ k36
        have t44 : w3.heap.size + 1 < w6.heap.size := World.block_lt_of_cell? _ _ k39
        clear k21 k22 k23 k24 k25 k26 k27 k28 k29 t30 t31 t32 hb6 hl6 hbl5
        go_wp2
        go_ret
        first | exact ⟨rfl, hbl6⟩ | exact ⟨rfl, hbl6.alloc hbl6.size _⟩ | exact ⟨rfl, (hbl6.alloc hbl6.size _).alloc (by have := hbl6.size; simp; omega) _⟩
      · have hv := (rootB_cases hr).1
        have HV : Hid (∀ W, Calls Try.prog 23 #[.agg #[.int .i64 n, .int .i64 d]] W (Said W true)) := fun W => by have := impl_valid n d W; rw [hv] at this; exact this
        have HX : Hid (∀ W, Calls Try.prog 14 #[.agg #[.int .i64 2, .int .i64 n, .int .i64 d]] W (Said W false)) := fun W => by have := impl_rvalid 2 n d W; rw [rootB_false (fun h => by have := h.1; omega)] at this; exact this
        have HY : Hid (∀ W, Calls Try.prog 14 #[.agg #[.int .i64 0, .int .i64 n, .int .i64 d]] W (Said W false)) := fun W => by have := impl_rvalid 0 n d W; rw [rootB_false (fun h => by have := h.2.2.2; omega)] at this; exact this
        clear hr hv
        go_wp2_with fail
        refine (HI.out _).mono ?_
        rintro e w2 ⟨rfl, hb2⟩
        obtain ⟨s2, k1, k2, k3, hl2⟩ := keep3c hb2
        have hbl2 := hbl1.trans (hl2.mono hbl1.size)
        have t4 : w1.heap.size < w2.heap.size := World.block_lt_of_cell? _ _ k1
        clear hb2 hl2 hbl1
        go_wp2_with fail
        refine (HS.out _).mono ?_
        rintro e w3 ⟨rfl, hb3⟩
        have k5 := keep0 hb3 k1
        have k6 := keep0 hb3 k2
        have k7 := keep0 hb3 k3
        obtain ⟨s3, hl3⟩ := new0 hb3
        have hbl3 := hbl2.trans (hl3.mono hbl2.size)
        have t8 : w1.heap.size < w3.heap.size := World.block_lt_of_cell? _ _ k5
        clear k1 k2 k3 t4 hb3 hl3 hbl2
        go_wp2_with fail
        refine (HV.out _).mono ?_
        rintro e w4 ⟨rfl, hb4⟩
        have k9 := keep2 hb4 k5
        have k10 := keep2 hb4 k6
        have k11 := keep2 hb4 k7
        obtain ⟨s4, k12, k13, k14, k15, k16, k17, hl4⟩ := box33 hb4
        have hbl4 := hbl3.trans (hl4.mono hbl3.size)
        have t18 : w1.heap.size < w4.heap.size := World.block_lt_of_cell? _ _ k9
        have t19 : w3.heap.size < w4.heap.size := World.block_lt_of_cell? _ _ k12
        have t20 : w3.heap.size + 1 < w4.heap.size := World.block_lt_of_cell? _ _ k15
        clear k5 k6 k7 t8 hb4 hl4 hbl3
        go_wp2_with fail
        refine (HX.out _).mono ?_
        rintro e w5 ⟨rfl, hb5⟩
        have k21 := keep0 hb5 k9
        have k22 := keep0 hb5 k10
        have k23 := keep0 hb5 k11
        have k24 := keep0 hb5 k12
        have k25 := keep0 hb5 k13
        have k26 := keep0 hb5 k14
        have k27 := keep0 hb5 k15
        have k28 := keep0 hb5 k16
        have k29 := keep0 hb5 k17
        obtain ⟨s5, hl5⟩ := new0 hb5
        have hbl5 := hbl4.trans (hl5.mono hbl4.size)
        have t30 : w1.heap.size < w5.heap.size := World.block_lt_of_cell? _ _ k21
        have t31 : w3.heap.size < w5.heap.size := World.block_lt_of_cell? _ _ k24
        have t32 : w3.heap.size + 1 < w5.heap.size := World.block_lt_of_cell? _ _ k27
        clear k9 k10 k11 k12 k13 k14 k15 k16 k17 t18 t19 t20 hb5 hl5 hbl4
        go_wp2_with fail
        refine (HY.out _).mono ?_
        rintro e w6 ⟨rfl, hb6⟩
        have k33 := keep0 hb6 k21
        have k34 := keep0 hb6 k22
        have k35 := keep0 hb6 k23
        have k36 := keep0 hb6 k24
        have k37 := keep0 hb6 k25
        have k38 := keep0 hb6 k26
        have k39 := keep0 hb6 k27
        have k40 := keep0 hb6 k28
        have k41 := keep0 hb6 k29
        obtain ⟨s6, hl6⟩ := new0 hb6
        have hbl6 := hbl5.trans (hl6.mono hbl5.size)
        have t42 : w1.heap.size < w6.heap.size := World.block_lt_of_cell? _ _ k33
        have t43 : w3.heap.size < w6.heap.size := World.block_lt_of_cell? _ _ k36
        have t44 : w3.heap.size + 1 < w6.heap.size := World.block_lt_of_cell? _ _ k39
        clear k21 k22 k23 k24 k25 k26 k27 k28 k29 t30 t31 t32 hb6 hl6 hbl5
        go_wp2
        go_ret
        first | exact ⟨rfl, hbl6⟩ | exact ⟨rfl, hbl6.alloc hbl6.size _⟩ | exact ⟨rfl, (hbl6.alloc hbl6.size _).alloc (by have := hbl6.size; simp; omega) _⟩
      · have hv := (rootB_cases hr).1
        have HV : Hid (∀ W, Calls Try.prog 23 #[.agg #[.int .i64 n, .int .i64 d]] W (Said W true)) := fun W => by have := impl_valid n d W; rw [hv] at this; exact this
        have HX : Hid (∀ W, Calls Try.prog 14 #[.agg #[.int .i64 2, .int .i64 n, .int .i64 d]] W (Said W false)) := fun W => by have := impl_rvalid 2 n d W; rw [rootB_false (fun h => by have := h.1; omega)] at this; exact this
        have HY : Hid (∀ W, Calls Try.prog 14 #[.agg #[.int .i64 0, .int .i64 n, .int .i64 d]] W (Said W false)) := fun W => by have := impl_rvalid 0 n d W; rw [rootB_false (fun h => by have := h.2.2.2; omega)] at this; exact this
        clear hr hv
        go_wp2_with fail
        refine (HI.out _).mono ?_
        rintro e w2 ⟨rfl, hb2⟩
        obtain ⟨s2, k1, k2, k3, hl2⟩ := keep3c hb2
        have hbl2 := hbl1.trans (hl2.mono hbl1.size)
        have t4 : w1.heap.size < w2.heap.size := World.block_lt_of_cell? _ _ k1
        clear hb2 hl2 hbl1
        go_wp2_with fail
        refine (HS.out _).mono ?_
        rintro e w3 ⟨rfl, hb3⟩
        have k5 := keep0 hb3 k1
        have k6 := keep0 hb3 k2
        have k7 := keep0 hb3 k3
        obtain ⟨s3, hl3⟩ := new0 hb3
        have hbl3 := hbl2.trans (hl3.mono hbl2.size)
        have t8 : w1.heap.size < w3.heap.size := World.block_lt_of_cell? _ _ k5
        clear k1 k2 k3 t4 hb3 hl3 hbl2
        go_wp2_with fail
        refine (HV.out _).mono ?_
        rintro e w4 ⟨rfl, hb4⟩
        have k9 := keep2 hb4 k5
        have k10 := keep2 hb4 k6
        have k11 := keep2 hb4 k7
        obtain ⟨s4, k12, k13, k14, k15, k16, k17, hl4⟩ := box33 hb4
        have hbl4 := hbl3.trans (hl4.mono hbl3.size)
        have t18 : w1.heap.size < w4.heap.size := World.block_lt_of_cell? _ _ k9
        have t19 : w3.heap.size < w4.heap.size := World.block_lt_of_cell? _ _ k12
        have t20 : w3.heap.size + 1 < w4.heap.size := World.block_lt_of_cell? _ _ k15
        clear k5 k6 k7 t8 hb4 hl4 hbl3
        go_wp2_with fail
        refine (HX.out _).mono ?_
        rintro e w5 ⟨rfl, hb5⟩
        have k21 := keep0 hb5 k9
        have k22 := keep0 hb5 k10
        have k23 := keep0 hb5 k11
        have k24 := keep0 hb5 k12
        have k25 := keep0 hb5 k13
        have k26 := keep0 hb5 k14
        have k27 := keep0 hb5 k15
        have k28 := keep0 hb5 k16
        have k29 := keep0 hb5 k17
        obtain ⟨s5, hl5⟩ := new0 hb5
        have hbl5 := hbl4.trans (hl5.mono hbl4.size)
        have t30 : w1.heap.size < w5.heap.size := World.block_lt_of_cell? _ _ k21
        have t31 : w3.heap.size < w5.heap.size := World.block_lt_of_cell? _ _ k24
        have t32 : w3.heap.size + 1 < w5.heap.size := World.block_lt_of_cell? _ _ k27
        clear k9 k10 k11 k12 k13 k14 k15 k16 k17 t18 t19 t20 hb5 hl5 hbl4
        go_wp2_with fail
        refine (HY.out _).mono ?_
        rintro e w6 ⟨rfl, hb6⟩
        have k33 := keep0 hb6 k21
        have k34 := keep0 hb6 k22
        have k35 := keep0 hb6 k23
        have k36 := keep0 hb6 k24
        have k37 := keep0 hb6 k25
        have k38 := keep0 hb6 k26
        have k39 := keep0 hb6 k27
        have k40 := keep0 hb6 k28
        have k41 := keep0 hb6 k29
        obtain ⟨s6, hl6⟩ := new0 hb6
        have hbl6 := hbl5.trans (hl6.mono hbl5.size)
        have t42 : w1.heap.size < w6.heap.size := World.block_lt_of_cell? _ _ k33
        have t43 : w3.heap.size < w6.heap.size := World.block_lt_of_cell? _ _ k36
        have t44 : w3.heap.size + 1 < w6.heap.size := World.block_lt_of_cell? _ _ k39
        clear k21 k22 k23 k24 k25 k26 k27 k28 k29 t30 t31 t32 hb6 hl6 hbl5
        go_wp2
        go_ret
        first | exact ⟨rfl, hbl6⟩ | exact ⟨rfl, hbl6.alloc hbl6.size _⟩ | exact ⟨rfl, (hbl6.alloc hbl6.size _).alloc (by have := hbl6.size; simp; omega) _⟩
end Go.Proofs.Ytecoekenkjgijaa
