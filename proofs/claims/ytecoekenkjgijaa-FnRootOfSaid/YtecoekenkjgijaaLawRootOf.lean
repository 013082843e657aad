/-
  A law of roots.
-/
import Derived.Test.YtecoekenkjgijaaRootKit
import Derived.Test.YtecoekenkjgijaaRootMulI
import Derived.Test.YtecoekenkjgijaaRootMulS
import Derived.Test.YtecoekenkjgijaaRootOfI
import Derived.Test.YtecoekenkjgijaaRootOfS
import Derived.Test.YtecoekenkjgijaaRootDraws2
import Derived.Deep.RegionHeld3
import Derived.Deep.DrawnRows
import Derived.Deep.CutRange
namespace Go.Proofs.Ytecoekenkjgijaa
open Go.RowKit
set_option linter.unusedSimpArgs false
set_option linter.unusedVariables false
attribute [local go_sem ↓] Go.wp_at_zero Go.wp_at_succ

set_option maxHeartbeats 4000000 in
theorem walk_FnRootOf (A : Option Addr) (n0 c0 : Nat) (w : World) (h : Code w.heap.size w A n0 c0) : Calls Try.prog 9 #[.slice A n0 c0] w (Holds w) := by
  have HO := Lib.hid (d_DrawRootOf n0 c0 A w h)
  clear h
  go_enter Try.func9, Try.ntmps9
  go_wp2_with fail
  · go_ret
    exact ⟨rfl, Below.refl _ _⟩
  · refine HO.out.mono ?_
    rintro e w1 ⟨n, num, den, rfl, hbl1⟩
    clear HO
    have HI : Hid (∀ W, Calls Try.prog 21 #[.int .i64 n, .int .i64 num, .int .i64 den] W (RO W (rootR n num den))) := fun W => impl_rof n num den W
    have HS : Hid (∀ W, Calls Try.prog 20 #[.int .i64 n, .int .i64 num, .int .i64 den] W (RO W (rootR n num den))) := fun W => spec_rof n num den W
    rcases ho : rootR n num den with _ | ⟨t, x, y⟩
    · rw [ho] at HI HS
      clear ho
      go_wp2_with fail
      refine (HI.out _).mono ?_
      rintro e w2 ⟨rfl, hb2⟩
      obtain ⟨s2, hl2⟩ := new0 hb2
      have hbl2 := hbl1.trans (hl2.mono hbl1.size)
      clear hb2 hl2 hbl1
      go_wp2_with fail
      refine (HS.out _).mono ?_
      rintro e w3 ⟨rfl, hb3⟩
      obtain ⟨s3, k1, k2, k3, hl3⟩ := keep3c hb3
      have hbl3 := hbl2.trans (hl3.mono hbl2.size)
      have t4 : w2.heap.size < w3.heap.size := World.block_lt_of_cell? _ _ k1
      clear hb3 hl3 hbl2
      go_wp2
      go_ret
      first | exact ⟨rfl, hbl3⟩ | exact ⟨rfl, hbl3.alloc hbl3.size _⟩ | exact ⟨rfl, (hbl3.alloc hbl3.size _).alloc (by have := hbl3.size; simp; omega) _⟩
    · rw [ho] at HI HS
      have hv := rootR_valid ho
      obtain ⟨⟨⟨b1, b2⟩, ⟨b3, b4⟩, ⟨b5, b6⟩, b7⟩, ho2, ht⟩ := rootR_some ho
      obtain ⟨q1, q2⟩ := sq_le ⟨b1, b2⟩
      obtain ⟨q3, q4⟩ := sq_num ⟨b1, b2⟩ b3 b7
      clear ho b7
      rcases (by omega : n < 0 ∨ n = 0 ∨ 0 < n) with hn | rfl | hn
      · obtain rfl : t = -1 := by rw [ht]; unfold sgn; rw [if_pos hn]
        clear ht
        have g1 : decide (0 < n) = false := by simp; omega
        have g2 : decide (n > 0) = false := g1
        have HO : Hid (∀ W, Calls Try.prog 26 #[.int .i64 (n * n * num), .int .i64 den] W (Res1 W x y true)) := fun W => by have := impl_of (n * n * num) den W; rw [ho2] at this; exact this
        have HB : Hid (∀ W, Calls Try.prog 14 #[.agg #[.int .i64 (-1), .int .i64 x, .int .i64 y]] W (Said W true)) := fun W => by have := impl_rvalid (-1) x y W; rw [hv] at this; exact this
        clear ho2 hv
        go_wp2_with fail
        refine (HI.out _).mono ?_
        rintro e w2 ⟨rfl, hb2⟩
        obtain ⟨s2, hl2⟩ := new0 hb2
        have hbl2 := hbl1.trans (hl2.mono hbl1.size)
        clear hb2 hl2 hbl1
        go_wp2_with fail
        refine (HS.out _).mono ?_
        rintro e w3 ⟨rfl, hb3⟩
        obtain ⟨s3, k1, k2, k3, hl3⟩ := keep3c hb3
        have hbl3 := hbl2.trans (hl3.mono hbl2.size)
        have t4 : w2.heap.size < w3.heap.size := World.block_lt_of_cell? _ _ k1
        clear hb3 hl3 hbl2
        go_wp2_with fail
        refine (HO.out _).mono ?_
        rintro e w4 ⟨rfl, hb4⟩
        have k5 := keep1 hb4 k1
        have k6 := keep1 hb4 k2
        have k7 := keep1 hb4 k3
        obtain ⟨s4, k8, k9, k10, hl4⟩ := keep3c hb4
        have hbl4 := hbl3.trans (hl4.mono hbl3.size)
        have t11 : w2.heap.size < w4.heap.size := World.block_lt_of_cell? _ _ k5
        have t12 : w3.heap.size < w4.heap.size := World.block_lt_of_cell? _ _ k8
        clear k1 k2 k3 t4 hb4 hl4 hbl3
        go_wp2_with fail
        refine (HB.out _).mono ?_
        rintro e w5 ⟨rfl, hb5⟩
        have k13 := keep1 hb5 k5
        have k14 := keep1 hb5 k6
        have k15 := keep1 hb5 k7
        have k16 := keep1 hb5 k8
        have k17 := keep1 hb5 k9
        have k18 := keep1 hb5 k10
        obtain ⟨s5, k19, k20, hl5⟩ := new1 hb5
        have hbl5 := hbl4.trans (hl5.mono hbl4.size)
        have t21 : w2.heap.size < w5.heap.size := World.block_lt_of_cell? _ _ k13
        have t22 : w3.heap.size < w5.heap.size := World.block_lt_of_cell? _ _ k16
        have t23 : w4.heap.size < w5.heap.size := World.block_lt_of_cell? _ _ k19
        clear k5 k6 k7 k8 k9 k10 t11 t12 hb5 hl5 hbl4
        go_wp2
        go_ret
        first | exact ⟨rfl, hbl5⟩ | exact ⟨rfl, hbl5.alloc hbl5.size _⟩ | exact ⟨rfl, (hbl5.alloc hbl5.size _).alloc (by have := hbl5.size; simp; omega) _⟩
      · obtain rfl : t = 0 := ht
        clear q1 q2 q3 q4
        have HO : Hid (∀ W, Calls Try.prog 26 #[.int .i64 0, .int .i64 den] W (Res1 W x y true)) := fun W => by have := impl_of (0 * 0 * num) den W; rw [ho2, show (0 : Int) * 0 * num = 0 from by simp] at this; exact this
        have HB : Hid (∀ W, Calls Try.prog 14 #[.agg #[.int .i64 0, .int .i64 x, .int .i64 y]] W (Said W true)) := fun W => by have := impl_rvalid 0 x y W; rw [hv] at this; exact this
        clear ho2 hv
        go_wp2_with fail
        refine (HI.out _).mono ?_
        rintro e w2 ⟨rfl, hb2⟩
        obtain ⟨s2, hl2⟩ := new0 hb2
        have hbl2 := hbl1.trans (hl2.mono hbl1.size)
        clear hb2 hl2 hbl1
        go_wp2_with fail
        refine (HS.out _).mono ?_
        rintro e w3 ⟨rfl, hb3⟩
        obtain ⟨s3, k1, k2, k3, hl3⟩ := keep3c hb3
        have hbl3 := hbl2.trans (hl3.mono hbl2.size)
        have t4 : w2.heap.size < w3.heap.size := World.block_lt_of_cell? _ _ k1
        clear hb3 hl3 hbl2
        go_wp2_with fail
        refine (HO.out _).mono ?_
        rintro e w4 ⟨rfl, hb4⟩
        have k5 := keep1 hb4 k1
        have k6 := keep1 hb4 k2
        have k7 := keep1 hb4 k3
        obtain ⟨s4, k8, k9, k10, hl4⟩ := keep3c hb4
        have hbl4 := hbl3.trans (hl4.mono hbl3.size)
        have t11 : w2.heap.size < w4.heap.size := World.block_lt_of_cell? _ _ k5
        have t12 : w3.heap.size < w4.heap.size := World.block_lt_of_cell? _ _ k8
        clear k1 k2 k3 t4 hb4 hl4 hbl3
        go_wp2_with fail
        refine (HB.out _).mono ?_
        rintro e w5 ⟨rfl, hb5⟩
        have k13 := keep1 hb5 k5
        have k14 := keep1 hb5 k6
        have k15 := keep1 hb5 k7
        have k16 := keep1 hb5 k8
        have k17 := keep1 hb5 k9
        have k18 := keep1 hb5 k10
        obtain ⟨s5, k19, k20, hl5⟩ := new1 hb5
        have hbl5 := hbl4.trans (hl5.mono hbl4.size)
        have t21 : w2.heap.size < w5.heap.size := World.block_lt_of_cell? _ _ k13
        have t22 : w3.heap.size < w5.heap.size := World.block_lt_of_cell? _ _ k16
        have t23 : w4.heap.size < w5.heap.size := World.block_lt_of_cell? _ _ k19
        clear k5 k6 k7 k8 k9 k10 t11 t12 hb5 hl5 hbl4
        go_wp2
        go_ret
        first | exact ⟨rfl, hbl5⟩ | exact ⟨rfl, hbl5.alloc hbl5.size _⟩ | exact ⟨rfl, (hbl5.alloc hbl5.size _).alloc (by have := hbl5.size; simp; omega) _⟩
      · obtain rfl : t = 1 := by rw [ht]; unfold sgn; rw [if_neg (by omega), if_pos hn]
        clear ht
        have g1 : decide (n < 0) = false := by simp; omega
        have HO : Hid (∀ W, Calls Try.prog 26 #[.int .i64 (n * n * num), .int .i64 den] W (Res1 W x y true)) := fun W => by have := impl_of (n * n * num) den W; rw [ho2] at this; exact this
        have HB : Hid (∀ W, Calls Try.prog 14 #[.agg #[.int .i64 1, .int .i64 x, .int .i64 y]] W (Said W true)) := fun W => by have := impl_rvalid 1 x y W; rw [hv] at this; exact this
        clear ho2 hv
        go_wp2_with fail
        refine (HI.out _).mono ?_
        rintro e w2 ⟨rfl, hb2⟩
        obtain ⟨s2, hl2⟩ := new0 hb2
        have hbl2 := hbl1.trans (hl2.mono hbl1.size)
        clear hb2 hl2 hbl1
        go_wp2_with fail
        refine (HS.out _).mono ?_
        rintro e w3 ⟨rfl, hb3⟩
        obtain ⟨s3, k1, k2, k3, hl3⟩ := keep3c hb3
        have hbl3 := hbl2.trans (hl3.mono hbl2.size)
        have t4 : w2.heap.size < w3.heap.size := World.block_lt_of_cell? _ _ k1
        clear hb3 hl3 hbl2
        go_wp2_with fail
        refine (HO.out _).mono ?_
        rintro e w4 ⟨rfl, hb4⟩
        have k5 := keep1 hb4 k1
        have k6 := keep1 hb4 k2
        have k7 := keep1 hb4 k3
        obtain ⟨s4, k8, k9, k10, hl4⟩ := keep3c hb4
        have hbl4 := hbl3.trans (hl4.mono hbl3.size)
        have t11 : w2.heap.size < w4.heap.size := World.block_lt_of_cell? _ _ k5
        have t12 : w3.heap.size < w4.heap.size := World.block_lt_of_cell? _ _ k8
        clear k1 k2 k3 t4 hb4 hl4 hbl3
        go_wp2_with fail
        refine (HB.out _).mono ?_
        rintro e w5 ⟨rfl, hb5⟩
        have k13 := keep1 hb5 k5
        have k14 := keep1 hb5 k6
        have k15 := keep1 hb5 k7
        have k16 := keep1 hb5 k8
        have k17 := keep1 hb5 k9
        have k18 := keep1 hb5 k10
        obtain ⟨s5, k19, k20, hl5⟩ := new1 hb5
        have hbl5 := hbl4.trans (hl5.mono hbl4.size)
        have t21 : w2.heap.size < w5.heap.size := World.block_lt_of_cell? _ _ k13
        have t22 : w3.heap.size < w5.heap.size := World.block_lt_of_cell? _ _ k16
        have t23 : w4.heap.size < w5.heap.size := World.block_lt_of_cell? _ _ k19
        clear k5 k6 k7 k8 k9 k10 t11 t12 hb5 hl5 hbl4
        go_wp2
        go_ret
        first | exact ⟨rfl, hbl5⟩ | exact ⟨rfl, hbl5.alloc hbl5.size _⟩ | exact ⟨rfl, (hbl5.alloc hbl5.size _).alloc (by have := hbl5.size; simp; omega) _⟩
end Go.Proofs.Ytecoekenkjgijaa
