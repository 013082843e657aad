/-
  A law of roots.
-/
import Derived.Test.YtecoekenkjgijaaRootKit
import Derived.Test.YtecoekenkjgijaaRootMulI
import Derived.Test.YtecoekenkjgijaaRootMulS
import Derived.Test.YtecoekenkjgijaaRootOfI
import Derived.Test.YtecoekenkjgijaaRootOfS
import Derived.Test.YtecoekenkjgijaaRootDraws2
import Derived.Deep.RegionHeld3
import Derived.Deep.DrawnRows
import Derived.Deep.CutRange
namespace Go.Proofs.Ytecoekenkjgijaa
open Go.RowKit
set_option linter.unusedSimpArgs false
set_option linter.unusedVariables false
attribute [local go_sem ↓] Go.wp_at_zero Go.wp_at_succ

set_option maxHeartbeats 4000000 in
theorem walk_FnRootOfNeg (A : Option Addr) (n0 c0 : Nat) (w : World) (h : Code w.heap.size w A n0 c0) : Calls Try.prog 10 #[.slice A n0 c0] w (Holds w) := by
  have HO := Lib.hid (d_DrawRootOf n0 c0 A w h)
  clear h
  go_enter Try.func10, Try.ntmps10
  go_wp2_with fail
  · go_ret
    exact ⟨rfl, Below.refl _ _⟩
  · refine HO.out.mono ?_
    rintro e w1 ⟨n, num, den, rfl, hbl1⟩
    clear HO
    have HI : Hid (∀ W, Calls Try.prog 21 #[.int .i64 n, .int .i64 num, .int .i64 den] W (RO W (rootR n num den))) := fun W => impl_rof n num den W
    have HS : Hid (∀ W, Calls Try.prog 20 #[.int .i64 n, .int .i64 num, .int .i64 den] W (RO W (rootR n num den))) := fun W => spec_rof n num den W
    rcases ho : rootR n num den with _ | ⟨t, x, y⟩
    · rw [ho] at HI HS
      clear ho
      go_wp2_with fail
      refine (HI.out _).mono ?_
      rintro e w2 ⟨rfl, hb2⟩
      obtain ⟨s2, hl2⟩ := new0 hb2
      have hbl2 := hbl1.trans (hl2.mono hbl1.size)
      clear hb2 hl2 hbl1
      go_wp2_with fail
      refine (HS.out _).mono ?_
      rintro e w3 ⟨rfl, hb3⟩
      obtain ⟨s3, k1, k2, k3, hl3⟩ := keep3c hb3
      have hbl3 := hbl2.trans (hl3.mono hbl2.size)
      have t4 : w2.heap.size < w3.heap.size := World.block_lt_of_cell? _ _ k1
      clear hb3 hl3 hbl2
      go_wp2
      go_ret
      first | exact ⟨rfl, hbl3⟩ | exact ⟨rfl, hbl3.alloc hbl3.size _⟩ | exact ⟨rfl, (hbl3.alloc hbl3.size _).alloc (by have := hbl3.size; simp; omega) _⟩
    · rw [ho] at HI HS
      have hv := rootR_valid ho
      obtain ⟨⟨⟨b1, b2⟩, _⟩, _, ht⟩ := rootR_some ho
      rcases (by omega : n < 0 ∨ n = 0 ∨ 0 < n) with hn | rfl | hn
      · obtain rfl : t = -1 := by rw [ht]; unfold sgn; rw [if_pos hn]
        clear ht
        have e1 : rootR (-n) num den = some (1, x, y) := rootR_neg ho
        have e2 : negO (-1) x y = some (1, x, y) := negO_yes hv
        have HN : Hid (∀ W, Calls Try.prog 21 #[.int .i64 (-n), .int .i64 num, .int .i64 den] W (RO W (some (1, x, y)))) := fun W => by have := impl_rof (-n) num den W; rw [e1] at this; exact this
        have HG : Hid (∀ W, Calls Try.prog 16 #[.agg #[.int .i64 (-1), .int .i64 x, .int .i64 y]] W (RO W (some (1, x, y)))) := fun W => by have := impl_rneg (-1) x y W; rw [e2] at this; exact this
        clear ho hv e1 e2
        go_wp2_with fail
        refine (HI.out _).mono ?_
        rintro e w2 ⟨rfl, hb2⟩
        obtain ⟨s2, hl2⟩ := new0 hb2
        have hbl2 := hbl1.trans (hl2.mono hbl1.size)
        clear hb2 hl2 hbl1
        go_wp2_with fail
        refine (HS.out _).mono ?_
        rintro e w3 ⟨rfl, hb3⟩
        obtain ⟨s3, k1, k2, k3, hl3⟩ := keep3c hb3
        have hbl3 := hbl2.trans (hl3.mono hbl2.size)
        have t4 : w2.heap.size < w3.heap.size := World.block_lt_of_cell? _ _ k1
        clear hb3 hl3 hbl2
        go_wp2_with fail
        refine (HN.out _).mono ?_
        rintro e w4 ⟨rfl, hb4⟩
        have k5 := keep1 hb4 k1
        have k6 := keep1 hb4 k2
        have k7 := keep1 hb4 k3
        obtain ⟨s4, k8, k9, k10, hl4⟩ := keep3c hb4
        have hbl4 := hbl3.trans (hl4.mono hbl3.size)
        have t11 : w2.heap.size < w4.heap.size := World.block_lt_of_cell? _ _ k5
        have t12 : w3.heap.size < w4.heap.size := World.block_lt_of_cell? _ _ k8
        clear k1 k2 k3 t4 hb4 hl4 hbl3
        go_wp2_with fail
        refine (HG.out _).mono ?_
        rintro e w5 ⟨rfl, hb5⟩
        have k13 := keep1 hb5 k5
        have k14 := keep1 hb5 k6
        have k15 := keep1 hb5 k7
        have k16 := keep1 hb5 k8
        have k17 := keep1 hb5 k9
        have k18 := keep1 hb5 k10
        obtain ⟨s5, k19, k20, k21, hl5⟩ := keep3c hb5
        have hbl5 := hbl4.trans (hl5.mono hbl4.size)
        have t22 : w2.heap.size < w5.heap.size := World.block_lt_of_cell? _ _ k13
        have t23 : w3.heap.size < w5.heap.size := World.block_lt_of_cell? _ _ k16
        have t24 : w4.heap.size < w5.heap.size := World.block_lt_of_cell? _ _ k19
        clear k5 k6 k7 k8 k9 k10 t11 t12 hb5 hl5 hbl4
        go_wp2
        go_ret
        first | exact ⟨rfl, hbl5⟩ | exact ⟨rfl, hbl5.alloc hbl5.size _⟩ | exact ⟨rfl, (hbl5.alloc hbl5.size _).alloc (by have := hbl5.size; simp; omega) _⟩
      · obtain rfl : t = 0 := ht
        have e1 : rootR 0 num den = some (0, x, y) := rootR_neg ho
        have e2 : negO 0 x y = some (0, x, y) := negO_yes hv
        have HN : Hid (∀ W, Calls Try.prog 21 #[.int .i64 0, .int .i64 num, .int .i64 den] W (RO W (some (0, x, y)))) := fun W => by have := impl_rof 0 num den W; rw [e1] at this; exact this
        have HG : Hid (∀ W, Calls Try.prog 16 #[.agg #[.int .i64 0, .int .i64 x, .int .i64 y]] W (RO W (some (0, x, y)))) := fun W => by have := impl_rneg 0 x y W; rw [e2] at this; exact this
        clear ho hv e1 e2
        go_wp2_with fail
        refine (HI.out _).mono ?_
        rintro e w2 ⟨rfl, hb2⟩
        obtain ⟨s2, hl2⟩ := new0 hb2
        have hbl2 := hbl1.trans (hl2.mono hbl1.size)
        clear hb2 hl2 hbl1
        go_wp2_with fail
        refine (HS.out _).mono ?_
        rintro e w3 ⟨rfl, hb3⟩
        obtain ⟨s3, k1, k2, k3, hl3⟩ := keep3c hb3
        have hbl3 := hbl2.trans (hl3.mono hbl2.size)
        have t4 : w2.heap.size < w3.heap.size := World.block_lt_of_cell? _ _ k1
        clear hb3 hl3 hbl2
        go_wp2_with fail
        refine (HN.out _).mono ?_
        rintro e w4 ⟨rfl, hb4⟩
        have k5 := keep1 hb4 k1
        have k6 := keep1 hb4 k2
        have k7 := keep1 hb4 k3
        obtain ⟨s4, k8, k9, k10, hl4⟩ := keep3c hb4
        have hbl4 := hbl3.trans (hl4.mono hbl3.size)
        have t11 : w2.heap.size < w4.heap.size := World.block_lt_of_cell? _ _ k5
        have t12 : w3.heap.size < w4.heap.size := World.block_lt_of_cell? _ _ k8
        clear k1 k2 k3 t4 hb4 hl4 hbl3
        go_wp2_with fail
        refine (HG.out _).mono ?_
        rintro e w5 ⟨rfl, hb5⟩
        have k13 := keep1 hb5 k5
        have k14 := keep1 hb5 k6
        have k15 := keep1 hb5 k7
        have k16 := keep1 hb5 k8
        have k17 := keep1 hb5 k9
        have k18 := keep1 hb5 k10
        obtain ⟨s5, k19, k20, k21, hl5⟩ := keep3c hb5
        have hbl5 := hbl4.trans (hl5.mono hbl4.size)
        have t22 : w2.heap.size < w5.heap.size := World.block_lt_of_cell? _ _ k13
        have t23 : w3.heap.size < w5.heap.size := World.block_lt_of_cell? _ _ k16
        have t24 : w4.heap.size < w5.heap.size := World.block_lt_of_cell? _ _ k19
        clear k5 k6 k7 k8 k9 k10 t11 t12 hb5 hl5 hbl4
        go_wp2
        go_ret
        first | exact ⟨rfl, hbl5⟩ | exact ⟨rfl, hbl5.alloc hbl5.size _⟩ | exact ⟨rfl, (hbl5.alloc hbl5.size _).alloc (by have := hbl5.size; simp; omega) _⟩
      · obtain rfl : t = 1 := by rw [ht]; unfold sgn; rw [if_neg (by omega), if_pos hn]
        clear ht
        have e1 : rootR (-n) num den = some ((-1), x, y) := rootR_neg ho
        have e2 : negO 1 x y = some ((-1), x, y) := negO_yes hv
        have HN : Hid (∀ W, Calls Try.prog 21 #[.int .i64 (-n), .int .i64 num, .int .i64 den] W (RO W (some ((-1), x, y)))) := fun W => by have := impl_rof (-n) num den W; rw [e1] at this; exact this
        have HG : Hid (∀ W, Calls Try.prog 16 #[.agg #[.int .i64 1, .int .i64 x, .int .i64 y]] W (RO W (some ((-1), x, y)))) := fun W => by have := impl_rneg 1 x y W; rw [e2] at this; exact this
        clear ho hv e1 e2
        go_wp2_with fail
        refine (HI.out _).mono ?_
        rintro e w2 ⟨rfl, hb2⟩
        obtain ⟨s2, hl2⟩ := new0 hb2
        have hbl2 := hbl1.trans (hl2.mono hbl1.size)
        clear hb2 hl2 hbl1
        go_wp2_with fail
        refine (HS.out _).mono ?_
        rintro e w3 ⟨rfl, hb3⟩
        obtain ⟨s3, k1, k2, k3, hl3⟩ := keep3c hb3
        have hbl3 := hbl2.trans (hl3.mono hbl2.size)
        have t4 : w2.heap.size < w3.heap.size := World.block_lt_of_cell? _ _ k1
        clear hb3 hl3 hbl2
        go_wp2_with fail
        refine (HN.out _).mono ?_
        rintro e w4 ⟨rfl, hb4⟩
        have k5 := keep1 hb4 k1
        have k6 := keep1 hb4 k2
        have k7 := keep1 hb4 k3
        obtain ⟨s4, k8, k9, k10, hl4⟩ := keep3c hb4
        have hbl4 := hbl3.trans (hl4.mono hbl3.size)
        have t11 : w2.heap.size < w4.heap.size := World.block_lt_of_cell? _ _ k5
        have t12 : w3.heap.size < w4.heap.size := World.block_lt_of_cell? _ _ k8
        clear k1 k2 k3 t4 hb4 hl4 hbl3
        go_wp2_with fail
        refine (HG.out _).mono ?_
        rintro e w5 ⟨rfl, hb5⟩
        have k13 := keep1 hb5 k5
        have k14 := keep1 hb5 k6
        have k15 := keep1 hb5 k7
        have k16 := keep1 hb5 k8
        have k17 := keep1 hb5 k9
        have k18 := keep1 hb5 k10
        obtain ⟨s5, k19, k20, k21, hl5⟩ := keep3c hb5
        have hbl5 := hbl4.trans (hl5.mono hbl4.size)
        have t22 : w2.heap.size < w5.heap.size := World.block_lt_of_cell? _ _ k13
        have t23 : w3.heap.size < w5.heap.size := World.block_lt_of_cell? _ _ k16
        have t24 : w4.heap.size < w5.heap.size := World.block_lt_of_cell? _ _ k19
        clear k5 k6 k7 k8 k9 k10 t11 t12 hb5 hl5 hbl4
        go_wp2
        go_ret
        first | exact ⟨rfl, hbl5⟩ | exact ⟨rfl, hbl5.alloc hbl5.size _⟩ | exact ⟨rfl, (hbl5.alloc hbl5.size _).alloc (by have := hbl5.size; simp; omega) _⟩
end Go.Proofs.Ytecoekenkjgijaa
