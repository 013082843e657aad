/-
  A law of roots.
-/
import Derived.Test.YtecoekenkjgijaaRootKit
import Derived.Test.YtecoekenkjgijaaRootMulI
import Derived.Test.YtecoekenkjgijaaRootMulS
import Derived.Test.YtecoekenkjgijaaRootOfI
import Derived.Test.YtecoekenkjgijaaRootOfS
import Derived.Test.YtecoekenkjgijaaRootDraws2
import Derived.Deep.RegionHeld3
import Derived.Deep.DrawnRows
import Derived.Deep.CutRange
namespace Go.Proofs.Ytecoekenkjgijaa
open Go.RowKit
set_option linter.unusedSimpArgs false
set_option linter.unusedVariables false
attribute [local go_sem ↓] Go.wp_at_zero Go.wp_at_succ

set_option maxHeartbeats 4000000 in
theorem walk_FnRootNeg (A : Option Addr) (n0 c0 : Nat) (w : World) (h : Code w.heap.size w A n0 c0) : Calls Try.prog 8 #[.slice A n0 c0] w (Holds w) := by
  have HO := Lib.hid (d_DrawRootNeg n0 c0 A w h)
  clear h
  go_enter Try.func8, Try.ntmps8
  go_wp2_with fail
  · go_ret
    exact ⟨rfl, Below.refl _ _⟩
  · refine HO.out.mono ?_
    rintro e w1 ⟨s, n, d, ⟨⟨s1, s2⟩, ⟨n1, n2⟩, ⟨d1, d2⟩⟩, rfl, hbl1⟩
    clear HO
    have HI : Hid (∀ W, Calls Try.prog 16 #[.agg #[.int .i64 s, .int .i64 n, .int .i64 d]] W (RO W (negO s n d))) := fun W => impl_rneg s n d W
    have HS : Hid (∀ W, Calls Try.prog 15 #[.agg #[.int .i64 s, .int .i64 n, .int .i64 d]] W (RO W (negO s n d))) := fun W => spec_rneg s n d W
    rcases hr : rootB s n d with _ | _
    · rw [negO_no hr] at HI HS
      clear hr
      go_wp2_with fail
      refine (HI.out _).mono ?_
      rintro e w2 ⟨rfl, hb2⟩
      obtain ⟨s2, k1, k2, k3, hl2⟩ := keep3c hb2
      have hbl2 := hbl1.trans (hl2.mono hbl1.size)
      have t4 : w1.heap.size < w2.heap.size := World.block_lt_of_cell? _ _ k1
      clear hb2 hl2 hbl1
      go_wp2_with fail
      refine (HS.out _).mono ?_
      rintro e w3 ⟨rfl, hb3⟩
      have k5 := keep1 hb3 k1
      have k6 := keep1 hb3 k2
      have k7 := keep1 hb3 k3
      obtain ⟨s3, k8, k9, k10, hl3⟩ := keep3c hb3
      have hbl3 := hbl2.trans (hl3.mono hbl2.size)
      have t11 : w1.heap.size < w3.heap.size := World.block_lt_of_cell? _ _ k5
      have t12 : w2.heap.size < w3.heap.size := World.block_lt_of_cell? _ _ k8
      clear k1 k2 k3 t4 hb3 hl3 hbl2
      go_wp2
      go_ret
      first | exact ⟨rfl, hbl3⟩ | exact ⟨rfl, hbl3.alloc hbl3.size _⟩ | exact ⟨rfl, (hbl3.alloc hbl3.size _).alloc (by have := hbl3.size; simp; omega) _⟩
    · rcases (rootB_cases hr).2 with ⟨rfl, rfl, rfl⟩ | ⟨rfl, hn⟩ | ⟨rfl, hn⟩
      · have e1 : negO 0 0 1 = some (0, 0, 1) := negO_yes hr
        have e2 : negO 0 0 1 = some (0, 0, 1) := neg_neg hr
        rw [e1] at HI HS
        have HN : Hid (∀ W, Calls Try.prog 16 #[.agg #[.int .i64 0, .int .i64 0, .int .i64 1]] W (RO W (some (0, 0, 1)))) := fun W => by have := impl_rneg 0 0 1 W; rw [e2] at this; exact this
        clear hr e1 e2
        go_wp2_with fail
        refine (HI.out _).mono ?_
        rintro e w2 ⟨rfl, hb2⟩
        obtain ⟨s2, k1, k2, k3, hl2⟩ := keep3c hb2
        have hbl2 := hbl1.trans (hl2.mono hbl1.size)
        have t4 : w1.heap.size < w2.heap.size := World.block_lt_of_cell? _ _ k1
        clear hb2 hl2 hbl1
        go_wp2_with fail
        refine (HS.out _).mono ?_
        rintro e w3 ⟨rfl, hb3⟩
        have k5 := keep1 hb3 k1
        have k6 := keep1 hb3 k2
        have k7 := keep1 hb3 k3
        obtain ⟨s3, k8, k9, k10, hl3⟩ := keep3c hb3
        have hbl3 := hbl2.trans (hl3.mono hbl2.size)
        have t11 : w1.heap.size < w3.heap.size := World.block_lt_of_cell? _ _ k5
        have t12 : w2.heap.size < w3.heap.size := World.block_lt_of_cell? _ _ k8
        clear k1 k2 k3 t4 hb3 hl3 hbl2
        go_wp2_with fail
        refine (HN.out _).mono ?_
        rintro e w4 ⟨rfl, hb4⟩
        have k13 := keep1 hb4 k5
        have k14 := keep1 hb4 k6
        have k15 := keep1 hb4 k7
        have k16 := keep1 hb4 k8
        have k17 := keep1 hb4 k9
        have k18 := keep1 hb4 k10
        obtain ⟨s4, k19, k20, k21, hl4⟩ := keep3c hb4
        have hbl4 := hbl3.trans (hl4.mono hbl3.size)
        have t22 : w1.heap.size < w4.heap.size := World.block_lt_of_cell? _ _ k13
        have t23 : w2.heap.size < w4.heap.size := World.block_lt_of_cell? _ _ k16
        have t24 : w3.heap.size < w4.heap.size := World.block_lt_of_cell? _ _ k19
        clear k5 k6 k7 k8 k9 k10 t11 t12 hb4 hl4 hbl3
        go_wp2_with fail
        go_quiet (fail)
        go_wp2
        go_ret
        first | exact ⟨rfl, below_drewN (hbl4.alloc hbl4.size _) _⟩ | exact ⟨rfl, below_drewN hbl4 _⟩
      · have e1 : negO 1 n d = some ((-1), n, d) := negO_yes hr
        have e2 : negO (-1) n d = some (1, n, d) := neg_neg hr
        rw [e1] at HI HS
        have HN : Hid (∀ W, Calls Try.prog 16 #[.agg #[.int .i64 (-1), .int .i64 n, .int .i64 d]] W (RO W (some (1, n, d)))) := fun W => by have := impl_rneg (-1) n d W; rw [e2] at this; exact this
        clear hr e1 e2
        go_wp2_with fail
        refine (HI.out _).mono ?_
        rintro e w2 ⟨rfl, hb2⟩
        obtain ⟨s2, k1, k2, k3, hl2⟩ := keep3c hb2
        have hbl2 := hbl1.trans (hl2.mono hbl1.size)
        have t4 : w1.heap.size < w2.heap.size := World.block_lt_of_cell? _ _ k1
        clear hb2 hl2 hbl1
        go_wp2_with fail
        refine (HS.out _).mono ?_
        rintro e w3 ⟨rfl, hb3⟩
        have k5 := keep1 hb3 k1
        have k6 := keep1 hb3 k2
        have k7 := keep1 hb3 k3
        obtain ⟨s3, k8, k9, k10, hl3⟩ := keep3c hb3
        have hbl3 := hbl2.trans (hl3.mono hbl2.size)
        have t11 : w1.heap.size < w3.heap.size := World.block_lt_of_cell? _ _ k5
        have t12 : w2.heap.size < w3.heap.size := World.block_lt_of_cell? _ _ k8
        clear k1 k2 k3 t4 hb3 hl3 hbl2
        go_wp2_with fail
        refine (HN.out _).mono ?_
        rintro e w4 ⟨rfl, hb4⟩
        have k13 := keep1 hb4 k5
        have k14 := keep1 hb4 k6
        have k15 := keep1 hb4 k7
        have k16 := keep1 hb4 k8
        have k17 := keep1 hb4 k9
        have k18 := keep1 hb4 k10
        obtain ⟨s4, k19, k20, k21, hl4⟩ := keep3c hb4
        have hbl4 := hbl3.trans (hl4.mono hbl3.size)
        have t22 : w1.heap.size < w4.heap.size := World.block_lt_of_cell? _ _ k13
        have t23 : w2.heap.size < w4.heap.size := World.block_lt_of_cell? _ _ k16
        have t24 : w3.heap.size < w4.heap.size := World.block_lt_of_cell? _ _ k19
        clear k5 k6 k7 k8 k9 k10 t11 t12 hb4 hl4 hbl3
        go_wp2_with fail
        go_quiet (fail)
        go_wp2
        go_ret
        first | exact ⟨rfl, below_drewN (hbl4.alloc hbl4.size _) _⟩ | exact ⟨rfl, below_drewN hbl4 _⟩
      · have e1 : negO (-1) n d = some (1, n, d) := negO_yes hr
        have e2 : negO 1 n d = some ((-1), n, d) := neg_neg hr
        rw [e1] at HI HS
        have HN : Hid (∀ W, Calls Try.prog 16 #[.agg #[.int .i64 1, .int .i64 n, .int .i64 d]] W (RO W (some ((-1), n, d)))) := fun W => by have := impl_rneg 1 n d W; rw [e2] at this; exact this
        clear hr e1 e2
        go_wp2_with fail
        refine (HI.out _).mono ?_
        rintro e w2 ⟨rfl, hb2⟩
        obtain ⟨s2, k1, k2, k3, hl2⟩ := keep3c hb2
        have hbl2 := hbl1.trans (hl2.mono hbl1.size)
        have t4 : w1.heap.size < w2.heap.size := World.block_lt_of_cell? _ _ k1
        clear hb2 hl2 hbl1
        go_wp2_with fail
        refine (HS.out _).mono ?_
        rintro e w3 ⟨rfl, hb3⟩
        have k5 := keep1 hb3 k1
        have k6 := keep1 hb3 k2
        have k7 := keep1 hb3 k3
        obtain ⟨s3, k8, k9, k10, hl3⟩ := keep3c hb3
        have hbl3 := hbl2.trans (hl3.mono hbl2.size)
        have t11 : w1.heap.size < w3.heap.size := World.block_lt_of_cell? _ _ k5
        have t12 : w2.heap.size < w3.heap.size := World.block_lt_of_cell? _ _ k8
        clear k1 k2 k3 t4 hb3 hl3 hbl2
        go_wp2_with fail
        refine (HN.out _).mono ?_
        rintro e w4 ⟨rfl, hb4⟩
        have k13 := keep1 hb4 k5
        have k14 := keep1 hb4 k6
        have k15 := keep1 hb4 k7
        have k16 := keep1 hb4 k8
        have k17 := keep1 hb4 k9
        have k18 := keep1 hb4 k10
        obtain ⟨s4, k19, k20, k21, hl4⟩ := keep3c hb4
        have hbl4 := hbl3.trans (hl4.mono hbl3.size)
        have t22 : w1.heap.size < w4.heap.size := World.block_lt_of_cell? _ _ k13
        have t23 : w2.heap.size < w4.heap.size := World.block_lt_of_cell? _ _ k16
        have t24 : w3.heap.size < w4.heap.size := World.block_lt_of_cell? _ _ k19
        clear k5 k6 k7 k8 k9 k10 t11 t12 hb4 hl4 hbl3
        go_wp2_with fail
        go_quiet (fail)
        go_wp2
        go_ret
        first | exact ⟨rfl, below_drewN (hbl4.alloc hbl4.size _) _⟩ | exact ⟨rfl, below_drewN hbl4 _⟩
end Go.Proofs.Ytecoekenkjgijaa
