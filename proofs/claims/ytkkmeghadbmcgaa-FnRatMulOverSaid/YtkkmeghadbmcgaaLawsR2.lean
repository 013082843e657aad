/-
  The laws of rationals.
-/
import Derived.Test.YtkkmeghadbmcgaaRatLess
import Derived.Test.YtkkmeghadbmcgaaRatDraws2
namespace Go.Proofs.Ytkkmeghadbmcgaa
open Go.RowKit
set_option linter.unusedSimpArgs false
set_option linter.unusedVariables false

/-- A law's walk ends so. -/
def Holds (w : World) (e : Ending) (w' : World) : Prop := e = .returned (.bool true) ∧ Below w.heap.size w w'
theorem keep0 {W w' : World} {b i : Nat} {v : Value} (hb : Below W.heap.size W w') (k : W.cell? ⟨b, i, none⟩ = some v) : w'.cell? ⟨b, i, none⟩ = some v := (hb.cell (p := ⟨b, i, none⟩) (World.block_lt_of_cell? _ _ k)).trans k
theorem keep1 {W w' : World} {o : Obj} {b i : Nat} {v : Value} (hb : Below (W.alloc o).heap.size (W.alloc o) w') (k : W.cell? ⟨b, i, none⟩ = some v) : w'.cell? ⟨b, i, none⟩ = some v :=
  keep0 hb ((World.cell?_alloc_lt _ _ _ (World.block_lt_of_cell? _ _ k)).trans k)
theorem keep2 {W w' : World} {o o' : Obj} {b i : Nat} {v : Value} (hb : Below ((W.alloc o).alloc o').heap.size ((W.alloc o).alloc o') w') (k : W.cell? ⟨b, i, none⟩ = some v) : w'.cell? ⟨b, i, none⟩ = some v :=
  keep1 hb ((World.cell?_alloc_lt _ _ _ (World.block_lt_of_cell? _ _ k)).trans k)
theorem new0 {W w' : World} (hb : Below W.heap.size W w') : W.heap.size ≤ w'.heap.size ∧ Below W.heap.size W w' := ⟨hb.size, hb⟩
theorem new1 {W w' : World} {x y : Value} {T : TypeId} (hb : Below (W.alloc (.cells #[x, y] T)).heap.size (W.alloc (.cells #[x, y] T)) w') :
    W.heap.size < w'.heap.size ∧ w'.cell? ⟨W.heap.size, 0, none⟩ = some x ∧ w'.cell? ⟨W.heap.size, 1, none⟩ = some y ∧ Below W.heap.size W w' :=
  ⟨by have := hb.size; simp at this; omega, keep0 hb (cell_new0 _ _ _ _), keep0 hb (cell_new1 _ _ _ _), ((Below.refl _ _).alloc (Nat.le_refl _) _).trans (hb.mono (by simp))⟩

theorem walk_FnRatAddSwap (A : Option Addr) (n0 c0 : Nat) (w : World) (h : Code w.heap.size w A n0 c0) : Calls Try.prog 3 #[.slice A n0 c0] w (Holds w) := by
  have HO := Lib.hid (d_DrawRatAdd n0 c0 A w h)
  clear h
  go_enter Try.func3, Try.ntmps3
  go_wp2_with fail
  · go_ret
    exact ⟨rfl, Below.refl _ _⟩
  · refine HO.out.mono ?_
    rintro e w1 ⟨an, ad, bn, bd, ⟨an1, an2⟩, ⟨ad1, ad2⟩, ⟨bn1, bn2⟩, ⟨bd1, bd2⟩, rfl, hbl1⟩
    clear HO
    have HI : Hid (∀ W, Calls Try.prog 16 #[.agg #[.int .i64 an, .int .i64 ad], .agg #[.int .i64 bn, .int .i64 bd]] W (Res W (addR an ad bn bd))) := fun W => impl_add an ad bn bd W
    have HS : Hid (∀ W, Calls Try.prog 17 #[.agg #[.int .i64 an, .int .i64 ad], .agg #[.int .i64 bn, .int .i64 bd]] W (Res W (addR an ad bn bd))) := fun W => spec_add an ad bn bd W
    rcases ho : addR an ad bn bd with _ | ⟨x, y⟩
    · rw [ho] at HI HS
      clear ho
      go_wp2_with fail
      refine (HI.out _).mono ?_
      rintro e w2 ⟨rfl, hb2⟩
      obtain ⟨s2, k1, k2, k3, k4, hl2⟩ := box2 hb2
      have hbl2 := hbl1.trans (hl2.mono hbl1.size)
      have t5 : w1.heap.size < w2.heap.size := World.block_lt_of_cell? _ _ k1
      have t6 : w1.heap.size + 1 < w2.heap.size := World.block_lt_of_cell? _ _ k3
      clear hb2 hl2 hbl1
      go_wp2_with fail
      refine (HS.out _).mono ?_
      rintro e w3 ⟨rfl, hb3⟩
      have k7 := keep1 hb3 k1
      have k8 := keep1 hb3 k2
      have k9 := keep1 hb3 k3
      have k10 := keep1 hb3 k4
      obtain ⟨s3, k11, k12, hl3⟩ := new1 hb3
      have hbl3 := hbl2.trans (hl3.mono hbl2.size)
      have t13 : w1.heap.size < w3.heap.size := World.block_lt_of_cell? _ _ k7
      have t14 : w1.heap.size + 1 < w3.heap.size := World.block_lt_of_cell? _ _ k9
      have t15 : w2.heap.size < w3.heap.size := World.block_lt_of_cell? _ _ k11
      clear k1 k2 k3 k4 t5 t6 hb3 hl3 hbl2
      go_wp2
      go_ret
      first | exact ⟨rfl, hbl3⟩ | exact ⟨rfl, hbl3.alloc hbl3.size _⟩ | exact ⟨rfl, (hbl3.alloc hbl3.size _).alloc (by have := hbl3.size; simp; omega) _⟩
    · rw [ho] at HI HS
      have hsw := add_swap an ad bn bd
      rw [ho] at hsw
      have hv : ratB x y = true := (add_some ho).2.2.1
      have HW : Hid (∀ W, Calls Try.prog 16 #[.agg #[.int .i64 bn, .int .i64 bd], .agg #[.int .i64 an, .int .i64 ad]] W (Res W (some (x, y)))) := fun W => by have := impl_add bn bd an ad W; rw [hsw] at this; exact this
      clear hsw ho
      go_wp2_with fail
      refine (HI.out _).mono ?_
      rintro e w2 ⟨rfl, hb2⟩
      obtain ⟨s2, k1, k2, k3, k4, hl2⟩ := box2 hb2
      have hbl2 := hbl1.trans (hl2.mono hbl1.size)
      have t5 : w1.heap.size < w2.heap.size := World.block_lt_of_cell? _ _ k1
      have t6 : w1.heap.size + 1 < w2.heap.size := World.block_lt_of_cell? _ _ k3
      clear hb2 hl2 hbl1
      go_wp2_with fail
      refine (HS.out _).mono ?_
      rintro e w3 ⟨rfl, hb3⟩
      have k7 := keep1 hb3 k1
      have k8 := keep1 hb3 k2
      have k9 := keep1 hb3 k3
      have k10 := keep1 hb3 k4
      obtain ⟨s3, k11, k12, hl3⟩ := new1 hb3
      have hbl3 := hbl2.trans (hl3.mono hbl2.size)
      have t13 : w1.heap.size < w3.heap.size := World.block_lt_of_cell? _ _ k7
      have t14 : w1.heap.size + 1 < w3.heap.size := World.block_lt_of_cell? _ _ k9
      have t15 : w2.heap.size < w3.heap.size := World.block_lt_of_cell? _ _ k11
      clear k1 k2 k3 k4 t5 t6 hb3 hl3 hbl2
      go_wp2_with fail
      refine (HW.out _).mono ?_
      rintro e w4 ⟨rfl, hb4⟩
      have k16 := keep1 hb4 k7
      have k17 := keep1 hb4 k8
      have k18 := keep1 hb4 k9
      have k19 := keep1 hb4 k10
      have k20 := keep1 hb4 k11
      have k21 := keep1 hb4 k12
      obtain ⟨s4, k22, k23, hl4⟩ := new1 hb4
      have hbl4 := hbl3.trans (hl4.mono hbl3.size)
      have t24 : w1.heap.size < w4.heap.size := World.block_lt_of_cell? _ _ k16
      have t25 : w1.heap.size + 1 < w4.heap.size := World.block_lt_of_cell? _ _ k18
      have t26 : w2.heap.size < w4.heap.size := World.block_lt_of_cell? _ _ k20
      have t27 : w3.heap.size < w4.heap.size := World.block_lt_of_cell? _ _ k22
      clear k7 k8 k9 k10 k11 k12 t13 t14 t15 hb4 hl4 hbl3
      go_wp2_with fail
      refine (impl_valid x y _).mono ?_
      rintro e w5 ⟨rfl, hb5⟩
      have k28 := keep1 hb5 k16
      have k29 := keep1 hb5 k17
      have k30 := keep1 hb5 k18
      have k31 := keep1 hb5 k19
      have k32 := keep1 hb5 k20
      have k33 := keep1 hb5 k21
      have k34 := keep1 hb5 k22
      have k35 := keep1 hb5 k23
      obtain ⟨s5, k36, k37, hl5⟩ := new1 hb5
      have hbl5 := hbl4.trans (hl5.mono hbl4.size)
      have t38 : w1.heap.size < w5.heap.size := World.block_lt_of_cell? _ _ k28
      have t39 : w1.heap.size + 1 < w5.heap.size := World.block_lt_of_cell? _ _ k30
      have t40 : w2.heap.size < w5.heap.size := World.block_lt_of_cell? _ _ k32
      have t41 : w3.heap.size < w5.heap.size := World.block_lt_of_cell? _ _ k34
      have t42 : w4.heap.size < w5.heap.size := World.block_lt_of_cell? _ _ k36
      clear k16 k17 k18 k19 k20 k21 k22 k23 t24 t25 t26 t27 hb5 hl5 hbl4
      go_wp2
      go_ret
      first | exact ⟨rfl, hbl5⟩ | exact ⟨rfl, hbl5.alloc hbl5.size _⟩ | exact ⟨rfl, (hbl5.alloc hbl5.size _).alloc (by have := hbl5.size; simp; omega) _⟩

theorem walk_FnRatAddSub (A : Option Addr) (n0 c0 : Nat) (w : World) (h : Code w.heap.size w A n0 c0) : Calls Try.prog 9 #[.slice A n0 c0] w (Holds w) := by
  have HO := Lib.hid (d_DrawRatAdd n0 c0 A w h)
  clear h
  go_enter Try.func9, Try.ntmps9
  go_wp2_with fail
  · go_ret
    exact ⟨rfl, Below.refl _ _⟩
  · refine HO.out.mono ?_
    rintro e w1 ⟨an, ad, bn, bd, ⟨an1, an2⟩, ⟨ad1, ad2⟩, ⟨bn1, bn2⟩, ⟨bd1, bd2⟩, rfl, hbl1⟩
    clear HO
    have HI : Hid (∀ W, Calls Try.prog 16 #[.agg #[.int .i64 an, .int .i64 ad], .agg #[.int .i64 bn, .int .i64 bd]] W (Res W (addR an ad bn bd))) := fun W => impl_add an ad bn bd W
    have HS : Hid (∀ W, Calls Try.prog 17 #[.agg #[.int .i64 an, .int .i64 ad], .agg #[.int .i64 bn, .int .i64 bd]] W (Res W (addR an ad bn bd))) := fun W => spec_add an ad bn bd W
    rcases ho : addR an ad bn bd with _ | ⟨x, y⟩
    · rw [ho] at HI HS
      clear ho
      go_wp2_with fail
      refine (HI.out _).mono ?_
      rintro e w2 ⟨rfl, hb2⟩
      obtain ⟨s2, k1, k2, k3, k4, hl2⟩ := box2 hb2
      have hbl2 := hbl1.trans (hl2.mono hbl1.size)
      have t5 : w1.heap.size < w2.heap.size := World.block_lt_of_cell? _ _ k1
      have t6 : w1.heap.size + 1 < w2.heap.size := World.block_lt_of_cell? _ _ k3
      clear hb2 hl2 hbl1
      go_wp2_with fail
      refine (HS.out _).mono ?_
      rintro e w3 ⟨rfl, hb3⟩
      have k7 := keep1 hb3 k1
      have k8 := keep1 hb3 k2
      have k9 := keep1 hb3 k3
      have k10 := keep1 hb3 k4
      obtain ⟨s3, k11, k12, hl3⟩ := new1 hb3
      have hbl3 := hbl2.trans (hl3.mono hbl2.size)
      have t13 : w1.heap.size < w3.heap.size := World.block_lt_of_cell? _ _ k7
      have t14 : w1.heap.size + 1 < w3.heap.size := World.block_lt_of_cell? _ _ k9
      have t15 : w2.heap.size < w3.heap.size := World.block_lt_of_cell? _ _ k11
      clear k1 k2 k3 k4 t5 t6 hb3 hl3 hbl2
      go_wp2
      go_ret
      first | exact ⟨rfl, hbl3⟩ | exact ⟨rfl, hbl3.alloc hbl3.size _⟩ | exact ⟨rfl, (hbl3.alloc hbl3.size _).alloc (by have := hbl3.size; simp; omega) _⟩
    · rw [ho] at HI HS
      have hsb := add_sub ho
      have HW : Hid (∀ W, Calls Try.prog 26 #[.agg #[.int .i64 x, .int .i64 y], .agg #[.int .i64 bn, .int .i64 bd]] W (Res W (some (an, ad)))) := fun W => by have := impl_sub x y bn bd W (wf_small (by omega)); rw [hsb] at this; exact this
      clear hsb ho
      go_wp2_with fail
      refine (HI.out _).mono ?_
      rintro e w2 ⟨rfl, hb2⟩
      obtain ⟨s2, k1, k2, k3, k4, hl2⟩ := box2 hb2
      have hbl2 := hbl1.trans (hl2.mono hbl1.size)
      have t5 : w1.heap.size < w2.heap.size := World.block_lt_of_cell? _ _ k1
      have t6 : w1.heap.size + 1 < w2.heap.size := World.block_lt_of_cell? _ _ k3
      clear hb2 hl2 hbl1
      go_wp2_with fail
      refine (HS.out _).mono ?_
      rintro e w3 ⟨rfl, hb3⟩
      have k7 := keep1 hb3 k1
      have k8 := keep1 hb3 k2
      have k9 := keep1 hb3 k3
      have k10 := keep1 hb3 k4
      obtain ⟨s3, k11, k12, hl3⟩ := new1 hb3
      have hbl3 := hbl2.trans (hl3.mono hbl2.size)
      have t13 : w1.heap.size < w3.heap.size := World.block_lt_of_cell? _ _ k7
      have t14 : w1.heap.size + 1 < w3.heap.size := World.block_lt_of_cell? _ _ k9
      have t15 : w2.heap.size < w3.heap.size := World.block_lt_of_cell? _ _ k11
      clear k1 k2 k3 k4 t5 t6 hb3 hl3 hbl2
      go_wp2_with fail
      refine (HW.out _).mono ?_
      rintro e w4 ⟨rfl, hb4⟩
      have k16 := keep1 hb4 k7
      have k17 := keep1 hb4 k8
      have k18 := keep1 hb4 k9
      have k19 := keep1 hb4 k10
      have k20 := keep1 hb4 k11
      have k21 := keep1 hb4 k12
      obtain ⟨s4, k22, k23, hl4⟩ := new1 hb4
      have hbl4 := hbl3.trans (hl4.mono hbl3.size)
      have t24 : w1.heap.size < w4.heap.size := World.block_lt_of_cell? _ _ k16
      have t25 : w1.heap.size + 1 < w4.heap.size := World.block_lt_of_cell? _ _ k18
      have t26 : w2.heap.size < w4.heap.size := World.block_lt_of_cell? _ _ k20
      have t27 : w3.heap.size < w4.heap.size := World.block_lt_of_cell? _ _ k22
      clear k7 k8 k9 k10 k11 k12 t13 t14 t15 hb4 hl4 hbl3
      go_wp2
      go_ret
      first | exact ⟨rfl, hbl4⟩ | exact ⟨rfl, hbl4.alloc hbl4.size _⟩ | exact ⟨rfl, (hbl4.alloc hbl4.size _).alloc (by have := hbl4.size; simp; omega) _⟩

end Go.Proofs.Ytkkmeghadbmcgaa
