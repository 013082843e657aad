/-
  A law of rationals.
-/
import Derived.Test.YtdlcfofangkehaaKeep
import Derived.Test.YtdlcfofangkehaaRatDraws3
import Derived.Deep.CutRange
namespace Go.Proofs.Ytdlcfofangkehaa
open Go.RowKit
set_option linter.unusedSimpArgs false
set_option linter.unusedVariables false

theorem impl_of_some {num den x y : Int} (w : World) (h : ofR num den = some (x, y)) : Calls Try.prog 31 #[.int .i64 num, .int .i64 den] w (Res1 w x y true) := by
  have := impl_of num den w
  rw [h] at this
  exact this
theorem mul11 {a k : Int} (ha : -1000000 ≤ a ∧ a ≤ 1000000) (hk : 2 ≤ k ∧ k ≤ 11) : -11000000 ≤ a * k ∧ a * k ≤ 11000000 := by
  rcases (by omega : k = 2 ∨ k = 3 ∨ k = 4 ∨ k = 5 ∨ k = 6 ∨ k = 7 ∨ k = 8 ∨ k = 9 ∨ k = 10 ∨ k = 11) with rfl | rfl | rfl | rfl | rfl | rfl | rfl | rfl | rfl | rfl <;> omega
set_option maxHeartbeats 2000000 in
theorem walk_FnRatOfTimes (A : Option Addr) (n0 c0 : Nat) (A1 : Option Addr) (n1 c1 : Nat) (w : World) (h : Code w.heap.size w A n0 c0) (_h1 : Code w.heap.size w A1 n1 c1) : Calls Try.prog 12 #[.slice A n0 c0, .slice A1 n1 c1] w (Holds w) := by
  have HO := Lib.hid (d_DrawRatOf n0 c0 A w h)
  clear h _h1
  by_cases q0 : (1048576 : Int) < (n0 : Int)
  · go_enter Try.func12, Try.ntmps12
    go_wp2
    go_ret
    exact ⟨rfl, Below.refl _ _⟩
  by_cases q1 : (1048576 : Int) < (n1 : Int)
  · have q0' : decide ((1048576 : Int) < (n0 : Int)) = false := by simpa using q0
    go_enter Try.func12, Try.ntmps12
    go_wp2
    go_ret
    exact ⟨rfl, Below.refl _ _⟩
  have q0 : (n0 : Int) ≤ 1048576 := by omega
  have q1 : (n1 : Int) ≤ 1048576 := by omega
  go_enter Try.func12, Try.ntmps12
  go_wp2_with fail
  refine HO.out.mono ?_
  rintro e w1 ⟨num, den, rfl, hbl1⟩
  clear HO
  have HI : Hid (∀ W, Calls Try.prog 31 #[.int .i64 num, .int .i64 den] W (Res W (ofR num den))) := fun W => impl_of num den W
  have HS : Hid (∀ W, Calls Try.prog 32 #[.int .i64 num, .int .i64 den] W (Res W (ofR num den))) := fun W => spec_of num den W
  rcases ho : ofR num den with _ | ⟨x, y⟩
  · rw [ho] at HI HS
    clear ho
    go_wp2_with fail
    refine (HI.out _).mono ?_
    rintro e w2 ⟨rfl, hb2⟩
    obtain ⟨s2, hl2⟩ := new0 hb2
    have hbl2 := hbl1.trans (hl2.mono hbl1.size)
    clear hb2 hl2 hbl1
    go_wp2_with fail
    refine (HS.out _).mono ?_
    rintro e w3 ⟨rfl, hb3⟩
    obtain ⟨s3, k1, k2, hl3⟩ := new1 hb3
    have hbl3 := hbl2.trans (hl3.mono hbl2.size)
    have t3 : w2.heap.size < w3.heap.size := World.block_lt_of_cell? _ _ k1
    clear hb3 hl3 hbl2
    go_wp2
    go_ret
    first | exact ⟨rfl, hbl3⟩ | exact ⟨rfl, hbl3.alloc hbl3.size _⟩ | exact ⟨rfl, (hbl3.alloc hbl3.size _).alloc (by have := hbl3.size; simp; omega) _⟩
  · rw [ho] at HI HS
    obtain ⟨d0, ⟨g1, g2, g3, g4⟩, hv, hE⟩ := of_some ho
    obtain ⟨v1, v2, v3, v4⟩ := ratB_bd hv
    have HO2 := Lib.hid ho
    clear hE hv ho d0
    go_wp2_with fail
    refine (HI.out _).mono ?_
    rintro e w2 ⟨rfl, hb2⟩
    obtain ⟨s2, hl2⟩ := new0 hb2
    have hbl2 := hbl1.trans (hl2.mono hbl1.size)
    clear hb2 hl2 hbl1
    go_wp2_with fail
    refine (HS.out _).mono ?_
    rintro e w3 ⟨rfl, hb3⟩
    obtain ⟨s3, k1, k2, hl3⟩ := new1 hb3
    have hbl3 := hbl2.trans (hl3.mono hbl2.size)
    have t3 : w2.heap.size < w3.heap.size := World.block_lt_of_cell? _ _ k1
    clear hb3 hl3 hbl2
    go_upto_region 8 with (fail)
    clear HI HS
    rcases (by omega : 1000000 < num ∨ num < -1000000 ∨ (0 ≤ num ∧ num ≤ 1000000) ∨ (-1000000 ≤ num ∧ num < 0)) with hn | hn | ⟨hn, hn'⟩ | ⟨hn, hn'⟩
    · go_wp2
      go_ret
      first | exact ⟨rfl, hbl3⟩ | exact ⟨rfl, hbl3.alloc hbl3.size _⟩
    · go_wp2
      go_ret
      first | exact ⟨rfl, hbl3⟩ | exact ⟨rfl, hbl3.alloc hbl3.size _⟩
    · rcases (by omega : 1000000 < den ∨ den < -1000000 ∨ (0 ≤ den ∧ den ≤ 1000000) ∨ (-1000000 ≤ den ∧ den < 0)) with hd | hd | ⟨hd, hd'⟩ | ⟨hd, hd'⟩
      · go_wp2
        go_ret
        first | exact ⟨rfl, hbl3⟩ | exact ⟨rfl, hbl3.alloc hbl3.size _⟩
      · go_wp2
        go_ret
        first | exact ⟨rfl, hbl3⟩ | exact ⟨rfl, hbl3.alloc hbl3.size _⟩
      · have hk0 : (0 : Int) ≤ (n1 : Int) % 10 := by omega
        have hk1 : (n1 : Int) % 10 ≤ 9 := by omega
        have ht := of_times (k := 2 + (n1 : Int) % 10) HO2.out ⟨by omega, by omega⟩ ⟨by omega, by omega⟩ ⟨by omega, by omega⟩
        have hm1 : -11000000 ≤ num * (2 + (n1 : Int) % 10) ∧ num * (2 + (n1 : Int) % 10) ≤ 11000000 := mul11 ⟨by omega, by omega⟩ ⟨by omega, by omega⟩
        have hm2 : -11000000 ≤ den * (2 + (n1 : Int) % 10) ∧ den * (2 + (n1 : Int) % 10) ≤ 11000000 := mul11 ⟨by omega, by omega⟩ ⟨by omega, by omega⟩
        obtain ⟨hm1, hm1'⟩ := hm1
        obtain ⟨hm2, hm2'⟩ := hm2
        have HT := Lib.hid ht
        have HN := Lib.hid (of_neg HO2.out)
        clear HO2 ht
        go_wp2_with fail
        refine (impl_of_some _ HT.out).mono ?_
        rintro e w4 ⟨rfl, hb4⟩
        have y0 := keep1 hb4 k1
        have y1 := keep1 hb4 k2
        obtain ⟨s4, y8, y9, hl4⟩ := new1 hb4
        have hbl4 := hbl3.trans (hl4.mono hbl3.size)
        clear hb4 hl4 k1 k2
        go_wp2_with fail
        refine (impl_of_some _ HN.out).mono ?_
        rintro e w5 ⟨rfl, hb5⟩
        have z0 := keep1 hb5 y0
        have z1 := keep1 hb5 y1
        have z2 := keep1 hb5 y8
        have z3 := keep1 hb5 y9
        obtain ⟨s5, z8, z9, hl5⟩ := new1 hb5
        have hbl5 := hbl4.trans (hl5.mono hbl4.size)
        have hz1 : w4.heap.size < w5.heap.size := by omega
        have r1 : w2.heap.size < w5.heap.size := by omega
        clear hb5 hl5 y0 y1 y8 y9
        go_wp2
        go_ret
        first | exact ⟨rfl, hbl5⟩ | exact ⟨rfl, hbl5.alloc hbl5.size _⟩
      · have hk0 : (0 : Int) ≤ (n1 : Int) % 10 := by omega
        have hk1 : (n1 : Int) % 10 ≤ 9 := by omega
        have ht := of_times (k := 2 + (n1 : Int) % 10) HO2.out ⟨by omega, by omega⟩ ⟨by omega, by omega⟩ ⟨by omega, by omega⟩
        have hm1 : -11000000 ≤ num * (2 + (n1 : Int) % 10) ∧ num * (2 + (n1 : Int) % 10) ≤ 11000000 := mul11 ⟨by omega, by omega⟩ ⟨by omega, by omega⟩
        have hm2 : -11000000 ≤ den * (2 + (n1 : Int) % 10) ∧ den * (2 + (n1 : Int) % 10) ≤ 11000000 := mul11 ⟨by omega, by omega⟩ ⟨by omega, by omega⟩
        obtain ⟨hm1, hm1'⟩ := hm1
        obtain ⟨hm2, hm2'⟩ := hm2
        have HT := Lib.hid ht
        have HN := Lib.hid (of_neg HO2.out)
        clear HO2 ht
        go_wp2_with fail
        refine (impl_of_some _ HT.out).mono ?_
        rintro e w4 ⟨rfl, hb4⟩
        have y0 := keep1 hb4 k1
        have y1 := keep1 hb4 k2
        obtain ⟨s4, y8, y9, hl4⟩ := new1 hb4
        have hbl4 := hbl3.trans (hl4.mono hbl3.size)
        clear hb4 hl4 k1 k2
        go_wp2_with fail
        refine (impl_of_some _ HN.out).mono ?_
        rintro e w5 ⟨rfl, hb5⟩
        have z0 := keep1 hb5 y0
        have z1 := keep1 hb5 y1
        have z2 := keep1 hb5 y8
        have z3 := keep1 hb5 y9
        obtain ⟨s5, z8, z9, hl5⟩ := new1 hb5
        have hbl5 := hbl4.trans (hl5.mono hbl4.size)
        have hz1 : w4.heap.size < w5.heap.size := by omega
        have r1 : w2.heap.size < w5.heap.size := by omega
        clear hb5 hl5 y0 y1 y8 y9
        go_wp2
        go_ret
        first | exact ⟨rfl, hbl5⟩ | exact ⟨rfl, hbl5.alloc hbl5.size _⟩
    · rcases (by omega : 1000000 < den ∨ den < -1000000 ∨ (0 ≤ den ∧ den ≤ 1000000) ∨ (-1000000 ≤ den ∧ den < 0)) with hd | hd | ⟨hd, hd'⟩ | ⟨hd, hd'⟩
      · go_wp2
        go_ret
        first | exact ⟨rfl, hbl3⟩ | exact ⟨rfl, hbl3.alloc hbl3.size _⟩
      · go_wp2
        go_ret
        first | exact ⟨rfl, hbl3⟩ | exact ⟨rfl, hbl3.alloc hbl3.size _⟩
      · have hk0 : (0 : Int) ≤ (n1 : Int) % 10 := by omega
        have hk1 : (n1 : Int) % 10 ≤ 9 := by omega
        have ht := of_times (k := 2 + (n1 : Int) % 10) HO2.out ⟨by omega, by omega⟩ ⟨by omega, by omega⟩ ⟨by omega, by omega⟩
        have hm1 : -11000000 ≤ num * (2 + (n1 : Int) % 10) ∧ num * (2 + (n1 : Int) % 10) ≤ 11000000 := mul11 ⟨by omega, by omega⟩ ⟨by omega, by omega⟩
        have hm2 : -11000000 ≤ den * (2 + (n1 : Int) % 10) ∧ den * (2 + (n1 : Int) % 10) ≤ 11000000 := mul11 ⟨by omega, by omega⟩ ⟨by omega, by omega⟩
        obtain ⟨hm1, hm1'⟩ := hm1
        obtain ⟨hm2, hm2'⟩ := hm2
        have HT := Lib.hid ht
        have HN := Lib.hid (of_neg HO2.out)
        clear HO2 ht
        go_wp2_with fail
        refine (impl_of_some _ HT.out).mono ?_
        rintro e w4 ⟨rfl, hb4⟩
        have y0 := keep1 hb4 k1
        have y1 := keep1 hb4 k2
        obtain ⟨s4, y8, y9, hl4⟩ := new1 hb4
        have hbl4 := hbl3.trans (hl4.mono hbl3.size)
        clear hb4 hl4 k1 k2
        go_wp2_with fail
        refine (impl_of_some _ HN.out).mono ?_
        rintro e w5 ⟨rfl, hb5⟩
        have z0 := keep1 hb5 y0
        have z1 := keep1 hb5 y1
        have z2 := keep1 hb5 y8
        have z3 := keep1 hb5 y9
        obtain ⟨s5, z8, z9, hl5⟩ := new1 hb5
        have hbl5 := hbl4.trans (hl5.mono hbl4.size)
        have hz1 : w4.heap.size < w5.heap.size := by omega
        have r1 : w2.heap.size < w5.heap.size := by omega
        clear hb5 hl5 y0 y1 y8 y9
        go_wp2
        go_ret
        first | exact ⟨rfl, hbl5⟩ | exact ⟨rfl, hbl5.alloc hbl5.size _⟩
      · have hk0 : (0 : Int) ≤ (n1 : Int) % 10 := by omega
        have hk1 : (n1 : Int) % 10 ≤ 9 := by omega
        have ht := of_times (k := 2 + (n1 : Int) % 10) HO2.out ⟨by omega, by omega⟩ ⟨by omega, by omega⟩ ⟨by omega, by omega⟩
        have hm1 : -11000000 ≤ num * (2 + (n1 : Int) % 10) ∧ num * (2 + (n1 : Int) % 10) ≤ 11000000 := mul11 ⟨by omega, by omega⟩ ⟨by omega, by omega⟩
        have hm2 : -11000000 ≤ den * (2 + (n1 : Int) % 10) ∧ den * (2 + (n1 : Int) % 10) ≤ 11000000 := mul11 ⟨by omega, by omega⟩ ⟨by omega, by omega⟩
        obtain ⟨hm1, hm1'⟩ := hm1
        obtain ⟨hm2, hm2'⟩ := hm2
        have HT := Lib.hid ht
        have HN := Lib.hid (of_neg HO2.out)
        clear HO2 ht
        go_wp2_with fail
        refine (impl_of_some _ HT.out).mono ?_
        rintro e w4 ⟨rfl, hb4⟩
        have y0 := keep1 hb4 k1
        have y1 := keep1 hb4 k2
        obtain ⟨s4, y8, y9, hl4⟩ := new1 hb4
        have hbl4 := hbl3.trans (hl4.mono hbl3.size)
        clear hb4 hl4 k1 k2
        go_wp2_with fail
        refine (impl_of_some _ HN.out).mono ?_
        rintro e w5 ⟨rfl, hb5⟩
        have z0 := keep1 hb5 y0
        have z1 := keep1 hb5 y1
        have z2 := keep1 hb5 y8
        have z3 := keep1 hb5 y9
        obtain ⟨s5, z8, z9, hl5⟩ := new1 hb5
        have hbl5 := hbl4.trans (hl5.mono hbl4.size)
        have hz1 : w4.heap.size < w5.heap.size := by omega
        have r1 : w2.heap.size < w5.heap.size := by omega
        clear hb5 hl5 y0 y1 y8 y9
        go_wp2
        go_ret
        first | exact ⟨rfl, hbl5⟩ | exact ⟨rfl, hbl5.alloc hbl5.size _⟩
end Go.Proofs.Ytdlcfofangkehaa
