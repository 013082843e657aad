/-
  A law of rationals.
-/
import Derived.Test.YtdlcfofangkehaaKeep
import Derived.Test.YtdlcfofangkehaaRatDraws3
import Derived.Deep.CutRange
namespace Go.Proofs.Ytdlcfofangkehaa
open Go.RowKit
set_option linter.unusedSimpArgs false
set_option linter.unusedVariables false

theorem impl_of_some {num den x y : Int} (w : World) (h : ofR num den = some (x, y)) : Calls Try.prog 31 #[.int .i64 num, .int .i64 den] w (Res1 w x y true) := by
  have := impl_of num den w
  rw [h] at this
  exact this
theorem walk_FnRat (A : Option Addr) (n0 c0 : Nat) (w : World) (h : Code w.heap.size w A n0 c0) : Calls Try.prog 13 #[.slice A n0 c0] w (Holds w) := by
  have HO := Lib.hid (d_DrawRatValid n0 c0 A w h)
  clear h
  go_enter Try.func13, Try.ntmps13
  go_wp2_with fail
  · go_ret
    exact ⟨rfl, Below.refl _ _⟩
  · refine HO.out.mono ?_
    rintro e w1 ⟨n, d, ⟨n1, n2⟩, ⟨d1, d2⟩, rfl, hbl1⟩
    clear HO
    have HI := Lib.hid (fun W => impl_valid n d W)
    have HS := Lib.hid (fun W => spec_valid n d W)
    rcases hr : ratB n d with _ | _
    · rw [hr] at HI HS
      clear hr
      go_wp2_with fail
      refine (HI.out _).mono ?_
      rintro e w2 ⟨rfl, hb2⟩
      obtain ⟨s2, k1, k2, hl2⟩ := new1 hb2
      have hbl2 := hbl1.trans (hl2.mono hbl1.size)
      have t3 : w1.heap.size < w2.heap.size := World.block_lt_of_cell? _ _ k1
      clear hb2 hl2 hbl1
      go_wp2_with fail
      refine (HS.out _).mono ?_
      rintro e w3 ⟨rfl, hb3⟩
      have k4 := keep0 hb3 k1
      have k5 := keep0 hb3 k2
      obtain ⟨s3, hl3⟩ := new0 hb3
      have hbl3 := hbl2.trans (hl3.mono hbl2.size)
      have t6 : w1.heap.size < w3.heap.size := World.block_lt_of_cell? _ _ k4
      clear k1 k2 t3 hb3 hl3 hbl2
      go_wp2
      go_ret
      first | exact ⟨rfl, hbl3⟩ | exact ⟨rfl, hbl3.alloc hbl3.size _⟩ | exact ⟨rfl, (hbl3.alloc hbl3.size _).alloc (by have := hbl3.size; simp; omega) _⟩
    · rw [hr] at HI HS
      have HO := Lib.hid (of_self hr)
      have HZ := Lib.hid (rat_neg_den hr)
      have HN : Hid (∀ W, Calls Try.prog 33 #[.agg #[.int .i64 n, .int .i64 (-d)]] W (Said W false)) := fun W => by have := impl_valid n (-d) W; rw [HZ.out] at this; exact this
      have hz := rat_zero hr
      rcases (by omega : d = 1 ∨ (d ≠ 1 ∧ n ≠ 0)) with rfl | ⟨e1, e2⟩
      · clear hr hz HZ
        go_wp2_with fail
        refine (HI.out _).mono ?_
        rintro e w2 ⟨rfl, hb2⟩
        obtain ⟨s2, k1, k2, hl2⟩ := new1 hb2
        have hbl2 := hbl1.trans (hl2.mono hbl1.size)
        have t3 : w1.heap.size < w2.heap.size := World.block_lt_of_cell? _ _ k1
        clear hb2 hl2 hbl1
        go_wp2_with fail
        refine (HS.out _).mono ?_
        rintro e w3 ⟨rfl, hb3⟩
        have k4 := keep0 hb3 k1
        have k5 := keep0 hb3 k2
        obtain ⟨s3, hl3⟩ := new0 hb3
        have hbl3 := hbl2.trans (hl3.mono hbl2.size)
        have t6 : w1.heap.size < w3.heap.size := World.block_lt_of_cell? _ _ k4
        clear k1 k2 t3 hb3 hl3 hbl2
        go_wp2_with fail
        refine (impl_of_some _ HO.out).mono ?_
        rintro e w4 ⟨rfl, hb4⟩
        have y0 := keep0 hb4 k4
        have y1 := keep0 hb4 k5
        obtain ⟨s4, hl4⟩ := new0 hb4
        have hbl4 := hbl3.trans (hl4.mono hbl3.size)
        clear hb4 hl4 k4 k5
        have r0 : w1.heap.size < w4.heap.size := World.block_lt_of_cell? _ _ y0
        go_wp2_with fail
        refine (HN.out _).mono ?_
        rintro e w5 ⟨rfl, hb5⟩
        have z0 := keep1 hb5 y0
        have z1 := keep1 hb5 y1
        obtain ⟨s5, z8, z9, hl5⟩ := new1 hb5
        have hbl5 := hbl4.trans (hl5.mono hbl4.size)
        have r1 : w1.heap.size < w5.heap.size := World.block_lt_of_cell? _ _ z0
        clear hb5 hl5 y0 y1
        go_wp2
        go_ret
        exact ⟨rfl, hbl5⟩
      · have e1' : (d == 1) = false := by simpa using e1
        have e2' : (n != 0) = true := by simpa using e2
        clear hr hz HZ e1 e2
        go_wp2_with fail
        refine (HI.out _).mono ?_
        rintro e w2 ⟨rfl, hb2⟩
        obtain ⟨s2, k1, k2, hl2⟩ := new1 hb2
        have hbl2 := hbl1.trans (hl2.mono hbl1.size)
        have t3 : w1.heap.size < w2.heap.size := World.block_lt_of_cell? _ _ k1
        clear hb2 hl2 hbl1
        go_wp2_with fail
        refine (HS.out _).mono ?_
        rintro e w3 ⟨rfl, hb3⟩
        have k4 := keep0 hb3 k1
        have k5 := keep0 hb3 k2
        obtain ⟨s3, hl3⟩ := new0 hb3
        have hbl3 := hbl2.trans (hl3.mono hbl2.size)
        have t6 : w1.heap.size < w3.heap.size := World.block_lt_of_cell? _ _ k4
        clear k1 k2 t3 hb3 hl3 hbl2
        go_wp2_with fail
        refine (impl_of_some _ HO.out).mono ?_
        rintro e w4 ⟨rfl, hb4⟩
        have y0 := keep0 hb4 k4
        have y1 := keep0 hb4 k5
        obtain ⟨s4, hl4⟩ := new0 hb4
        have hbl4 := hbl3.trans (hl4.mono hbl3.size)
        clear hb4 hl4 k4 k5
        have r0 : w1.heap.size < w4.heap.size := World.block_lt_of_cell? _ _ y0
        go_wp2_with fail
        refine (HN.out _).mono ?_
        rintro e w5 ⟨rfl, hb5⟩
        have z0 := keep1 hb5 y0
        have z1 := keep1 hb5 y1
        obtain ⟨s5, z8, z9, hl5⟩ := new1 hb5
        have hbl5 := hbl4.trans (hl5.mono hbl4.size)
        have r1 : w1.heap.size < w5.heap.size := World.block_lt_of_cell? _ _ z0
        clear hb5 hl5 y0 y1
        go_wp2
        go_ret
        exact ⟨rfl, hbl5⟩
end Go.Proofs.Ytdlcfofangkehaa
