/-
  A law of rationals.
-/
import Derived.Test.YtdlcfofangkehaaKeep
import Derived.Test.YtdlcfofangkehaaRatDraws3
import Derived.Deep.CutRange
namespace Go.Proofs.Ytdlcfofangkehaa
open Go.RowKit
set_option linter.unusedSimpArgs false
set_option linter.unusedVariables false

theorem impl_of_some {num den x y : Int} (w : World) (h : ofR num den = some (x, y)) : Calls Try.prog 31 #[.int .i64 num, .int .i64 den] w (Res1 w x y true) := by
  have := impl_of num den w
  rw [h] at this
  exact this
set_option maxHeartbeats 2000000 in
theorem walk_FnRatOf (A : Option Addr) (n0 c0 : Nat) (w : World) (h : Code w.heap.size w A n0 c0) : Calls Try.prog 11 #[.slice A n0 c0] w (Holds w) := by
  have HO := Lib.hid (d_DrawRatOf n0 c0 A w h)
  clear h
  go_enter Try.func11, Try.ntmps11
  go_wp2_with fail
  · go_ret
    exact ⟨rfl, Below.refl _ _⟩
  · refine HO.out.mono ?_
    rintro e w1 ⟨num, den, rfl, hbl1⟩
    clear HO
    have HI : Hid (∀ W, Calls Try.prog 31 #[.int .i64 num, .int .i64 den] W (Res W (ofR num den))) := fun W => impl_of num den W
    have HS : Hid (∀ W, Calls Try.prog 32 #[.int .i64 num, .int .i64 den] W (Res W (ofR num den))) := fun W => spec_of num den W
    rcases ho : ofR num den with _ | ⟨x, y⟩
    · rw [ho] at HI HS
      clear ho
      go_wp2_with fail
      refine (HI.out _).mono ?_
      rintro e w2 ⟨rfl, hb2⟩
      obtain ⟨s2, hl2⟩ := new0 hb2
      have hbl2 := hbl1.trans (hl2.mono hbl1.size)
      clear hb2 hl2 hbl1
      go_wp2_with fail
      refine (HS.out _).mono ?_
      rintro e w3 ⟨rfl, hb3⟩
      obtain ⟨s3, k1, k2, hl3⟩ := new1 hb3
      have hbl3 := hbl2.trans (hl3.mono hbl2.size)
      have t3 : w2.heap.size < w3.heap.size := World.block_lt_of_cell? _ _ k1
      clear hb3 hl3 hbl2
      go_wp2
      go_ret
      first | exact ⟨rfl, hbl3⟩ | exact ⟨rfl, hbl3.alloc hbl3.size _⟩ | exact ⟨rfl, (hbl3.alloc hbl3.size _).alloc (by have := hbl3.size; simp; omega) _⟩
    · rw [ho] at HI HS
      obtain ⟨d0, ⟨g1, g2, g3, g4⟩, hv, hE⟩ := of_some ho
      obtain ⟨v1, v2, v3, v4⟩ := ratB_bd hv
      have HE := Lib.hid hE
      have HR := Lib.hid hv
      have HB : Hid (∀ W, Calls Try.prog 33 #[.agg #[.int .i64 x, .int .i64 y]] W (Said W true)) := fun W => by have := impl_valid x y W; rw [hv] at this; exact this
      clear hE hv ho d0
      go_wp2_with fail
      refine (HI.out _).mono ?_
      rintro e w2 ⟨rfl, hb2⟩
      obtain ⟨s2, hl2⟩ := new0 hb2
      have hbl2 := hbl1.trans (hl2.mono hbl1.size)
      clear hb2 hl2 hbl1
      go_wp2_with fail
      refine (HS.out _).mono ?_
      rintro e w3 ⟨rfl, hb3⟩
      obtain ⟨s3, k1, k2, hl3⟩ := new1 hb3
      have hbl3 := hbl2.trans (hl3.mono hbl2.size)
      have t3 : w2.heap.size < w3.heap.size := World.block_lt_of_cell? _ _ k1
      clear hb3 hl3 hbl2
      go_upto_region 8 with (fail)
      clear HI HS
      rcases (by omega : 1000000000 < num ∨ num < -1000000000 ∨ (0 ≤ num ∧ num ≤ 1000000000) ∨ (-1000000000 ≤ num ∧ num < 0)) with hn | hn | ⟨hn, hn'⟩ | ⟨hn, hn'⟩
      · go_wp2_with fail
        refine (HB.out _).mono ?_
        rintro e w4 ⟨rfl, hb4⟩
        have hl4 := hbl3.trans ((new1 hb4).2.2.2.mono hbl3.size)
        go_wp2
        go_ret
        exact ⟨rfl, hl4⟩
      · go_wp2_with fail
        refine (HB.out _).mono ?_
        rintro e w4 ⟨rfl, hb4⟩
        have hl4 := hbl3.trans ((new1 hb4).2.2.2.mono hbl3.size)
        go_wp2
        go_ret
        exact ⟨rfl, hl4⟩
      · rcases (by omega : 1000000000 < den ∨ den < -1000000000 ∨ (0 ≤ den ∧ den ≤ 1000000000) ∨ (-1000000000 ≤ den ∧ den < 0)) with hd | hd | ⟨hd, hd'⟩ | ⟨hd, hd'⟩
        · go_wp2_with fail
          refine (HB.out _).mono ?_
          rintro e w4 ⟨rfl, hb4⟩
          have hl4 := hbl3.trans ((new1 hb4).2.2.2.mono hbl3.size)
          go_wp2
          go_ret
          exact ⟨rfl, hl4⟩
        · go_wp2_with fail
          refine (HB.out _).mono ?_
          rintro e w4 ⟨rfl, hb4⟩
          have hl4 := hbl3.trans ((new1 hb4).2.2.2.mono hbl3.size)
          go_wp2
          go_ret
          exact ⟨rfl, hl4⟩
        · obtain ⟨p1, p2⟩ := prod_in (a := x) (b := den) ⟨by omega, by omega⟩ ⟨by omega, by omega⟩
          obtain ⟨p3, p4⟩ := prod_in (a := y) (b := num) ⟨by omega, by omega⟩ ⟨by omega, by omega⟩
          have hE1 : (x * den == y * num) = true := by rw [HE.out, Int.mul_comm num y]; simp
          clear HE HR
          go_wp2_with fail
          refine (HB.out _).mono ?_
          rintro e w4 ⟨rfl, hb4⟩
          have y0 := keep1 hb4 k1
          have y1 := keep1 hb4 k2
          have hl4 := hbl3.trans ((new1 hb4).2.2.2.mono hbl3.size)
          go_wp2
          go_ret
          exact ⟨rfl, hl4⟩
        · obtain ⟨p1, p2⟩ := prod_in (a := x) (b := den) ⟨by omega, by omega⟩ ⟨by omega, by omega⟩
          obtain ⟨p3, p4⟩ := prod_in (a := y) (b := num) ⟨by omega, by omega⟩ ⟨by omega, by omega⟩
          have hE1 : (x * den == y * num) = true := by rw [HE.out, Int.mul_comm num y]; simp
          clear HE HR
          go_wp2_with fail
          refine (HB.out _).mono ?_
          rintro e w4 ⟨rfl, hb4⟩
          have y0 := keep1 hb4 k1
          have y1 := keep1 hb4 k2
          have hl4 := hbl3.trans ((new1 hb4).2.2.2.mono hbl3.size)
          go_wp2
          go_ret
          exact ⟨rfl, hl4⟩
      · rcases (by omega : 1000000000 < den ∨ den < -1000000000 ∨ (0 ≤ den ∧ den ≤ 1000000000) ∨ (-1000000000 ≤ den ∧ den < 0)) with hd | hd | ⟨hd, hd'⟩ | ⟨hd, hd'⟩
        · go_wp2_with fail
          refine (HB.out _).mono ?_
          rintro e w4 ⟨rfl, hb4⟩
          have hl4 := hbl3.trans ((new1 hb4).2.2.2.mono hbl3.size)
          go_wp2
          go_ret
          exact ⟨rfl, hl4⟩
        · go_wp2_with fail
          refine (HB.out _).mono ?_
          rintro e w4 ⟨rfl, hb4⟩
          have hl4 := hbl3.trans ((new1 hb4).2.2.2.mono hbl3.size)
          go_wp2
          go_ret
          exact ⟨rfl, hl4⟩
        · obtain ⟨p1, p2⟩ := prod_in (a := x) (b := den) ⟨by omega, by omega⟩ ⟨by omega, by omega⟩
          obtain ⟨p3, p4⟩ := prod_in (a := y) (b := num) ⟨by omega, by omega⟩ ⟨by omega, by omega⟩
          have hE1 : (x * den == y * num) = true := by rw [HE.out, Int.mul_comm num y]; simp
          clear HE HR
          go_wp2_with fail
          refine (HB.out _).mono ?_
          rintro e w4 ⟨rfl, hb4⟩
          have y0 := keep1 hb4 k1
          have y1 := keep1 hb4 k2
          have hl4 := hbl3.trans ((new1 hb4).2.2.2.mono hbl3.size)
          go_wp2
          go_ret
          exact ⟨rfl, hl4⟩
        · obtain ⟨p1, p2⟩ := prod_in (a := x) (b := den) ⟨by omega, by omega⟩ ⟨by omega, by omega⟩
          obtain ⟨p3, p4⟩ := prod_in (a := y) (b := num) ⟨by omega, by omega⟩ ⟨by omega, by omega⟩
          have hE1 : (x * den == y * num) = true := by rw [HE.out, Int.mul_comm num y]; simp
          clear HE HR
          go_wp2_with fail
          refine (HB.out _).mono ?_
          rintro e w4 ⟨rfl, hb4⟩
          have y0 := keep1 hb4 k1
          have y1 := keep1 hb4 k2
          have hl4 := hbl3.trans ((new1 hb4).2.2.2.mono hbl3.size)
          go_wp2
          go_ret
          exact ⟨rfl, hl4⟩
end Go.Proofs.Ytdlcfofangkehaa
