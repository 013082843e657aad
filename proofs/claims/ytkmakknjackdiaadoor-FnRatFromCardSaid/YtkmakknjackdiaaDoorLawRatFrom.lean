/-
  'FnRatFrom': what is read is valid.
-/
import Derived.Test.YtkmakknjackdiaaDoorDrawFrom
namespace Go.Proofs.YtkmakknjackdiaaDoor
open Go.RowKit Go.Sort
set_option linter.unusedSimpArgs false
set_option linter.unusedVariables false
attribute [local go_sem ↓] Go.wp_at_zero Go.wp_at_succ

theorem itoa_noblank (n : Int) : ∀ c ∈ Lib.itoa n, c ≠ 32 := by
  intro c hc e
  subst e
  rcases Int.lt_or_le n 0 with h | h
  · obtain ⟨k, rfl⟩ : ∃ k : Nat, n = -(k : Int) := ⟨n.natAbs, by omega⟩
    rw [Lib.itoa_neg k (by omega), List.mem_cons] at hc
    rcases hc with hc | hc
    · exact absurd hc (by decide)
    · exact absurd (dec_digit k _ hc).1 (by decide)
  · obtain ⟨k, rfl⟩ := Int.eq_ofNat_of_zero_le h
    rw [Lib.itoa_nonneg] at hc
    exact absurd (dec_digit k _ hc).1 (by decide)
theorem rt_noblank {x y : Int} {s : List UInt8} (h : ratB x y = true) : rtX x y ≠ s ++ [32] := by
  intro e
  have hm : (32 : UInt8) ∈ rtX x y := by rw [e]; simp
  unfold rtX at hm
  rw [if_pos h] at hm
  split at hm
  · exact itoa_noblank x _ hm rfl
  · rw [List.mem_append, List.mem_append, List.mem_singleton] at hm
    rcases hm with (hm | hm) | hm
    · exact itoa_noblank x _ hm rfl
    · exact absurd hm (by decide)
    · exact itoa_noblank y _ hm rfl
theorem dec_lead (k : Nat) : ∀ r, Lib.decDigits k = 48 :: r → r = [] := by
  intro r hr
  by_cases h : k < 10
  · rw [Lib.decDigits_one h] at hr
    injection hr with _ hr
    exact hr.symm
  · exfalso
    have key : ∀ m : Nat, 1 ≤ m → ∀ t, Lib.decDigits m ≠ 48 :: t := by
      intro m
      induction m using Nat.strongRecOn with
      | ind m ih =>
        intro h1 t ht
        by_cases h : m < 10
        · rw [Lib.decDigits_one h] at ht
          injection ht with hh _
          have := congrArg UInt8.toNat hh
          rw [dig_at h] at this
          have e48 : (48 : UInt8).toNat = 48 := rfl
          omega
        · rw [dec_step0 m (by omega)] at ht
          cases hd : Lib.decDigits (m / 10) with
          | nil => exact dec_ne _ hd
          | cons c u =>
            rw [hd, List.cons_append] at ht
            injection ht with hh _
            subst hh
            exact ih (m / 10) (by omega) (by omega) u hd
    exact key k (by omega) r hr
theorem rt_nozero {n d x y : Int} (h : ratB n d = true) (k : ratB x y = true) : rtX x y ≠ 48 :: rtX n d := by
  intro e
  have h1 := cutP_rt k
  have h2 : cutP (48 :: rtX n d) = (48 :: Lib.itoa n, Lib.itoa d) := by
    have hs : ∀ c ∈ 48 :: Lib.itoa n, c ≠ 47 := by
      intro c hc
      rcases List.mem_cons.1 hc with rfl | hc
      · decide
      · exact itoa_noslash n c hc
    unfold rtX
    rw [if_pos h]
    by_cases hd : d = 1
    · subst hd
      rw [if_pos rfl, cutP_none _ hs, show Lib.itoa 1 = [49] from by rw [show (1 : Int) = ((1 : Nat) : Int) from rfl, Lib.itoa_nonneg, Lib.decDigits_one (by omega)]; rfl]
    · rw [if_neg hd, List.append_assoc]
      exact cutP_some (48 :: Lib.itoa n) (Lib.itoa d) hs
  rw [e, h2] at h1
  have h3 : 48 :: Lib.itoa n = Lib.itoa x := congrArg Prod.fst h1
  rcases Int.lt_or_le x 0 with h0 | h0
  · obtain ⟨j, rfl⟩ : ∃ j : Nat, x = -(j : Int) := ⟨x.natAbs, by omega⟩
    rw [Lib.itoa_neg j (by omega)] at h3
    injection h3 with h3 _
    exact absurd h3 (by decide)
  · obtain ⟨j, rfl⟩ := Int.eq_ofNat_of_zero_le h0
    rw [Lib.itoa_nonneg] at h3
    exact itoa_ne n (dec_lead j _ h3.symm)
theorem impl_blank (s : List UInt8) (hlim : s.length ≤ 1000) (w : World) (ht : TB w) (hv : EV w) : Calls Tryd.prog 10 #[.string ⟨(s ++ [32]).toArray⟩] w fun e w' =>
    e = .returned (.tuple #[.agg #[.int .i64 0, .int .i64 0], .bool false]) ∧ Below w.heap.size w w' :=
  (impl_rf (s ++ [32]) (by simp; omega) w ht hv).mono fun e w' ⟨n, d, ok, hR, he, hb⟩ => by
    rcases hR with ⟨rfl, h1, h2⟩ | ⟨rfl, rfl, rfl, _⟩
    · exact absurd h2 (rt_noblank h1)
    · exact ⟨he, hb⟩
theorem impl_zero (n d : Int) (h : ratB n d = true) (w : World) (ht : TB w) (hv : EV w) : Calls Tryd.prog 10 #[.string ⟨(48 :: rtX n d).toArray⟩] w fun e w' =>
    e = .returned (.tuple #[.agg #[.int .i64 0, .int .i64 0], .bool false]) ∧ Below w.heap.size w w' :=
  (impl_rf (48 :: rtX n d) (by have := @rt_len n d; simp; omega) w ht hv).mono fun e w' ⟨x, y, ok, hR, he, hb⟩ => by
    rcases hR with ⟨rfl, h1, h2⟩ | ⟨rfl, rfl, rfl, _⟩
    · exact absurd h2 (rt_nozero h h1)
    · exact ⟨he, hb⟩

set_option maxHeartbeats 1000000 in
theorem walk_FnRatFrom (A : Option Addr) (n0 c0 : Nat) (w : World) (h : Code w.heap.size w A n0 c0) (hL : laidMetH Tryd.prog Rows.fnRatFromRow.laid w) : Calls Tryd.prog 5 #[.slice A n0 c0] w (Holds w) := by
  have ht : TB w := tb_of_laid hL (by rfl)
  have hv : EV w := ev_of_laid hL (by rfl) (by rfl)
  have HO := Lib.hid (d_DrawRatFrom n0 c0 A w h ht)
  clear h hL
  go_enter Tryd.func5, Tryd.ntmps5
  go_wp2_with fail
  · go_ret
    exact ⟨rfl, Below.refl _ _⟩
  · refine HO.out.mono ?_
    rintro e w1 ⟨l, hl, rfl, hb1⟩
    have HI := Lib.hid (impl_rf l (by omega))
    have HS := Lib.hid (spec_rf l (by omega))
    have ht1 := tab_below ht hb1
    have hv1 := ev_below hv hb1
    clear HO
    go_wp2_with fail
    refine (HI.out _ ht1 hv1).mono ?_
    rintro e w2 ⟨n, d, ok, hR, rfl, hb2⟩
    go_wp2_with fail
    have B2 := hb1.trans (hb2.mono hb1.size)
    refine (HS.out _).mono ?_
    rintro e w3 ⟨n2, d2, ok2, hR2, rfl, hb3⟩
    obtain ⟨rfl, rfl, rfl⟩ := hR2.one hR
    have R3 := (Rs.new_ _ _ _ _).call hb3
    have R4 := R3.alloc (.cells #[.int .i64 n2, .int .i64 d2] 23)
    have hok : (ok2 != ok2) = false := by cases ok2 <;> rfl
    clear hb1 hb2 hb3 HI HS hR2
    have BB := B2.trans (R4.2.2.2.2.2.mono B2.size)
    obtain ⟨u0, u1, u2, f1, f2, u3⟩ := R3
    have htx := tab_below ht BB
    have hvx := ev_below hv BB
    have hs1 : ¬ ((⟨l.toArray⟩ : ByteArray).size + (⟨#[32]⟩ : ByteArray).size > 9223372036854775807) := by show ¬ (l.toArray.size + 1 > _); simp; omega
    have hadd1 : ∀ W, (Op.stringOp .add ⟨l.toArray⟩ ⟨#[32]⟩).run Tryd.prog W = .ok (.string ⟨(l ++ [32]).toArray⟩) W := fun W => run_string_add_lists W l [32] (by omega) (by simp)
    have hs2 : ¬ ((⟨#[48]⟩ : ByteArray).size + (⟨l.toArray⟩ : ByteArray).size > 9223372036854775807) := by show ¬ (1 + l.toArray.size > _); simp; omega
    have hadd2 : ∀ W, (Op.stringOp .add ⟨#[48]⟩ ⟨l.toArray⟩).run Tryd.prog W = .ok (.string ⟨(48 :: l).toArray⟩) W := fun W => run_string_add_lists W [48] l (by simp) (by omega)
    rcases hR with ⟨rfl, hvd, hrt⟩ | ⟨rfl, rfl, rfl, _⟩
    · have HZ := Lib.hid (impl_zero n2 d2 hvd)
      have HV := Lib.hid (impl_valid n2 d2)
      have HT := Lib.hid (impl_rt n2 d2)
      rw [hrt] at HZ HT
      rw [hvd] at HV
      go_wp2_with fail
      refine (impl_blank l (by omega) _ htx hvx).mono ?_
      rintro e w4 ⟨rfl, hb4⟩
      have R4 := ((Rs.alloc ⟨u0, u1, u2, f1, f2, u3⟩ _).call hb4).alloc (.cells #[.int .i64 0, .int .i64 0] 23)
      have B4 := B2.trans (R4.2.2.2.2.2.mono B2.size)
      clear hb4 htx hvx u0 u1 u2 f1 f2 u3 BB
      go_wp2_with fail
      refine (HZ.out _ (tab_below ht B4) (ev_below hv B4)).mono ?_
      rintro e w5 ⟨rfl, hb5⟩
      have R5 := (R4.call hb5).alloc (.cells #[.int .i64 0, .int .i64 0] 23)
      have B5 := B2.trans (R5.2.2.2.2.2.mono B2.size)
      clear hb5 R4 B4 HZ
      obtain ⟨u0, u1, u2, f1, f2, u3⟩ := R5
      go_wp2_with fail
      refine (HV.out _).mono ?_
      rintro e w6 ⟨rfl, hb6⟩
      obtain ⟨u0, u1, u2, f1, f2, u3⟩ := Rs.call ⟨u0, u1, u2, f1, f2, u3⟩ hb6
      have B6 := B2.trans (u3.mono B2.size)
      clear hb6 HV B5
      go_wp2_with fail
      refine (HT.out _ (tab_below ht B6)).mono ?_
      rintro e w7 ⟨rfl, hb7⟩
      have B7 := B6.trans (hb7.mono B6.size)
      go_wp2
      go_ret
      exact ⟨rfl, B7⟩
    · go_wp2
      go_ret
      exact ⟨rfl, BB⟩
end Go.Proofs.YtkmakknjackdiaaDoor
