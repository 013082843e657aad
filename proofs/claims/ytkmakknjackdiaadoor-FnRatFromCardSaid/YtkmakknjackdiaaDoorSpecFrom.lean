/-
  'FnExactRatFrom': both read alike.
-/
import Derived.Test.YtkmakknjackdiaaDoorRatFromS
import Derived.Stop.LaidErr
namespace Go.Proofs.YtkmakknjackdiaaDoor
open Go.RowKit Go.Sort
set_option linter.unusedSimpArgs false
set_option linter.unusedVariables false
attribute [local go_sem ↓] Go.wp_at_zero Go.wp_at_succ

theorem digX_bd (s : List UInt8) : -1 ≤ digX s ∧ digX s < 10000000000 := by
  unfold digX
  split
  · rename_i h
    have := valF_bd h.2.1 h.2.2
    omega
  · omega
theorem dg_below (s : List UInt8) (hs : s.length ≤ 281474976710656) (w : World) : Calls Tryd.prog 22 #[.string ⟨s.toArray⟩] w fun e w' => e = .returned (.int .i64 (digX s)) ∧ Below w.heap.size w w' :=
  (spec_digits s hs w).mono fun e w' ⟨h, m, hm⟩ => ⟨h, by rw [hm]; exact below_drewN (Below.refl _ _) m⟩
set_option maxHeartbeats 2000000 in
set_option maxRecDepth 100000 in
theorem spec_rf (s : List UInt8) (hlim : s.length ≤ 140737488355328) (w : World) : Calls Tryd.prog 9 #[.string ⟨s.toArray⟩] w fun e w' =>
    ∃ n d ok, RF s n d ok ∧ e = .returned (.tuple #[.agg #[.int .i64 n, .int .i64 d], .bool ok]) ∧ Below w.heap.size w w' := by
  obtain ⟨z1, z2⟩ := size_cut s hlim
  have HC : Hid (∀ W, Calls Tryd.prog 21 #[.string ⟨s.toArray⟩] W fun e w' => e = .returned (.tuple #[.string ⟨(cutP s).1.toArray⟩, .string ⟨(cutP s).2.toArray⟩]) ∧ Below W.heap.size W w') :=
    fun W => (spec_cut s (by omega) W).mono fun e w' ⟨h, m, hm⟩ => ⟨h, by rw [hm]; exact below_drewN (Below.refl _ _) m⟩
  have hB := @RF.sbad s
  have hG := fun n => @RF.sgood s _ _ n rfl rfl
  obtain ⟨p, hp⟩ : ∃ p, (cutP s).1 = p := ⟨_, rfl⟩
  obtain ⟨q, hq⟩ : ∃ q, (cutP s).2 = q := ⟨_, rfl⟩
  simp only [hp, hq] at hB hG z1 z2 HC
  have hDq := dg_below q z2
  have bq := digX_bd q
  generalize digX q = v at *
  have HDq := Lib.hid hDq
  clear hDq hp hq
  rcases p with _ | ⟨c, r⟩
  · have hu : digX (bod []) = -1 := if_neg (fun h => absurd h.1 (by decide))
    have HR : Hid (RF s 0 0 false) := hB (.inl (by omega))
    have hDa := dg_below [] (by simp)
    rw [show digX [] = -1 from if_neg (fun h => absurd h.1 (by decide))] at hDa
    have HDa := Lib.hid hDa
    clear hDa hu hB hG
    go_enter Tryd.func9, Tryd.ntmps9
    go_wp2_with fail
    refine (HC.out _).mono ?_
    rintro e w1 ⟨rfl, hb1⟩
    have R1 := (Rs.new_ _ _ _ _).call hb1
    clear hb1 HC
    go_wp2_with fail
    refine (HDa.out _).mono ?_
    rintro e w2 ⟨rfl, hb2⟩
    obtain ⟨u0, u1, u2, f1, f2, u3⟩ := R1.call hb2
    clear hb2 R1
    go_wp2
    exact bodyPost_ret (v := .tuple #[.agg #[.int .i64 0, .int .i64 0], .bool false]) (by simp [results, Tryd.results9, go_sem, tw0 _ u1, tw1 _ _ u2]) rfl ⟨0, 0, false, HR.out, rfl, (u3.setCell (by simp) _).setCell (by simp) _⟩
  · have hsz : (r.length : Int) + 1 ≤ 281474976710656 := by simp at z1; omega
    have hpos : (0 : Int) < (r.length : Int) + 1 := by omega
    have hi0 : (⟨(c :: r).toArray⟩ : ByteArray)[0]'(by show 0 < (c :: r).toArray.size; simp) = c := rfl
    have hx : (⟨(c :: r).toArray⟩ : ByteArray).extract 1 (r.length + 1) = ⟨r.toArray⟩ := by rw [ext_l]; simp
    have hr : r.length ≤ 281474976710656 := by omega
    by_cases hc : c = 45
    · subst hc
      have e1 : sgn (45 :: r) = -1 := if_pos rfl
      have e2 : bod (45 :: r) = r := if_pos rfl
      rw [e2] at hB
      simp only [e1, e2] at hG
      have hDa := dg_below r hr
      have bu := digX_bd r
      generalize digX r = u at *
      have HDa := Lib.hid hDa
      have HB := Lib.hid hB
      have HG := Lib.hid hG
      clear hDa hB hG e1 e2
      go_enter Tryd.func9, Tryd.ntmps9
      go_wp2_with fail
      refine (HC.out _).mono ?_
      rintro e w1 ⟨rfl, hb1⟩
      have R1 := (Rs.new_ _ _ _ _).call hb1
      clear hb1 HC
      go_wp2_with fail
      refine (HDa.out _).mono ?_
      rintro e w2 ⟨rfl, hb2⟩
      have R2 := R1.call hb2
      clear hb2 R1
      by_cases hu : u < 0
      · have HR : Hid (RF s 0 0 false) := HB.out (.inl hu)
        obtain ⟨u0, u1, u2, f1, f2, u3⟩ := R2
        clear HB HG
        go_wp2
        exact bodyPost_ret (v := .tuple #[.agg #[.int .i64 0, .int .i64 0], .bool false]) (by simp [results, Tryd.results9, go_sem, tw0 _ u1, tw1 _ _ u2]) rfl ⟨0, 0, false, HR.out, rfl, (u3.setCell (by simp) _).setCell (by simp) _⟩
      · have hu' : 0 ≤ u := by omega
        go_wp2_with fail
        refine (HDq.out _).mono ?_
        rintro e w3 ⟨rfl, hb3⟩
        have R3 := R2.call hb3
        clear hb3 R2
        by_cases hv : v < 0
        · have HR : Hid (RF s 0 0 false) := HB.out (.inr hv)
          obtain ⟨u0, u1, u2, f1, f2, u3⟩ := R3
          clear HB HG
          go_wp2
          exact bodyPost_ret (v := .tuple #[.agg #[.int .i64 0, .int .i64 0], .bool false]) (by simp [results, Tryd.results9, go_sem, tw0 _ u1, tw1 _ _ u2]) rfl ⟨0, 0, false, HR.out, rfl, (u3.setCell (by simp) _).setCell (by simp) _⟩
        · have hv' : 0 ≤ v := by omega
          obtain ⟨n, hn⟩ : ∃ n : Int, n = -u := ⟨_, rfl⟩
          have hm : IntKind.i64.wrap (-u) = n := by rw [hn]; exact IntWalk.i64_in _ (by omega)
          have HG2 := Lib.hid (HG.out n hu' (by omega))
          have HI := Lib.hid (spec_rt n v)
          obtain ⟨l, hl⟩ : ∃ l, rtX n v = l := ⟨_, rfl⟩
          rw [hl] at HG2 HI
          clear hn hl HB HG hx hi0 hsz hpos hr hlim z1 z2 bu bq
          go_wp2_with fail
          refine (HDa.out _).mono ?_
          rintro e w4 ⟨rfl, hb4⟩
          have R4 := R3.call hb4
          clear hb4 R3
          go_wp2_with fail
          refine (HDq.out _).mono ?_
          rintro e w5 ⟨rfl, hb5⟩
          have R5 := R4.call hb5
          clear hb5 R4 HDa HDq
          go_wp2_with fail
          refine (HI.out _).mono ?_
          rintro e w6 ⟨rfl, hb6⟩
          have R6 := (R5.alloc _).call hb6
          have N := new1 hb6
          clear hb6 R5 HI
          obtain ⟨u0, u1, u2, f1, f2, u3⟩ := R6
          obtain ⟨-, n1, n2, -⟩ := N
          by_cases he : l = s
          · have HR := Lib.hid (HG2.out.1 he)
            subst he
            clear HG2
            go_wp2
            exact bodyPost_ret (v := .tuple #[.agg #[.int .i64 n, .int .i64 v], .bool true]) (by simp [results, Tryd.results9, go_sem, tw0 _ u1, tw1 _ _ u2]) rfl ⟨n, v, true, HR.out, rfl, (u3.setCell (by simp) _).setCell (by simp) _⟩
          · have HR := Lib.hid (HG2.out.2 he)
            have he2 : (l == s) = false := beq_eq_false_iff_ne.2 he
            clear HG2
            go_wp2
            exact bodyPost_ret (v := .tuple #[.agg #[.int .i64 0, .int .i64 0], .bool false]) (by simp [results, Tryd.results9, go_sem, tw0 _ u1, tw1 _ _ u2]) rfl ⟨0, 0, false, HR.out, rfl, (u3.setCell (by simp) _).setCell (by simp) _⟩
    · have hc3 : ¬ ((c.toNat : Int) = 45) := by
        intro h
        exact hc (UInt8.toNat_inj.1 (by have : (45 : UInt8).toNat = 45 := rfl; omega))
      have hc4 : (c == 45) = false := beq_eq_false_iff_ne.2 hc
      have e1 : sgn (c :: r) = 1 := if_neg (by simpa using hc)
      have e2 : bod (c :: r) = c :: r := if_neg (by simpa using hc)
      rw [e2] at hB
      simp only [e1, e2] at hG
      have hDa := dg_below (c :: r) z1
      have bu := digX_bd (c :: r)
      generalize digX (c :: r) = u at *
      have HDa := Lib.hid hDa
      have HB := Lib.hid hB
      have HG := Lib.hid hG
      clear hDa hB hG e1 e2
      have HU := Lib.hid bu
      have HQ := Lib.hid bq
      clear hx hsz hpos hr z1 z2 hlim bu bq
      go_enter Tryd.func9, Tryd.ntmps9
      go_wp2_with fail
      refine (HC.out _).mono ?_
      rintro e w1 ⟨rfl, hb1⟩
      have R1 := (Rs.new_ _ _ _ _).call hb1
      clear hb1 HC
      go_wp2_with fail
      refine (HDa.out _).mono ?_
      rintro e w2 ⟨rfl, hb2⟩
      have R2 := R1.call hb2
      clear hb2 R1
      by_cases hu : u < 0
      · have HR : Hid (RF s 0 0 false) := HB.out (.inl hu)
        obtain ⟨u0, u1, u2, f1, f2, u3⟩ := R2
        clear HB HG
        go_wp2
        exact bodyPost_ret (v := .tuple #[.agg #[.int .i64 0, .int .i64 0], .bool false]) (by simp [results, Tryd.results9, go_sem, tw0 _ u1, tw1 _ _ u2]) rfl ⟨0, 0, false, HR.out, rfl, (u3.setCell (by simp) _).setCell (by simp) _⟩
      · have hu' : 0 ≤ u := by omega
        go_wp2_with fail
        refine (HDq.out _).mono ?_
        rintro e w3 ⟨rfl, hb3⟩
        have R3 := R2.call hb3
        clear hb3 R2
        by_cases hv : v < 0
        · have HR : Hid (RF s 0 0 false) := HB.out (.inr hv)
          obtain ⟨u0, u1, u2, f1, f2, u3⟩ := R3
          clear HB HG
          go_wp2
          exact bodyPost_ret (v := .tuple #[.agg #[.int .i64 0, .int .i64 0], .bool false]) (by simp [results, Tryd.results9, go_sem, tw0 _ u1, tw1 _ _ u2]) rfl ⟨0, 0, false, HR.out, rfl, (u3.setCell (by simp) _).setCell (by simp) _⟩
        · have hv' : 0 ≤ v := by omega
          obtain ⟨n, hn⟩ : ∃ n : Int, n = u := ⟨_, rfl⟩
          have hm : IntKind.i64.wrap u = n := by rw [hn]; exact IntWalk.i64_in _ (by have := HU.out; omega)
          have HG2 := Lib.hid (HG.out n hu' (by omega))
          have HI := Lib.hid (spec_rt n v)
          obtain ⟨l, hl⟩ : ∃ l, rtX n v = l := ⟨_, rfl⟩
          rw [hl] at HG2 HI
          clear hn hl HB HG hi0 HU HQ
          go_wp2_with fail
          refine (HDa.out _).mono ?_
          rintro e w4 ⟨rfl, hb4⟩
          have R4 := R3.call hb4
          clear hb4 R3
          go_wp2_with fail
          refine (HDq.out _).mono ?_
          rintro e w5 ⟨rfl, hb5⟩
          have R5 := R4.call hb5
          clear hb5 R4 HDa HDq
          go_wp2_with fail
          refine (HI.out _).mono ?_
          rintro e w6 ⟨rfl, hb6⟩
          have R6 := (R5.alloc _).call hb6
          have N := new1 hb6
          clear hb6 R5 HI
          obtain ⟨u0, u1, u2, f1, f2, u3⟩ := R6
          obtain ⟨-, n1, n2, -⟩ := N
          by_cases he : l = s
          · have HR := Lib.hid (HG2.out.1 he)
            subst he
            clear HG2
            go_wp2
            exact bodyPost_ret (v := .tuple #[.agg #[.int .i64 n, .int .i64 v], .bool true]) (by simp [results, Tryd.results9, go_sem, tw0 _ u1, tw1 _ _ u2]) rfl ⟨n, v, true, HR.out, rfl, (u3.setCell (by simp) _).setCell (by simp) _⟩
          · have HR := Lib.hid (HG2.out.2 he)
            have he2 : (l == s) = false := beq_eq_false_iff_ne.2 he
            clear HG2
            go_wp2
            exact bodyPost_ret (v := .tuple #[.agg #[.int .i64 0, .int .i64 0], .bool false]) (by simp [results, Tryd.results9, go_sem, tw0 _ u1, tw1 _ _ u2]) rfl ⟨0, 0, false, HR.out, rfl, (u3.setCell (by simp) _).setCell (by simp) _⟩
end Go.Proofs.YtkmakknjackdiaaDoor
