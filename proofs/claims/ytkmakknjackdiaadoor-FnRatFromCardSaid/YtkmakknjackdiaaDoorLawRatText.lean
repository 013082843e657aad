/-
  'FnRatText': a rational is read back from its text.
-/
import Derived.Test.YtkmakknjackdiaaDoorRatFrom
import Derived.Test.YtkmakknjackdiaaDoorRatDraws2
import Derived.Stop.LaidErr
namespace Go.Proofs.YtkmakknjackdiaaDoor
open Go.RowKit Go.Sort
set_option linter.unusedSimpArgs false
set_option linter.unusedVariables false
attribute [local go_sem ↓] Go.wp_at_zero Go.wp_at_succ

theorem starE : "*" ++ "errors.errorString" = "*errors.errorString" := by decide
theorem rowE (u : TypeId) (h : Tryd.prog.typeName? 3 u = some "*errors.errorString") : u = 90 :=
  typeName_ptr_named (nm := "errors.errorString") (by rw [starE]; kernel_rfl) (by kernel_rfl) (by decide) u (by rw [starE]; exact h)
theorem ev_of_laid {w : World} {l : List (String × DataW Unit)} (hL : laidMetH Tryd.prog l w)
    (e1 : (l.filter fun x => x.1 == "strconv.ErrSyntax") = [("strconv.ErrSyntax", Rows.laid_strconv_ErrSyntax)]) (e2 : (l.filter fun x => x.1 == "strconv.ErrRange") = [("strconv.ErrRange", Rows.laid_strconv_ErrRange)]) : EV w := by
  have h1 := hL.filter fun x => x.1 == "strconv.ErrSyntax"
  have h2 := hL.filter fun x => x.1 == "strconv.ErrRange"
  rw [e1, MakeChecks.laidMetH_plain _ _ _ (by kernel_rfl)] at h1
  rw [e2, MakeChecks.laidMetH_plain _ _ _ (by kernel_rfl)] at h2
  have g1 : Tryd.prog.globalNamed "strconv.ErrSyntax" = some 1 := by kernel_rfl
  have g2 : Tryd.prog.globalNamed "strconv.ErrRange" = some 2 := by kernel_rfl
  obtain ⟨a1, s1, hv1, -, -, -⟩ := laid_sentinel h1 g1 (ti := 46) (by kernel_rfl) Tryd.underlying46 rowE Tryd.underlying90 Tryd.underlying92 rfl rfl Tryd.underlying9 (by kernel_rfl) (by kernel_rfl)
  obtain ⟨a2, s2, hv2, -, -, -⟩ := laid_sentinel h2 g2 (ti := 46) (by kernel_rfl) Tryd.underlying46 rowE Tryd.underlying90 Tryd.underlying92 rfl rfl Tryd.underlying9 (by kernel_rfl) (by kernel_rfl)
  exact ⟨⟨_, _, by have h0 := World.var?_cell g1 hv1 0; simpa using h0⟩, _, _, by have h0 := World.var?_cell g2 hv2 0; simpa using h0⟩
theorem Rs.grown {w w1 w2 : World} {x y : Value} {g : Nat} (h : Rs w w1 x y) (hb : w1.grownBy w2 (some g)) (hg : w.heap.size + 1 ≤ g) : Rs w w2 x y := by
  obtain ⟨h0, h1, h2, h3, h4, h5⟩ := h
  obtain ⟨hc, hf⟩ := gcell hb
  have hne : w.heap.size ≠ g := by omega
  exact ⟨Nat.lt_of_lt_of_le h0 hb.size, (hc _ _ h0 hne).trans h1, (hc _ _ h0 hne).trans h2, (hf _ _ h0 hne).trans h3, (hf _ _ h0 hne).trans h4, h5.trans (gfrom hb (by omega) h5.size)⟩
theorem rt_len {n d : Int} : (rtX n d).length ≤ 100 := by
  unfold rtX
  by_cases hv : ratB n d = true
  · obtain ⟨b1, b2, b3, b4, _⟩ := (ratB_iff n d).1 hv
    have := ilen n (by omega)
    have := ilen d (by omega)
    rw [if_pos hv]
    split <;> simp <;> omega
  · rw [if_neg hv]; simp
theorem rt_valid {n d : Int} (h : rtX n d ≠ []) : ratB n d = true := by
  cases hv : ratB n d with
  | true => rfl
  | false => exact absurd (by unfold rtX; rw [if_neg (by simp [hv])]) h
theorem d_DrawRatText (n0 n1 : Nat) (A : Option Addr) (w : World) (h : Code w.heap.size w A n0 n1) : Calls Tryd.prog 12 #[.slice A n0 n1] w fun e w' =>
    ∃ n d : Int, e = .returned (.agg #[.int .i64 n, .int .i64 d]) ∧ Below w.heap.size w w' := by
  have hk : Code w.heap.size (w.alloc (.cells #[.int .i64 0, .int .i64 0] 23)) A n0 n1 := by
    obtain ⟨h1, h2, h3⟩ := h
    refine ⟨h1, h2, fun hl => ?_⟩
    obtain ⟨b, off, rfl, hb, hv⟩ := h3 hl
    refine ⟨b, off, rfl, hb, fun i hi => ?_⟩
    obtain ⟨v, v0, v1, hv⟩ := hv i hi
    exact ⟨v, v0, v1, (World.cell?_alloc_lt _ _ _ hb).trans hv⟩
  have HO := Lib.hid (open_w w.heap.size n0 n1 A _ hk (by simp))
  clear h hk
  go_enter Tryd.func12, Tryd.ntmps12
  go_wp2_with fail
  refine HO.out.mono ?_
  rintro e w1 ⟨g, rfl, hR, hb, hg⟩
  have R1 := (Rs.new_ _ _ _ _).call hb
  have hg' : w.heap.size + 1 ≤ g := by simpa using hg
  clear HO hb hg
  go_wp2_with fail
  refine (wrong_any _ g _ _ hR (by omega) (by omega)).mono ?_
  rintro e w2 ⟨n, d, q, rfl, _, _, _, _, q0, q1, hR2, hg2⟩
  obtain ⟨u0, u1, u2, f1, f2, u3⟩ := R1.grown hg2 hg'
  clear R1 hR hR2 hg2
  go_wp2
  exact bodyPost_ret (v := .agg #[.int .i64 n, .int .i64 d]) (by simp [results, Tryd.results12, go_sem, tw0 _ u1, tw1 _ _ u2]) rfl ⟨n, d, rfl, (u3.setCell (by simp) _).setCell (by simp) _⟩
set_option maxHeartbeats 1000000 in
theorem walk_FnRatText (A : Option Addr) (n0 c0 : Nat) (w : World) (h : Code w.heap.size w A n0 c0) (hL : laidMetH Tryd.prog Rows.fnRatTextRow.laid w) : Calls Tryd.prog 4 #[.slice A n0 c0] w (Holds w) := by
  have HO := Lib.hid (d_DrawRatText n0 c0 A w h)
  clear h
  have ht : TB w := tb_of_laid hL (by rfl)
  have hv : EV w := ev_of_laid hL (by rfl) (by rfl)
  clear hL
  go_enter Tryd.func4, Tryd.ntmps4
  go_wp2_with fail
  · go_ret
    exact ⟨rfl, Below.refl _ _⟩
  · refine HO.out.mono ?_
    rintro e w1 ⟨n, d, rfl, hb1⟩
    clear HO
    have HI := Lib.hid (impl_rt n d)
    have HS := Lib.hid (spec_rt n d)
    have HV := Lib.hid (@rt_valid n d)
    have HF := Lib.hid (impl_rf (rtX n d) (by have := @rt_len n d; omega))
    have ht1 := tab_below ht hb1
    have hv1 := ev_below hv hb1
    obtain ⟨l, hl⟩ : ∃ l, rtX n d = l := ⟨_, rfl⟩
    have HL := Lib.hid hl
    rw [hl] at HI HS HV HF
    clear hl ht hv
    go_wp2_with fail
    refine (HI.out _ (tab_below ht1 (Rs.new_ _ _ _ _).2.2.2.2.2)).mono ?_
    rintro e w2 ⟨rfl, hb2⟩
    have R2 := (Rs.new_ _ _ _ _).call hb2
    clear hb2 HI
    obtain ⟨u0, u1, u2, f1, f2, u3⟩ := R2
    go_wp2_with fail
    refine (HS.out _).mono ?_
    rintro e w3 ⟨rfl, hb3⟩
    obtain ⟨u0, u1, u2, f1, f2, u3⟩ := Rs.call ⟨u0, u1, u2, f1, f2, u3⟩ hb3
    clear hb3 HS
    by_cases he : l = []
    · subst he
      clear HF HV HL
      go_wp2
      go_ret
      exact ⟨rfl, hb1.trans (u3.mono hb1.size)⟩
    · have he' : l.isEmpty = false := by simpa using he
      have HR : Hid (RF l n d true) := .inl ⟨rfl, HV.out he, HL.out⟩
      clear he HV HL
      go_wp2_with fail
      refine (HF.out _ (tab_below ht1 u3) (ev_below hv1 u3)).mono ?_
      rintro e w4 ⟨x, y, ok, hRF, rfl, hb4⟩
      obtain ⟨rfl, rfl, rfl⟩ := hRF.one HR.out
      obtain ⟨u0, u1, u2, f1, f2, u3⟩ := Rs.call ⟨u0, u1, u2, f1, f2, u3⟩ hb4
      clear hb4 HF hRF HR
      go_wp2
      go_ret
      exact ⟨rfl, hb1.trans ((u3.alloc u3.size _).mono hb1.size)⟩
end Go.Proofs.YtkmakknjackdiaaDoor
