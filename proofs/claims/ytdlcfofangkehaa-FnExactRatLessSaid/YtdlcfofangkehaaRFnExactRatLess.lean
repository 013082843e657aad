/-
  'FnExactRatLess' holds: for every argument it returns true and leaves the arguments as they read.
  No condition.
-/
import Derived.Test.YtdlcfofangkehaaExLess
import Derived.WalkKit
import Derived.ProofKit
import Derived.OpenShut
import Derived.ShutString
import Derived.ChangeOld
import Derived.Below
import Derived.Lib.SmallJoins
namespace Go.Proofs.Ytdlcfofangkehaa.fnExactRatLess
open Go.ChangeShapes Go.WideShapes Go.ChangeAt Go.RowKit Go.Joins
open Go.ChangeMaps (open_string shut_string)
set_option linter.unusedVariables false
set_option linter.unusedSimpArgs false

theorem own : ownKnob Try.prog.godebug = none := by kernel_rfl
theorem laidOut : laidOutB Try.prog = true := by kernel_rfl

set_option maxRecDepth 100000 in
theorem lifted (os : Os) (started : os.Started) (H : Type) (enc : TypeId × Value → H) :
    ReturnsInHanded {} Try.checked os 6 .any (Rows.fnExactRatLessSpec.pre6 enc Try.prog Try.f6 Rows.fnExactRatLessRow.domain false) (Rows.fnExactRatLessSpec.post enc Try.prog Try.f6 false true false false) := by
  refine returnsInHanded_of_change (C := Try.checked) own started (by kernel_rfl) Try.func6
    (ChangeSpec.witness6 (enc := enc) (C := Try.checked) false ⟨#[], #[.agg #[.int .i64 0, .int .i64 0], .agg #[.int .i64 0, .int .i64 0]], []⟩ 8 (by kernel_rfl) (by kernel_rfl) (by kernel_rfl) (by kernel_rfl)) ?_
  intro W base args ds gs before hval0 hW hcnd _
  have hval : ∀ (j : Nat) t v, Try.f6.params[j]? = some t → args[j]? = some v → Value.okWide Try.prog W .any base t v := hval0
  have hW' := hW
  obtain ⟨p, q, hA0, hV, rfl, hfz, hnd⟩ := hW
  have hA : DataW.TrodAll enc Try.prog W 0 (fun _ => true) true Try.f6.params.toList args.toList ds p := hA0
  rw [Try.params6] at hA hval
  obtain ⟨v0, vs0, d0, ds0, p0, q0, hargs, rfl, rfl, h0, r0⟩ := trodAll_cons hA
  obtain ⟨v1, vs1, d1, ds1, p1, q1, rfl, rfl, rfl, h1, r1⟩ := trodAll_cons r0
  obtain ⟨rfl, rfl, rfl⟩ := trodAll_nil r1
  obtain rfl : args = #[v0, v1] := by cases args; simp_all
  obtain ⟨rfl, rfl⟩ := trodVars_none hV
  obtain ⟨c00, c01, y00, y01, m0, rfl, rfl, rfl, hy00, hy01⟩ := open_agg2 Try.underlying32 (by kernel_rfl) (by kernel_rfl) (hval 0 32 v0 rfl rfl) h0
  obtain ⟨n0, en0, rfl, wn0⟩ := DataW.trod_int Try.underlying3 hy00
  obtain ⟨e0, ee0, rfl, we0⟩ := DataW.trod_int Try.underlying3 hy01
  simp only [List.cons.injEq, and_true] at en0 ee0
  subst en0 ee0
  have sr0 : ∀ (W' : World) (sp : Nat → Bool), DataW.Trod enc Try.prog W' 0 sp true 32 (.agg #[.int .i64 n0, .int .i64 e0]) (.agg [.lit (.int .i64 n0), .lit (.int .i64 e0)]) [] := fun W' sp =>
    shut_agg2 (y0 := (.lit (.int .i64 n0), [])) (y1 := (.lit (.int .i64 e0), [])) Try.underlying32 (by kernel_rfl) (by kernel_rfl) ⟨1, by simp [DataW.trod, Try.underlying3, wn0]⟩ ⟨1, by simp [DataW.trod, Try.underlying3, we0]⟩
  obtain ⟨c10, c11, y10, y11, m1, rfl, rfl, rfl, hy10, hy11⟩ := open_agg2 Try.underlying32 (by kernel_rfl) (by kernel_rfl) (hval 1 32 v1 rfl rfl) h1
  obtain ⟨n1, en1, rfl, wn1⟩ := DataW.trod_int Try.underlying3 hy10
  obtain ⟨e1, ee1, rfl, we1⟩ := DataW.trod_int Try.underlying3 hy11
  simp only [List.cons.injEq, and_true] at en1 ee1
  subst en1 ee1
  have sr1 : ∀ (W' : World) (sp : Nat → Bool), DataW.Trod enc Try.prog W' 0 sp true 32 (.agg #[.int .i64 n1, .int .i64 e1]) (.agg [.lit (.int .i64 n1), .lit (.int .i64 e1)]) [] := fun W' sp =>
    shut_agg2 (y0 := (.lit (.int .i64 n1), [])) (y1 := (.lit (.int .i64 e1), [])) Try.underlying32 (by kernel_rfl) (by kernel_rfl) ⟨1, by simp [DataW.trod, Try.underlying3, wn1]⟩ ⟨1, by simp [DataW.trod, Try.underlying3, we1]⟩
  clear hA0 hval0
  try simp only [List.append_nil] at hW'
  refine (walk_FnExactRatLess n0 e0 n1 e1 W wn0 we0 wn1 we1).mono fun e W' ⟨he, bel⟩ => ?_
  subst he
  exact ⟨_, rfl, _, _, _, [], _, [], hW', trodAll_mk1 (shut_bool Try.underlying4 _), (trodAll_cons_mk (sr0 _ _) (trodAll_cons_mk (sr1 _ _) trodAll_mk0)), rfl, bel.frame _, fun h => by cases h⟩

theorem over : Rows.fnExactRatLessRow.holds Try.pinned (OpenSpec.ofChange Rows.fnExactRatLessSpec) :=
  OpenClaim.holds_of_wide 6 Try.f6 rfl rfl rfl rfl rfl rfl rfl ⟨rfl, rfl, rfl, rfl, rfl⟩ rfl rfl rfl rfl rfl (by kernel_rfl) Try.func6 (by kernel_rfl)
    (of_decide_eq_true (by kernel_rfl)) (by unfold Func.isWrapper; first | (rw [if_pos (by decide +kernel)]; kernel_rfl) | (rw [if_neg (by decide +kernel)]; exact ⟨rfl, rfl⟩))
    (fun os started H enc _ => lifted os started H enc)

/-- The statement. -/
theorem proved : Rows.FnExactRatLessSaid := over
end Go.Proofs.Ytdlcfofangkehaa.fnExactRatLess
