/-
  A root by value: its datum opened and shut.
-/
import Derived.Test.YtecoekenkjgijaaRows
import Derived.WalkKit
import Derived.ProofKit
import Derived.OpenShut
import Derived.ChangeOld
import Derived.Lib.SmallJoins
namespace Go.Proofs.Ytecoekenkjgijaa
open Go.ChangeShapes Go.WideShapes Go.ChangeAt Go.RowKit Go.Joins
set_option linter.unusedVariables false
set_option linter.unusedSimpArgs false
variable {H : Type} {enc : TypeId × Value → H} {w : World} {base : Nat} {spare : Nat → Bool} {held : Bool}
theorem cells1 : Try.prog.cellsOf 3 = 1 := by kernel_rfl
theorem cells2 : Try.prog.cellsOf 23 = 2 := by kernel_rfl
theorem cells3 : Try.prog.cellsOf 25 = 3 := by kernel_rfl
theorem open_root {r : Reach} {b0 : Nat} {v : Value} {d : DataW H} {p : List MemPlace} (hv : Value.okWide Try.prog w r b0 25 v) (h : DataW.Trod enc Try.prog w base spare held 25 v d p) :
    ∃ s n e : Int, v = .agg #[.int .i64 s, .int .i64 n, .int .i64 e] ∧ d = .agg [.lit (.int .i64 s), .agg [.lit (.int .i64 n), .lit (.int .i64 e)]] ∧ p = [] ∧ (Lit.int .i64 s).wf = true ∧ (Lit.int .i64 n).wf = true ∧ (Lit.int .i64 e).wf = true := by
  obtain ⟨cs, rfl, hsz⟩ := okWide_struct Try.underlying25 hv
  obtain ⟨c0, c1, c2, rfl⟩ := array3 (hsz.trans cells3)
  obtain ⟨fuel, hf⟩ := h
  obtain ⟨y0, y1, n, hx, _, h0, h1⟩ := trod_struct2 Try.underlying25 hf
  simp only [Prod.mk.injEq] at hx
  obtain ⟨rfl, rfl⟩ := hx
  have h0' : DataW.trod enc Try.prog w base spare held n 3 [c0] = some y0 := by simpa [Value.cells, cells1] using h0
  have h1' : DataW.trod enc Try.prog w base spare held n 23 [c1, c2] = some y1 := by simpa [Value.cells, cells2] using h1
  obtain ⟨z0, z1, m, rfl, _, g0, g1⟩ := trod_struct2 Try.underlying23 h1'
  have g0' : DataW.trod enc Try.prog w base spare held m 3 [c1] = some z0 := by simpa [cells1] using g0
  have g1' : DataW.trod enc Try.prog w base spare held m 3 [c2] = some z1 := by simpa [cells1] using g1
  obtain ⟨a, ea, rfl, wa⟩ := DataW.trod_int Try.underlying3 h0'
  obtain ⟨b, eb, rfl, wb⟩ := DataW.trod_int Try.underlying3 g0'
  obtain ⟨c, ec, rfl, wc⟩ := DataW.trod_int Try.underlying3 g1'
  simp only [List.cons.injEq, and_true] at ea eb ec
  subst ea eb ec
  exact ⟨a, b, c, rfl, rfl, rfl, wa, wb, wc⟩
theorem shut_root {s n e : Int} (hs : (Lit.int .i64 s).wf = true) (hn : (Lit.int .i64 n).wf = true) (he : (Lit.int .i64 e).wf = true) :
    DataW.Trod enc Try.prog w base spare held 25 (.agg #[.int .i64 s, .int .i64 n, .int .i64 e]) (.agg [.lit (.int .i64 s), .agg [.lit (.int .i64 n), .lit (.int .i64 e)]]) [] := by
  have i1 : ∀ x : Int, (Lit.int .i64 x).wf = true → DataW.trod enc Try.prog w base spare held 1 3 [.int .i64 x] = some (.lit (.int .i64 x), []) := fun x hx => by simp [DataW.trod, Try.underlying3, hx]
  have inner := trod_struct2_mk (enc := enc) (w := w) (base := base) (spare := spare) (held := held) (n := 1) (cs := [.int .i64 n, .int .i64 e]) (y0 := (.lit (.int .i64 n), [])) (y1 := (.lit (.int .i64 e), [])) Try.underlying23 (by simp [cells2])
    (by simpa [cells1] using i1 n hn) (by simpa [cells1] using i1 e he)
  have outer := trod_struct2_mk (enc := enc) (w := w) (base := base) (spare := spare) (held := held) (n := 2) (cs := [.int .i64 s, .int .i64 n, .int .i64 e]) (y0 := (.lit (.int .i64 s), [])) (y1 := (.agg [.lit (.int .i64 n), .lit (.int .i64 e)], [])) Try.underlying25 (by simp [cells3])
    (by simpa [cells1] using DataW.trod_le (by omega) (i1 s hs)) (by simpa [cells2] using inner)
  exact ⟨_, by simpa [Value.cells] using outer⟩
end Go.Proofs.Ytecoekenkjgijaa
