/-
  The projections of a spin: the program's iterator, collected by the library; the reference's list.
-/
import Derived.Test.YthhaaepebadnnaaProjKit
import Derived.RangeFuncBox
import Derived.RangeFuncLeaves
import Derived.Shelf.Abstract
import Derived.WalkKit
import Derived.OwnWalkIn
import Derived.TacticsInMore
import Derived.LoopNIn
import Derived.LoopIn
import Derived.Maps.AppendAt
namespace Go.Proofs.Ythhaaepebadnnaa
open Go.RowKit Go.Shelf
set_option linter.unusedSimpArgs false
set_option linter.unusedVariables false
attribute [local go_sem] Oper.semAt_some

/-- What has come when k rounds are over. -/
def prL (j k : Nat) : List Int := (List.range k).map fun (i : Nat) => -(j : Int) + 2 * (i : Int)
theorem prL_succ (j k : Nat) : prL j (k + 1) = prL j k ++ [-(j : Int) + 2 * (k : Int)] := by simp [prL, List.range_succ]
theorem prL_length (j k : Nat) : (prL j k).length = k := by simp [prL]
theorem prL_map (j k : Nat) : (prL j k).map (Value.int .i64) = apL (-(j : Int)) k := by simp [prL, apL]

set_option maxRecDepth 100000 in
set_option maxHeartbeats 1000000 in
theorem proj1_in (F : Fence) (n : Nat) (hf : F.fn 22) (hro : F.round = none) (hn : 1 ≤ n) (l Bn n₀ j : Nat) (hj : j ≤ 24) (hBn' : Bn < n₀) (J Jx : List Int → World → Prop)
    (hY : ∀ pre x W, J pre W → pre.length < j + 1 → YieldAt F (n - 1) Try.prog l #[.int .i64 x] W fun e W' =>
      (e = .returned (.bool true) ∧ J (pre ++ [x]) W' ∧ Below n₀ W W') ∨ (e = .returned (.bool false) ∧ Jx (pre ++ [x]) W'))
    (W : World) (hBn : W.cell? ⟨Bn, 0, none⟩ = some (.int .i64 j)) (h0 : J [] W) :
    CallsIn F n Try.prog 22 #[.func (.yield l) #[] #[], .pointer (some ⟨Bn, 0, none⟩)] W fun e W' => (∃ v, e = .returned v) ∧
      ((∃ ys, ys = prL j (j + 1) ∧ J ys W') ∨ (∃ pre, True ∧ Jx pre W')) := by
  refine callsIn_of_wp Try.func22 rfl hf ?_ hro
  simp only [Try.ntmps22, List.size_toArray, List.length_cons, List.length_nil, Nat.reduceAdd, Nat.reduceSub, Array.replicate_succ, Array.replicate_zero, List.push_toArray, List.append_toArray, List.nil_append, List.cons_append]
  gi_wp2
  gi_loopw [3] (fun m wr => ∃ k : Nat, k ≤ j + 1 ∧ m = .int .i64 (-(j : Int) + 2 * (k : Int)) ∧ J (prL j k) wr ∧ Below n₀ W wr)
    (fun m _ => ((j : Int) + 2 - intOf m).toNat)
  case atStart => exact ⟨0, Nat.zero_le _, by simp, h0, Below.refl _ _⟩
  case round =>
    obtain ⟨k, hk, rfl, hJs, hnx⟩ := hrel
    have hcx : wr.cell? ⟨Bn, 0, none⟩ = some (.int .i64 j) := (hnx.cell (p := ⟨Bn, 0, none⟩) hBn').trans hBn
    by_cases hlt : k ≤ j
    · obtain ⟨fn, tmps, assign, body, hy, hR⟩ := hY _ (-(j : Int) + 2 * (k : Int)) wr hJs (by rw [prL_length]; omega)
      gi_wp2
      refine hR.mono ?_
      rintro e W3 (⟨rfl, hJ3, hk3⟩ | ⟨rfl, hJx3⟩)
      · gi_wp2
        go_roundw
        case rel => exact ⟨k + 1, by omega, congrArg (Value.int .i64) (by omega), by rw [prL_succ]; exact hJ3, hnx.trans hk3⟩
        case measure => simp [intOf]; omega
      · gi_wp2
        refine bodyPost_ret (results_none rfl _ _ _) rfl ?_
        exact ⟨⟨_, rfl⟩, .inr ⟨_, trivial, hJx3⟩⟩
    · obtain rfl : k = j + 1 := by omega
      gi_wp2
      go_end0
      exact ⟨⟨_, rfl⟩, .inl ⟨_, rfl, hJs⟩⟩

theorem proj_stops (F : Fence) (n : Nat) (hf : F.fn 22) (hro : F.round = none) (hn : 1 ≤ n) (Bn n₀ j : Nat) (hj : j ≤ 24) (w : World) (hBn : Bn < n₀) (hn₀ : n₀ ≤ w.heap.size) (hc : w.cell? ⟨Bn, 0, none⟩ = some (.int .i64 j)) :
    SeqStopsK F n Try.prog 22 #[.pointer (some ⟨Bn, 0, none⟩)] (fun x : Int => #[Value.int .i64 x]) (Below n₀) (fun ys => ys = prL j (j + 1)) (fun _ => True) (j + 1) w := fun l J Jx W hW _ _ hY h0 =>
  proj1_in F n hf hro hn l Bn n₀ j hj hBn J Jx hY W ((hW.cell (p := ⟨Bn, 0, none⟩) (by show Bn < _; omega)).trans hc) h0

set_option maxRecDepth 100000 in
set_option maxHeartbeats 2000000 in
theorem append_in (F : Fence) (n : Nat) (h3 : F.fn 21) (h5 : F.fn 22) (hro : F.round = none) (hn : 3 ≤ n) (Bn j : Nat) (hj : j ≤ 24) (w : World) (hBn : Bn < w.heap.size) (hcb : w.cell? ⟨Bn, 0, none⟩ = some (.int .i64 j)) :
    CallsIn F n Try.prog 21 #[.slice none 0 0, .func (.func 22) #[] #[.pointer (some ⟨Bn, 0, none⟩)]] w fun e W' => ∃ v, e = .returned v ∧ W'.ownsRow w.heap.size 3 1 v (j + 1) (apL (-(j : Int)) (j + 1)) ∧ Below w.heap.size w W' := by
  have h1 : 1 ≤ n := by omega
  obtain ⟨i0, hi, hz0, hz1, hz2⟩ := info_parts Try.infoInt
  refine callsIn_of_wp_marks Try.func21 rfl h3 ?_ hro
  simp only [Try.ntmps21, List.size_toArray, List.length_cons, List.length_nil, Nat.reduceAdd, Nat.reduceSub, Array.replicate_succ, Array.replicate_zero, List.push_toArray, List.append_toArray, List.nil_append, List.cons_append]
  gi_wp2
  have bO := Boxed.new w 22 (.slice none 0 0)
  have hB0 : Below w.heap.size w (w.alloc (.cells #[.slice none 0 0] 22)) := (Below.refl _ w).alloc (Nat.le_refl _) _
  refine wpIn_rangeFunc_ownG hro h1 (gf := 22) (lb := #[.pointer (some ⟨Bn, 0, none⟩)]) rfl h5 (enters_of Try.func22 (by kernel_rfl) rfl)
    (proj_stops F (n - 1) h5 hro (by omega) Bn w.heap.size j hj _ hBn (by simp) ((hB0.cell (p := ⟨Bn, 0, none⟩) hBn).trans hcb)) belowK_t (belowK_b (by simp)) (Below.refl _ _) (fun _ => rfl)
    (fun pre W => (∃ v, Boxed W w.heap.size 22 v ∧ W.ownsRow w.heap.size 3 1 v pre.length (pre.map (Value.int .i64)) ∧ (v = .slice none 0 0 ↔ pre = [])) ∧ Below w.heap.size w W)
    (fun _ _ _ => False)
    (OwnFrom.and (Own.from (holdsRow_own w.heap.size w.heap.size 22 3 1 (fun pre => pre.length) (fun pre => pre.map (Value.int .i64)) (fun pre v => v = .slice none 0 0 ↔ pre = [])) _) (ownFrom_below (Nat.le_refl _) (by simp)))
    (fun _ _ _ _ _ hs _ _ => hs)
    ⟨⟨_, bO, World.ownsRow_nil _ _ _ _, by simp⟩, hB0⟩
    (fun x => { tmps := #[.slice none 0 0, .func (.func 22) #[] #[.pointer (some ⟨Bn, 0, none⟩)], .pointer (some ⟨w.heap.size, 0, none⟩), undef, .slice none 0 0, .int .i64 x, .func (.func 22) #[] #[.pointer (some ⟨Bn, 0, none⟩)], .int .i64 x, undef, undef, undef, undef, undef], defers := [] }) ?assign ?body ?done ?stop
  case assign =>
    intro l x W K hK
    gi_wp2
    exact hK
  case body =>
    rintro l pre x W ⟨⟨v, hv, hrow, hnil⟩, hB⟩ hlt
    have hc := hv.cell
    gi_wp2_with (gi_at_builtin; refine wpListIn_append_own _ rfl _ _ 22 rfl w.heap.size 3 i0 (.int .i64 0) 1 8 Try.underlying22 hi hz0 hz1 hz2 rfl (by decide) _ _ _ rfl (hrow.alloc _) ⟨W.heap.size, 0, none⟩ 1 1 [.int .i64 x] rfl rfl (cell_one_new _ _ _) (by simp [Value.oneCell']) (by unfold maxLen; omega) (by omega) (by have := hB.size; simp; omega) ?_; intro v' w1 hown' hgrow _; obtain ⟨g', cap', rfl⟩ := ownsRow_succ hown'; obtain ⟨hv1, hv2, hr2, hk2, hb2⟩ := hv.appended (by decide) hrow hB.size (Nat.le_refl _) hown' hgrow; have hc1 := hv1.cell; have hf1 := hv1.frozen)
    exact ⟨hk2.from _, hb2, ⟨_, hv2, by simpa using hr2, by simp⟩, hB.trans hb2⟩
  case done =>
    rintro D ys W hD rfl ⟨⟨v, hv, hrow, hnil⟩, hB⟩ hK
    have hc := hv.cell
    gi_wp2
    refine ⟨by simp, .inl ⟨_, _, rfl, run_takeDeferred hK, ?_⟩⟩
    rw [prL_length, prL_map] at hrow
    exact ⟨_, results_tmp rfl _ _ _, v, rfl, ownsRow_putObj hrow _ hK rfl, hB.trans (belowK_b (w := w) (Nat.le_refl _) W D _ _ (by simp at hD; omega) hK rfl rfl)⟩
  case stop =>
    rintro D c pre W _ _ h _
    exact h.elim

set_option maxHeartbeats 1000000 in
theorem collect_any (Bn j : Nat) (hj : j ≤ 24) (w : World) (hBn : Bn < w.heap.size) (hcb : w.cell? ⟨Bn, 0, none⟩ = some (.int .i64 j)) :
    Calls Try.prog 15 #[.func (.func 22) #[] #[.pointer (some ⟨Bn, 0, none⟩)]] w fun e W' => ∃ v, e = .returned v ∧ W'.ownsRow w.heap.size 3 1 v (j + 1) (apL (-(j : Int)) (j + 1)) ∧ Below w.heap.size w W' := by
  have HA := Lib.hid ((callsIn_wide (n := 3)).1 (append_in Fence.wide 3 trivial trivial rfl (by omega) Bn j hj w hBn hcb))
  clear hcb
  go_enter Try.func15, Try.ntmps15
  go_wp2_with fail
  refine HA.out.mono ?_
  rintro e w1 ⟨v, rfl, hown, hb⟩
  go_wp2
  go_ret
  exact ⟨v, rfl, hown, hb⟩
theorem proj_any (j : Int) (w : World) : Calls Try.prog 16 #[.int .i64 j] w fun e w' => e = .returned (.func (.func 22) #[] #[.pointer (some ⟨w.heap.size, 0, none⟩)]) ∧ w' = w.alloc (.cells #[.int .i64 j] 34) := by
  go_enter Try.func16, Try.ntmps16
  go_wp2
  go_ret
  exact ⟨rfl, rfl⟩
theorem row_base {W : World} {base base' : Nat} {e : TypeId} {size : Nat} {v : Value} {k : Nat} {xs : List Value} (h : W.ownsRow base e size v k xs) (hb : base' ≤ base) : W.ownsRow base' e size v k xs :=
  ⟨h.1, h.2.imp id (fun ⟨g, cap, cur, e1, hg, r⟩ => ⟨g, cap, cur, e1, Nat.le_trans hb hg, r⟩)⟩
theorem MadeAp.mk {w W' : World} {d : Int} {k : Nat} {v : Value} (h : W'.ownsRow w.heap.size 3 1 v k (apL d k)) (hb : Below w.heap.size w W') : MadeAp w d k (.returned v) W' := by
  obtain ⟨A, c, rfl, hS⟩ := seen_of_own h
  exact ⟨A, c, rfl, hS, hb⟩
theorem impl_proj_yes (j : Nat) (hj : j ≤ 24) (w : World) : Calls Try.prog 6 #[.int .i64 j] w (MadeAp w (-(j : Int)) (j + 1)) := by
  have fj : svB j = true := (svB_iff _).2 ⟨by omega, by omega⟩
  go_enter Try.func6, Try.ntmps6
  go_wp2_with fail
  refine (impl_valid _ _).mono ?_
  rintro e w' ⟨rfl, rfl⟩
  go_wp2_with fail
  refine (proj_any _ _).mono ?_
  rintro e w1 ⟨rfl, rfl⟩
  go_wp2_with fail
  refine (collect_any w.heap.size j hj _ (by simp) (by go_simp)).mono ?_
  rintro e w2 ⟨v, rfl, hown, hb⟩
  go_wp2
  go_ret
  exact MadeAp.mk (row_base hown (by simp)) (((Below.refl _ w).alloc (Nat.le_refl _) _).trans (hb.mono (by simp)))

theorem impl_proj_no (j : Int) (h : ¬ (0 ≤ j ∧ j ≤ 24)) (w : World) : Calls Try.prog 6 #[.int .i64 j] w (MadeAp w 0 0) := by
  have fj : svB j = false := by rw [svB_not]; omega
  clear h
  go_enter Try.func6, Try.ntmps6
  go_wp2_with (go_at_call 14; refine (impl_valid _ _).mono ?_; rintro e w' ⟨rfl, rfl⟩)
  go_ret
  exact ⟨_, _, rfl, fun h => absurd h (by omega), Below.refl _ _⟩
theorem spec_proj_no (j : Int) (h : ¬ (0 ≤ j ∧ j ≤ 24)) (w : World) : Calls Try.prog 5 #[.int .i64 j] w (MadeAp w 0 0) := by
  have fj : svB j = false := by rw [svB_not]; omega
  clear h
  go_enter Try.func5, Try.ntmps5
  go_wp2_with (go_at_call 13; refine (spec_valid _ _).mono ?_; rintro e w' ⟨rfl, rfl⟩)
  go_ret
  exact ⟨_, _, rfl, fun h => absurd h (by omega), by first | exact Below.refl _ _ | exact (Below.refl _ _).alloc (Nat.le_refl _) _⟩
set_option maxHeartbeats 400000 in
theorem spec_proj_yes (j : Nat) (hj : j ≤ 24) (w : World) : Calls Try.prog 5 #[.int .i64 j] w (MadeAp w (-(j : Int)) (j + 1)) := by
  obtain ⟨i0, hi, hz0, hz1, hz2⟩ := info_parts Try.infoInt
  have fj : svB j = true := (svB_iff _).2 ⟨by omega, by omega⟩
  go_enter Try.func5, Try.ntmps5
  go_wp2_with (go_at_call 13; refine (spec_valid _ _).mono ?_; rintro e w' ⟨rfl, rfl⟩)
  go_loopw [3, 4] (fun v i wr => ∃ k : Nat, k ≤ j + 1 ∧ i = .int .i64 (-(j : Int) + 2 * (k : Int)) ∧ wr.ownsRow w.heap.size 3 1 v k (apL (-(j : Int)) k) ∧ Below w.heap.size w wr)
    (fun _ i _ => ((j : Int) + 2 - intOf i).toNat)
  case atStart => exact ⟨0, by omega, by simp, World.ownsRow_made _ _ _ (Nat.le_refl _) (Nat.zero_le _) rfl, (Below.refl _ _).alloc (Nat.le_refl _) _⟩
  case round =>
    obtain ⟨k, hk, rfl, hown, hbl⟩ := hrel
    by_cases hlt : k ≤ j
    · go_wp2_with (at_builtin; refine wpList_append_own _ rfl _ _ 22 rfl w.heap.size 3 i0 (.int .i64 0) 1 8 Try.underlying22 hi hz0 hz1 hz2 rfl (by decide) _ _ _ rfl (hown.alloc _) ⟨_, 0, none⟩ 1 1 [.int .i64 (-(j : Int) + 2 * (k : Int))] rfl rfl ?c1 ?c2 ?c3 ?c4 ?c5 ?_)
      case c1 => exact one_new _ _ _
      case c2 => intro u hu; simp at hu; subst hu; rfl
      case c3 => unfold maxLen; omega
      case c4 => omega
      case c5 => have := hbl.size; simp; omega
      intro v' w1 hown' hgrow _
      have hb1 : Below w.heap.size w w1 := (hbl.alloc hbl.size _).grown hgrow (by have := hbl.size; simp; omega) (fun i hi => (hown.lt i hi).1)
      have hown1 : w1.ownsRow w.heap.size 3 1 v' (k + 1) (apL (-(j : Int)) (k + 1)) := by rw [apL_succ]; exact hown'
      clear hown' hgrow hown hbl
      go_wp2
      go_roundw
      case rel => exact ⟨k + 1, by omega, congrArg (Value.int .i64) (by omega), hown1, hb1⟩
      case measure => simp [intOf]; omega
    · obtain rfl : k = j + 1 := by omega
      go_wp2
      go_ret
      exact MadeAp.mk hown hbl
/-- The list that belongs to j. -/
theorem proj_ex (j : Int) : ∃ (d : Int) (n : Nat), n ≤ 25 ∧ (∀ w, Calls Try.prog 6 #[.int .i64 j] w (MadeAp w d n)) ∧ (∀ w, Calls Try.prog 5 #[.int .i64 j] w (MadeAp w d n)) ∧ (n = 0 ∨ ∃ k : Nat, j = (k : Int) ∧ k ≤ 24 ∧ d = -(k : Int) ∧ n = k + 1) := by
  by_cases h : 0 ≤ j ∧ j ≤ 24
  · obtain ⟨k, rfl⟩ := Int.eq_ofNat_of_zero_le h.1
    exact ⟨_, _, by omega, impl_proj_yes k (by omega), spec_proj_yes k (by omega), .inr ⟨k, rfl, by omega, rfl, rfl⟩⟩
  · exact ⟨_, _, by omega, impl_proj_no j h, spec_proj_no j h, .inl rfl⟩

theorem walk_FnExactSpinProjections (j : Int) (w : World) (_h0 : (Lit.int .i64 j).wf = true) : Calls Try.prog 3 #[.int .i64 j] w (Holds w) := by
  clear _h0
  obtain ⟨d, n, n1, hI, hS, _⟩ := proj_ex j
  have HI := Lib.hid hI
  have HS := Lib.hid hS
  clear hI hS
  go_enter Try.func3, Try.ntmps3
  go_wp2_with fail
  refine (HS.out _).mono ?_
  rintro e w1 ⟨A0, c0, rfl, S0, hb1⟩
  go_wp2_with fail
  refine (HI.out _).mono ?_
  rintro e w2 ⟨A1, c1, rfl, S1, hb2⟩
  go_wp2_with fail
  refine (eq_ints n c1 c0 A1 A0 _ _ _ _ S1 (S0.below hb2) (by omega)).mono ?_
  rintro e w3 ⟨rfl, m1, rfl⟩
  go_wp2_with fail
  refine (mark_ints _ n c1 A1 _ _ (S1.drewN m1) (by omega)).mono ?_
  rintro e w4 ⟨rfl, S2, hb4⟩
  have hb5 : Below w1.heap.size w1 w4 := (below_drewN hb2 m1).trans hb4
  go_wp2_with fail
  refine (held_ints _ n c1 A1 _ S2 (by omega)).mono ?_
  rintro e w' ⟨rfl, rfl⟩
  have hq : ((n : Int) + 1 != (n : Int) + 1) = false := by simp
  go_wp2_with fail
  refine (HI.out _).mono ?_
  rintro e w6 ⟨A3, c3, rfl, S3, hb6⟩
  have hb7 : Below w1.heap.size w1 w6 := hb5.trans (hb6.mono hb5.size)
  go_wp2_with fail
  refine (eq_ints n c3 c0 A3 A0 _ _ _ _ S3 (S0.below hb7) (by omega)).mono ?_
  rintro e w7 ⟨rfl, m2, rfl⟩
  go_wp2_with fail
  refine (held_ints _ n c1 A1 _ ((S2.below hb6).drewN m2) (by omega)).mono ?_
  rintro e w' ⟨rfl, rfl⟩
  go_wp2
  go_ret
  exact ⟨rfl, below_drewN (hb1.trans (hb7.mono hb1.size)) m2⟩

theorem draw_proj (n0 c0 : Nat) (A : Option Addr) (w : World) (h : Code w.heap.size w A n0 c0) : Calls Try.prog 10 #[.slice A n0 c0] w fun e w' => ∃ j : Int, e = .returned (.int .i64 j) ∧ Below w.heap.size w w' := by
  have HO := Lib.hid (open_any w.heap.size n0 c0 A w h (Nat.le_refl _))
  clear h
  go_enter Try.func10, Try.ntmps10
  go_wp2_with fail
  refine HO.out.mono ?_
  rintro e w1 ⟨g, rfl, hR, hb⟩
  clear HO
  go_wp2_with fail
  refine (pick_any _ g _ _ _ hR (by omega) (by omega) (by omega) (by omega)).mono ?_
  rintro e w2 ⟨v, rfl, v0, v1, v2, hR2, hb2⟩
  have v3 := v1 (by omega)
  clear v1 v2
  go_wp2
  go_ret
  exact ⟨_, rfl, hb.trans hb2⟩

theorem quiet_left {P : Program} {f : FuncId} {args : Array Value} {w : World} {n : Nat} {v : Value}
    (h : Calls P f args (w.drewN n) fun e w' => e = .returned v ∧ w.drewN n = w') : Calls P f args (w.drewN n) fun e w'' => e = .returned v ∧ ∃ m, w'' = w.drewN m :=
  h.mono fun _ _ ⟨he, hm⟩ => ⟨he, n, hm.symm⟩
theorem quiet_left2 {P : Program} {f : FuncId} {args : Array Value} {w : World} {m n : Nat} {v : Value}
    (h : Calls P f args (w.drewN (m + n)) fun e w' => e = .returned v ∧ w.drewN (m + n) = w') : Calls P f args (w.drewN (m + n)) fun e w'' => e = .returned v ∧ ∃ x, w'' = w.drewN (m + x) :=
  h.mono fun _ _ ⟨he, hm⟩ => ⟨he, n, hm.symm⟩
def sm (j k : Nat) : Int := (k : Int) * (k : Int) - (k : Int) - (j : Int) * (k : Int)
theorem sm_step (j k : Nat) : sm j k + (-(j : Int) + 2 * (k : Int)) = sm j (k + 1) := by unfold sm; simp only [Int.natCast_add, Int.cast_ofNat_Int]; grind
theorem sm_end (j : Nat) : sm j (j + 1) = 0 := by unfold sm; simp only [Int.natCast_add, Int.cast_ofNat_Int]; grind
theorem sm_bd {j k : Nat} (hj : j ≤ 24) (hk : k ≤ 25) : -1000 ≤ sm j k ∧ sm j k ≤ 1000 := by
  unfold sm
  have h1 : k * k ≤ 25 * 25 := Nat.mul_le_mul hk hk
  have h2 : j * k ≤ 24 * 25 := Nat.mul_le_mul hj hk
  have e1 : ((k * k : Nat) : Int) = (k : Int) * (k : Int) := by simp
  have e2 : ((j * k : Nat) : Int) = (j : Int) * (k : Int) := by simp
  omega

set_option maxHeartbeats 1000000 in
theorem walk_FnSpinProjections (A : Option Addr) (n0 c0 : Nat) (w : World) (h : Code w.heap.size w A n0 c0) : Calls Try.prog 4 #[.slice A n0 c0] w (Holds w) := by
  have HO := Lib.hid (draw_proj n0 c0 A w h)
  clear h
  go_enter Try.func4, Try.ntmps4
  go_wp2_with fail
  · go_ret
    exact ⟨rfl, Below.refl _ _⟩
  · refine HO.out.mono ?_
    rintro e w1 ⟨j, rfl, hb1⟩
    clear HO
    obtain ⟨d, n, n1, hI, hS, hn⟩ := proj_ex j
    have HI := Lib.hid hI
    have HS := Lib.hid hS
    have HN := Lib.hid hn
    clear hI hS hn
    go_wp2_with fail
    refine (HI.out _).mono ?_
    rintro e w2 ⟨A1, c1, rfl, S1, hb2⟩
    go_wp2_with fail
    refine (HS.out _).mono ?_
    rintro e w3 ⟨A2, c2, rfl, S2, hb3⟩
    have S3 := S1.below hb3
    have hbl : Below w.heap.size w w3 := (hb1.trans (hb2.mono hb1.size)).trans (hb3.mono (Nat.le_trans hb1.size hb2.size))
    clear S1 hb1 hb2 hb3 HI HS
    go_wp2_with fail
    refine (same_ints n c1 c2 A1 A2 _ _ _ _ S3 S2 (by omega)).mono ?_
    rintro e w4 ⟨rfl, m1, rfl⟩
    rcases HN.out with rfl | ⟨J, rfl, hJ, rfl, rfl⟩
    · go_wp2_with fail
      refine (same_ints 0 c1 c2 A1 A2 _ _ _ _ (S3.drewN _) (S2.drewN _) (by omega)).mono ?_
      rintro e w5 ⟨rfl, m2, rfl⟩
      go_wp2
      go_ret
      exact ⟨rfl, below_drewN hbl _⟩
    · have hz : (((J + 1 : Nat) : Int) == 0) = false := by simp; omega
      have hz' : ((J : Int) + 1 == 0) = false := by simp; omega
      obtain ⟨g, rfl, hg1, hg2, hcell⟩ := S3 (by omega)
      have HCE := Lib.hid hcell
      clear hcell HN S2 S3
      go_wp2_with fail
      go_loopw [6, 7] (fun s i wr => ∃ k m : Nat, k ≤ J + 1 ∧ i = .int .i64 (k : Int) ∧ s = .int .i64 (sm J k) ∧ wr = w3.drewN m) (fun _ i _ => J + 1 - (intOf i).toNat)
      case atStart => exact ⟨0, m1, by omega, rfl, by simp [sm], rfl⟩
      case round =>
        obtain ⟨k, m, hk, rfl, rfl, rfl⟩ := hrel
        by_cases hlt : k < J + 1
        · have q1 := (HCE.out k hlt).1
          have i1 : (k : Int) < ((J + 1 : Nat) : Int) := by omega
          have i2 : (k : Int) < (J : Int) + 1 := by omega
          obtain ⟨b1, b2⟩ := sm_bd hJ (show k ≤ 25 by omega)
          have HSt := Lib.hid (sm_step J k)
          have hs : shB (J : Int) (-(J : Int) + 2 * (k : Int)) = true := (shB_iff _ _).2 ⟨⟨by omega, by omega⟩, by omega, by omega, by omega⟩
          have h0 := impl_has (J : Int) (-(J : Int) + 2 * (k : Int))
          rw [hs] at h0
          clear hs
          rcases Nat.eq_zero_or_pos k with hk0 | hk0
          · subst hk0
            obtain ⟨x, hx, x1, x2⟩ : ∃ x : Int, -(J : Int) + 2 * ((0 : Nat) : Int) = x ∧ -24 ≤ x ∧ x ≤ 24 := ⟨_, rfl, by omega, by omega⟩
            rw [hx] at q1 h0 HSt
            have HH := Lib.hid h0
            clear hx h0
            go_wp2_with fail
            go_quiet ((go_at_call 12; exact quiet_left2 (HH.out _)))
            go_wp2
            go_roundw
            case rel => exact ⟨1, _, by omega, by go_num, congrArg (Value.int .i64) HSt.out, rfl⟩
            case measure => first | (simp [intOf]; done) | (simp [intOf]; omega)
          · obtain ⟨k', rfl⟩ : ∃ k' : Nat, k = k' + 1 := ⟨k - 1, by omega⟩
            have q0 := (HCE.out k' (by omega)).1
            obtain ⟨x, hx, x1, x2⟩ : ∃ x : Int, -(J : Int) + 2 * (k' : Int) = x ∧ -24 ≤ x ∧ x ≤ 24 := ⟨_, rfl, by omega, by omega⟩
            have hx' : -(J : Int) + 2 * ((k' + 1 : Nat) : Int) = x + 2 := by omega
            rw [hx'] at q1 h0 HSt
            rw [hx] at q0
            have HH := Lib.hid h0
            have i3 : (k' : Int) < ((J + 1 : Nat) : Int) := by omega
            have i4 : (k' : Int) < (J : Int) + 1 := by omega
            have i5 : (0 : Int) ≤ (k' : Int) := by omega
            have i6 : (0 : Int) ≤ (k' : Int) + 1 := by omega
            have i7 : (k' : Int) + 1 < (J : Int) + 1 := by omega
            have i8 : ((k' : Int) + 1).toNat = k' + 1 := by omega
            have i9 : decide ((0 : Int) < (k' : Int) + 1) = true := decide_eq_true (by omega)
            have x3 : x + 2 ≤ 26 := by omega
            have w1 : IntKind.i64.wrap ((k' : Int) + 1 - 1) = (k' : Int) := by rw [show (k' : Int) + 1 - 1 = k' from by omega]; exact IntWalk.i64_in _ (by omega)
            have w2 : IntKind.i64.wrap (x + 2) = x + 2 := IntWalk.i64_in _ (by omega)
            have hne : (x + 2 != x + 2) = false := by simp
            clear hx hx' h0 hk0
            go_wp2_with fail
            go_quiet ((go_at_call 12; exact quiet_left2 (HH.out _)))
            go_wp2
            go_roundw
            case rel => exact ⟨k' + 2, _, by omega, by go_num, congrArg (Value.int .i64) HSt.out, rfl⟩
            case measure => simp [intOf]; omega
        · obtain rfl : k = J + 1 := by omega
          have he := sm_end J
          go_wp2
          go_ret
          exact ⟨rfl, below_drewN hbl _⟩
end Go.Proofs.Ythhaaepebadnnaa
