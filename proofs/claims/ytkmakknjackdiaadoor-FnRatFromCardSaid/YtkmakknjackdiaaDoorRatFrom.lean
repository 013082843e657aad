/-
  'RatFrom': the program's reads just the texts of rationals.
-/
import Derived.Test.YtkmakknjackdiaaDoorPlainText
import Derived.Test.YtkmakknjackdiaaDoorLaidB
import Derived.Lib.CutLaws
import Derived.Lib.AtoiErrMem
namespace Go.Proofs.YtkmakknjackdiaaDoor
open Go.RowKit Go.Sort
set_option linter.unusedSimpArgs false
set_option linter.unusedVariables false
attribute [local go_sem ↓] Go.wp_at_zero Go.wp_at_succ

def sl : ByteArray := ⟨#[47]⟩
set_option maxHeartbeats 1000000 in
set_option maxRecDepth 100000 in
theorem cut_in (s : ByteArray) (hlim : s.size ≤ 281474976710656) (w : World) : Calls Tryd.prog 37 #[.string s, .string ⟨#[47]⟩] w fun e w' =>
    e = .returned (.tuple #[.string ⟨(Lib.cut s.data.toList [47]).1.toArray⟩, .string ⟨(Lib.cut s.data.toList [47]).2.1.toArray⟩, .bool (Lib.cut s.data.toList [47]).2.2]) ∧ ∃ n, w' = w.drewN n := by
  have HI := Lib.hid (Tryd.stringslite_Index_one s 47)
  rcases Lib.indexB_cases s ⟨#[47]⟩ with hix | ⟨i, hix, hroom⟩
  · obtain ⟨e1, e2, e3⟩ := Lib.cutB_miss s ⟨#[47]⟩ hix
    have hx : Lib.indexByte s.data.toList 47 = -1 := by rw [← Lib.index_one]; exact hix
    rw [show ([47] : List UInt8) = (⟨#[47]⟩ : ByteArray).data.toList from rfl, e1, e2, e3]
    rw [hx] at HI
    clear hix e1 e2 e3 hx
    go_enter Tryd.func37, Tryd.ntmps37
    go_wp2_with (go_at_call 46; refine (HI.out _).mono ?_; rintro e w' ⟨rfl, rfl⟩)
    go_ret3
    exact ⟨rfl, 0, rfl⟩
  · obtain ⟨e1, e2, e3⟩ := Lib.cutB_hit s ⟨#[47]⟩ i hix
    have hx : Lib.indexByte s.data.toList 47 = i := by rw [← Lib.index_one]; exact hix
    rw [show ([47] : List UInt8) = (⟨#[47]⟩ : ByteArray).data.toList from rfl, e1, e2, e3]
    rw [hx] at HI
    have c0 : (⟨#[47]⟩ : ByteArray).size = 1 := rfl
    have c1 : (0 : Int) ≤ ↑i := by omega
    have c2 : (↑i : Int) ≤ ↑s.size := by omega
    have c3 : (0 : Int) ≤ ↑i + 1 := by omega
    have c4 : (↑i + 1 : Int) ≤ ↑s.size := by omega
    have c5 : IntKind.i64.wrap ((i : Int) + 1) = (i : Int) + 1 := IntWalk.i64_in _ (by omega)
    have c6 : ((i : Int) + 1).toNat = i + 1 := by omega
    have mixed : Tryd.prog.follows Departure.mixedOrders = true := by kernel_rfl
    clear hix e1 e2 e3 hx
    go_enter Tryd.func37, Tryd.ntmps37
    go_wp2_with (go_at_call 46; refine (HI.out _).mono ?_; rintro e w' ⟨rfl, rfl⟩)
    go_region_o
    go_wp2
    go_ret3
    exact ⟨rfl, 1, rfl⟩
theorem cut_out (s : ByteArray) (hlim : s.size ≤ 281474976710656) (w : World) : Calls Tryd.prog 23 #[.string s, .string ⟨#[47]⟩] w fun e w' =>
    e = .returned (.tuple #[.string ⟨(Lib.cut s.data.toList [47]).1.toArray⟩, .string ⟨(Lib.cut s.data.toList [47]).2.1.toArray⟩, .bool (Lib.cut s.data.toList [47]).2.2]) ∧ Below w.heap.size w w' := by
  have HI := Lib.hid (cut_in s hlim)
  generalize Lib.cut s.data.toList [47] = c at *
  obtain ⟨x, y, z⟩ := c
  go_enter Tryd.func23, Tryd.ntmps23
  go_wp2_with fail
  refine (HI.out _).mono ?_
  rintro e w' ⟨rfl, n, rfl⟩
  go_wp2
  go_ret3
  exact ⟨rfl, below_drewN (Below.refl _ _) _⟩

/-- The library's two errors stand there. -/
def EV (w : World) : Prop := (∃ t p, w.cell? ⟨1, 0, none⟩ = some (.iface t p)) ∧ (∃ t p, w.cell? ⟨2, 0, none⟩ = some (.iface t p))
theorem ev_below {w w' : World} (h : EV w) (hb : Below w.heap.size w w') : EV w' := by
  obtain ⟨⟨t, p, h1⟩, u, q, h2⟩ := h
  exact ⟨⟨t, p, keep0 hb h1⟩, u, q, keep0 hb h2⟩
theorem atoi_any (s : ByteArray) (hlim : s.size ≤ 281474976710656) (w : World) (hv : EV w) : Calls Tryd.prog 24 #[.string s] w fun e w' => Below w.heap.size w w' ∧
    ((∃ v, Lib.atoiAll s.data.toList = .ok v ∧ e = .returned (.tuple #[.int .i64 v, .nilIface])) ∨ ((∀ v, Lib.atoiAll s.data.toList ≠ .ok v) ∧ ∃ x t p, e = .returned (.tuple #[.int .i64 x, .iface t p]))) := by
  obtain ⟨⟨t, p, h1⟩, u, q, h2⟩ := hv
  cases h : Lib.atoiAll s.data.toList
  · rename_i v
    refine (Any.strconv_Atoi_ok Tryd.laysC172 s (by omega) v h w).mono ?_
    rintro e w' ⟨rfl, hw⟩
    refine ⟨?_, .inl ⟨v, rfl, rfl⟩⟩
    rcases hw with rfl | ⟨t, rfl⟩
    · exact Below.refl _ _
    · exact Lib.bytesWorld_below _ _ _
  · refine (Any.strconv_Atoi_syntax Tryd.laysC172 s hlim h _ w h1 (.inr ⟨_, _, rfl⟩)).mono ?_
    rintro e w' ⟨N, rfl, -, -, hb⟩
    exact ⟨hb, .inr ⟨fun v => (by intro hh; cases hh), _, _, _, rfl⟩⟩
  · refine (Any.strconv_Atoi_range Tryd.laysC172 s hlim h _ w h2 (.inr ⟨_, _, rfl⟩)).mono ?_
    rintro e w' ⟨N, rfl, -, -, hb⟩
    exact ⟨hb, .inr ⟨fun v => (by intro hh; cases hh), _, _, _, rfl⟩⟩
theorem tw0 {w1 : World} {b : Nat} {u : Value} (x : Value) (c0 : w1.cell? ⟨b, 0, none⟩ = some u) : (w1.setCell ⟨b, 0, none⟩ x).cell? ⟨b, 0, none⟩ = some x := World.cell?_setCell_same _ _ _ c0
theorem tw1 {w1 : World} {b : Nat} {u : Value} (x y : Value) (c1 : w1.cell? ⟨b, 1, none⟩ = some u) : ((w1.setCell ⟨b, 0, none⟩ x).setCell ⟨b, 1, none⟩ y).cell? ⟨b, 1, none⟩ = some y :=
  World.cell?_setCell_same _ _ _ ((World.cell?_setCell_other _ _ _ _ (by simp)).trans c1)
/-- The result's two cells stand at w's end. -/
def Rs (w w' : World) (x y : Value) : Prop := w.heap.size < w'.heap.size ∧ w'.cell? ⟨w.heap.size, 0, none⟩ = some x ∧ w'.cell? ⟨w.heap.size, 1, none⟩ = some y ∧
  w'.frozen? ⟨w.heap.size, 0, none⟩ = false ∧ w'.frozen? ⟨w.heap.size, 1, none⟩ = false ∧ Below w.heap.size w w'
theorem Rs.call {w w1 w2 : World} {x y : Value} (h : Rs w w1 x y) (hb : Below w1.heap.size w1 w2) : Rs w w2 x y := by
  obtain ⟨h0, h1, h2, h3, h4, h5⟩ := h
  obtain ⟨hc, hf⟩ := bcell hb
  exact ⟨Nat.lt_of_lt_of_le h0 hb.size, (hc _ _ h0).trans h1, (hc _ _ h0).trans h2, (hf _ _ h0).trans h3, (hf _ _ h0).trans h4, h5.trans (hb.mono h5.size)⟩
theorem Rs.new_ (w : World) (x y : Value) (T : TypeId) : Rs w (w.alloc (.cells #[x, y] T)) x y :=
  ⟨by simp, cell_new0 _ _ _ _, cell_new1 _ _ _ _, by go_simp, by go_simp, (Below.refl _ _).alloc (Nat.le_refl _) _⟩
theorem Rs.alloc {w w1 : World} {x y : Value} (h : Rs w w1 x y) (o : Obj) : Rs w (w1.alloc o) x y := h.call ((Below.refl _ _).alloc (Nat.le_refl _) _)
theorem size_cut (s : List UInt8) (h : s.length ≤ 140737488355328) : (cutP s).1.length ≤ 281474976710656 ∧ (cutP s).2.length ≤ 281474976710656 := by
  unfold cutP Lib.cut
  by_cases hi : 0 ≤ Lib.index s [47]
  · rw [if_pos hi]; simp; omega
  · rw [if_neg hi]; simp; omega

set_option maxHeartbeats 1000000 in
set_option maxRecDepth 100000 in
theorem impl_rf (s : List UInt8) (hlim : s.length ≤ 140737488355328) (w : World) (ht : TB w) (hv : EV w) : Calls Tryd.prog 10 #[.string ⟨s.toArray⟩] w fun e w' =>
    ∃ n d ok, RF s n d ok ∧ e = .returned (.tuple #[.agg #[.int .i64 n, .int .i64 d], .bool ok]) ∧ Below w.heap.size w w' := by
  obtain ⟨z1, z2⟩ := size_cut s hlim
  have HC := Lib.hid (cut_out ⟨s.toArray⟩ (by show s.toArray.size ≤ _; simp; omega))
  rw [show (⟨s.toArray⟩ : ByteArray).data.toList = s from rfl] at HC
  obtain ⟨p, q, hp, hq⟩ : ∃ p q, (cutP s).1 = p ∧ (cutP s).2 = q := ⟨_, _, rfl, rfl⟩
  have HB := Lib.hid (@RF.bad s)
  have HG := Lib.hid (fun n d => @RF.good s n d)
  rw [hp, hq] at HB
  simp only [hp, hq] at HG
  rw [hp] at z1
  rw [hq] at z2
  have HA := Lib.hid (atoi_any ⟨p.toArray⟩ z1)
  have HD := Lib.hid (atoi_any ⟨q.toArray⟩ z2)
  unfold cutP at hp hq
  generalize Lib.cut s [47] = c at *
  obtain ⟨x, y, z⟩ := c
  cases z
  all_goals
    obtain rfl : x = p := hp
    obtain rfl := hq
    clear z1 z2
    go_enter Tryd.func10, Tryd.ntmps10
    go_wp2_with fail
    refine (HC.out _).mono ?_
    rintro e w1 ⟨rfl, hb1⟩
    have R1 := (Rs.new_ _ _ _ _).call hb1
    have q3 := R1.2.2.2.2.2
    clear hb1
    go_wp2_with fail
    refine (HA.out _ (ev_below hv q3)).mono ?_
    rintro e w2 ⟨hb2, hA⟩
    have R2 := R1.call hb2
    have r3 := R2.2.2.2.2.2
    clear R1 hb2 q3
    rcases hA with ⟨v, hv1, rfl⟩ | ⟨hv1, a, t, p, rfl⟩
    all_goals
      go_wp2_with fail
      refine (HD.out _ (ev_below hv r3)).mono ?_
      rintro e w3 ⟨hb3, hD⟩
      have R3 := R2.call hb3
      clear R2 hb3 r3
      rcases hD with ⟨v2, hv2, rfl⟩ | ⟨hv2, a2, t2, p2, rfl⟩
    all_goals
      clear HA HD HC
    · have HG2 := Lib.hid (HG.out _ _ hv1 hv2)
      have HI := Lib.hid (impl_rt v v2)
      have HR := Lib.hid (rfl : rtX v v2 = rtX v v2)
      generalize rtX v v2 = l at *
      clear HB HG HR hv1 hv2
      go_wp2_with fail
      refine (HI.out _ (tab_below ht (R3.alloc _).2.2.2.2.2)).mono ?_
      rintro e w4 ⟨rfl, hb4⟩
      have R4 := (R3.alloc _).call hb4
      have N := new1 hb4
      clear hb4 R3 HI
      obtain ⟨u0, u1, u2, f1, f2, u3⟩ := R4
      obtain ⟨-, n1, n2, -⟩ := N
      by_cases he : l = s
      · have HR := Lib.hid (HG2.out.1 he)
        subst he
        clear HG2
        go_wp2
        exact bodyPost_ret (v := .tuple #[.agg #[.int .i64 v, .int .i64 v2], .bool true]) (by simp [results, Tryd.results10, go_sem, tw0 _ u1, tw1 _ _ u2]) rfl ⟨v, v2, true, HR.out, rfl, (u3.setCell (by simp) _).setCell (by simp) _⟩
      · have HR := Lib.hid (HG2.out.2 he)
        have he2 : (l == s) = false := beq_eq_false_iff_ne.2 he
        clear HG2
        go_wp2
        exact bodyPost_ret (v := .tuple #[.agg #[.int .i64 0, .int .i64 0], .bool false]) (by simp [results, Tryd.results10, go_sem, tw0 _ u1, tw1 _ _ u2]) rfl ⟨0, 0, false, HR.out, rfl, (u3.setCell (by simp) _).setCell (by simp) _⟩
    · obtain ⟨u0, u1, u2, f1, f2, u3⟩ := R3
      go_wp2
      exact bodyPost_ret (v := .tuple #[.agg #[.int .i64 0, .int .i64 0], .bool false]) (by simp [results, Tryd.results10, go_sem, tw0 _ u1, tw1 _ _ u2]) rfl ⟨0, 0, false, HB.out (.inr hv2), rfl, (u3.setCell (by simp) _).setCell (by simp) _⟩
    · obtain ⟨u0, u1, u2, f1, f2, u3⟩ := R3
      go_wp2
      exact bodyPost_ret (v := .tuple #[.agg #[.int .i64 0, .int .i64 0], .bool false]) (by simp [results, Tryd.results10, go_sem, tw0 _ u1, tw1 _ _ u2]) rfl ⟨0, 0, false, HB.out (.inl hv1), rfl, (u3.setCell (by simp) _).setCell (by simp) _⟩
    · obtain ⟨u0, u1, u2, f1, f2, u3⟩ := R3
      go_wp2
      exact bodyPost_ret (v := .tuple #[.agg #[.int .i64 0, .int .i64 0], .bool false]) (by simp [results, Tryd.results10, go_sem, tw0 _ u1, tw1 _ _ u2]) rfl ⟨0, 0, false, HB.out (.inl hv1), rfl, (u3.setCell (by simp) _).setCell (by simp) _⟩
end Go.Proofs.YtkmakknjackdiaaDoor
