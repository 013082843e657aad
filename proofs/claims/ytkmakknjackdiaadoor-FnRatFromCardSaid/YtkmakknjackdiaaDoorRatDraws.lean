/-
  The draws of rationals: whatever the code, they return numbers within bounds, and write nothing that was there but the reader's place.
-/
import Derived.Test.YtkmakknjackdiaaDoorRatOps
import Derived.Deep.RegionWith
namespace Go.Proofs.YtkmakknjackdiaaDoor
open Go.RowKit
set_option linter.unusedSimpArgs false
set_option linter.unusedVariables false

theorem gtrans {a b c : World} {g : Nat} (h : a.grownBy b (some g)) (k : b.grownBy c (some g)) : a.grownBy c (some g) :=
  ⟨k.os.trans h.os, k.tape.trans h.tape, k.output.trans h.output, Nat.le_trans h.size k.size, fun i hi hne => (k.block i (Nat.lt_of_lt_of_le hi h.size) hne).trans (h.block i hi hne)⟩
theorem gdrewN {a w : World} {row : Option Nat} (h : a.grownBy w row) (n : Nat) : a.grownBy (w.drewN n) row := ⟨h.os, h.tape, h.output, h.size, h.block⟩
theorem galloc {a w : World} {row : Option Nat} (h : a.grownBy w row) (o : Obj) : a.grownBy (w.alloc o) row :=
  ⟨h.os, h.tape, h.output, Nat.le_trans h.size (by simp), fun i hi hne => (Below.heap_alloc w o i (Nat.lt_of_lt_of_le hi h.size)).trans (h.block i hi hne)⟩
theorem gset {a w : World} {g : Nat} (h : a.grownBy w (some g)) {p : Addr} (hp : p.block = g ∨ a.heap.size ≤ p.block) (u : Value) : a.grownBy (w.setCell p u) (some g) :=
  ⟨h.os, h.tape, h.output, by simpa [World.setCell] using h.size, fun i hi hne => (Below.heap_setCell w p u i (by
    rintro rfl
    rcases hp with hp | hp
    · exact hne (by rw [hp])
    · omega)).trans (h.block i hi hne)⟩
theorem gbelow {a w : World} (h : Below a.heap.size a w) (g : Nat) : a.grownBy w (some g) := ⟨h.os, h.tape, h.output, h.size, fun i hi _ => h.block i hi⟩
theorem gcell {a w : World} {g : Nat} (h : a.grownBy w (some g)) : (∀ b o, b < a.heap.size → b ≠ g → w.cell? ⟨b, o, none⟩ = a.cell? ⟨b, o, none⟩) ∧ (∀ b o, b < a.heap.size → b ≠ g → w.frozen? ⟨b, o, none⟩ = a.frozen? ⟨b, o, none⟩) :=
  ⟨fun b o hb hg => World.cell?_of_block (h.block b hb (fun e => hg (by injection e))), fun b o hb hg => World.frozen?_of_block (h.block b hb (fun e => hg (by injection e)))⟩
theorem gfrom {B : Nat} {a w : World} {g : Nat} (h : a.grownBy w (some g)) (hB : B ≤ g) (hs : B ≤ a.heap.size) : Below B a w :=
  (Below.refl _ _).grown h hs (fun k e => by injection e with e; omega)

/-- What a pick leaves: a number below n, the reader one place on, nothing else touched. -/
def Pk (B : Nat) (w : World) (g : Nat) (p n : Int) (e : Ending) (w' : World) : Prop :=
  ∃ v : Int, e = .returned (.int .i64 v) ∧ 0 ≤ v ∧ v < n ∧ Rd B w' g (p + 1) ∧ w.grownBy w' (some g)
theorem pk_any (B g : Nat) (p n : Int) (w : World) (h : Rd B w g p) (hp0 : 0 ≤ p) (hp1 : p ≤ 1000000) (hn : n ≤ 1000000) (hn0 : 1 ≤ n) :
    Calls Tryd.prog 31 #[.pointer (some ⟨g, 0, none⟩), .int .i64 n] w (Pk B w g p n) :=
  (pick_w B g p n w h hp0 hp1 hn (by omega)).mono fun _ _ ⟨v, m, he, h1, h2, h3, hw⟩ => ⟨v, he, h1, h2 hn0, by rw [hw]; exact h.set_.drewN m, by rw [hw]; exact gdrewN (gset (World.grownBy.refl _ _) (.inl rfl) _) m⟩

theorem small_any (B g : Nat) (p : Int) (w : World) (h : Rd B w g p) (hp0 : 0 ≤ p) (hp1 : p ≤ 1000000) :
    Calls Tryd.prog 43 #[.pointer (some ⟨g, 0, none⟩)] w fun e w' => ∃ v : Int, e = .returned (.int .i64 v) ∧ -20 ≤ v ∧ v ≤ 20 ∧ Rd B w' g (p + 1) ∧ w.grownBy w' (some g) := by
  go_enter Tryd.func43, Tryd.ntmps43
  go_wp2_with fail
  refine (pk_any B g _ _ _ h hp0 hp1 (by omega) (by omega)).mono ?_
  rintro e w1 ⟨v, rfl, v0, v1, hR, hg⟩
  go_wp2
  go_ret
  exact ⟨_, rfl, by omega, by omega, hR, hg⟩

/-- What a draw of a rational leaves. -/
def Wr (B : Nat) (w : World) (g : Nat) (p : Int) (e : Ending) (w' : World) : Prop :=
  ∃ n d q : Int, e = .returned (.agg #[.int .i64 n, .int .i64 d]) ∧ -2000000000 ≤ n ∧ n ≤ 2000000000 ∧ -2000000000 ≤ d ∧ d ≤ 2000000000 ∧ p ≤ q ∧ q ≤ p + 10 ∧ Rd B w' g q ∧ w.grownBy w' (some g)

theorem res_bd {n d : Int} {o : Option (Int × Int)} (h : o = ofR n d) : o = none ∨ ∃ x y, o = some (x, y) ∧ -1000000000 ≤ x ∧ x ≤ 1000000000 ∧ 1 ≤ y ∧ y ≤ 1000000000 := by
  rcases ho : o with _ | ⟨x, y⟩
  · exact .inl rfl
  · refine .inr ⟨x, y, rfl, ?_⟩
    obtain ⟨_, _, hv, _⟩ := of_some (h.symm.trans ho)
    obtain ⟨h1, h2, h3, h4, _⟩ := (ratB_iff x y).1 hv
    exact ⟨h3, h4, h1, h2⟩

theorem litN (x : Int) (h : 0 ≤ x ∧ x < 4) : ∃ y : Int, -1000000000 ≤ y ∧ y ≤ 1000000000 ∧ (#[Value.int .i64 999999999, Value.int .i64 1000000000, Value.int .i64 (-1000000000), Value.int .i64 500000000] : Array Value)[x.toNat]? = some (.int .i64 y) := by
  rcases (by omega : x = 0 ∨ x = 1 ∨ x = 2 ∨ x = 3) with rfl | rfl | rfl | rfl
  · exact ⟨999999999, by omega, by omega, rfl⟩
  · exact ⟨1000000000, by omega, by omega, rfl⟩
  · exact ⟨-1000000000, by omega, by omega, rfl⟩
  · exact ⟨500000000, by omega, by omega, rfl⟩
theorem litD (x : Int) (h : 0 ≤ x ∧ x < 4) : ∃ y : Int, 1 ≤ y ∧ y ≤ 1000000000 ∧ (#[Value.int .i64 1000000000, Value.int .i64 999999999, Value.int .i64 999999937, Value.int .i64 65536] : Array Value)[x.toNat]? = some (.int .i64 y) := by
  rcases (by omega : x = 0 ∨ x = 1 ∨ x = 2 ∨ x = 3) with rfl | rfl | rfl | rfl
  · exact ⟨1000000000, by omega, by omega, rfl⟩
  · exact ⟨999999999, by omega, by omega, rfl⟩
  · exact ⟨999999937, by omega, by omega, rfl⟩
  · exact ⟨65536, by omega, by omega, rfl⟩
theorem lit_cell {w w' : World} {g : Nat} {cs : Array Value} {T : TypeId} {i : Nat} {v : Value} (hg : (w.alloc (.cells cs T)).grownBy w' (some g)) (hlt : g < w.heap.size) (h : cs[i]? = some v) : w'.cell? ⟨w.heap.size, i, none⟩ = some v := by
  rw [(gcell hg).1 _ _ (by simp) (by omega), World.cell?_alloc_at _ _ _ _ rfl]; exact h
theorem Rd.below {B g : Nat} {p : Int} {w w' : World} (h : Rd B w g p) (hb : Below w.heap.size w w') : Rd B w' g p := by
  obtain ⟨hc, hf⟩ := (⟨fun b o hlt => hb.cell (p := ⟨b, o, none⟩) hlt, fun b o hlt => hb.frozen (p := ⟨b, o, none⟩) hlt⟩ : (∀ b o, b < w.heap.size → w'.cell? ⟨b, o, none⟩ = w.cell? ⟨b, o, none⟩) ∧ (∀ b o, b < w.heap.size → w'.frozen? ⟨b, o, none⟩ = w.frozen? ⟨b, o, none⟩))
  obtain ⟨hB, hg, hfz, h1, A, len, cap, h0, hlen, hA⟩ := h
  refine ⟨hB, Nat.lt_of_lt_of_le hg hb.size, (hf _ _ hg).trans hfz, (hc _ _ hg).trans h1, A, len, cap, (hc _ _ hg).trans h0, hlen, fun hl => ?_⟩
  obtain ⟨b, off, rfl, hlt, hv⟩ := hA hl
  refine ⟨b, off, rfl, hlt, fun i hi => ?_⟩
  obtain ⟨v, v0, v1, hv⟩ := hv i hi
  exact ⟨v, v0, v1, (hc _ _ (by omega)).trans hv⟩
theorem Rd.set_other {B g : Nat} {p : Int} {w : World} (h : Rd B w g p) {c : Nat} (hne : c ≠ g) (hB' : B ≤ c) (i : Nat) (u : Value) : Rd B (w.setCell ⟨c, i, none⟩ u) g p := by
  obtain ⟨hB, hg, hfz, h1, A, len, cap, h0, hlen, hA⟩ := h
  refine ⟨hB, by simpa [World.setCell] using hg, (World.frozen?_setCell _ _ _ _).trans hfz, (World.cell?_setCell_other _ _ _ _ (fun e => hne (by injection e))).trans h1, A, len, cap, (World.cell?_setCell_other _ _ _ _ (fun e => hne (by injection e))).trans h0, hlen, fun hl => ?_⟩
  obtain ⟨b, off, rfl, hlt, hv⟩ := hA hl
  refine ⟨b, off, rfl, hlt, fun i hi => ?_⟩
  obtain ⟨v, v0, v1, hv⟩ := hv i hi
  exact ⟨v, v0, v1, (World.cell?_setCell_other _ _ _ _ (fun e => by injection e; omega)).trans hv⟩

set_option maxHeartbeats 1000000 in
theorem rat_any (B g : Nat) (p : Int) (w : World) (h : Rd B w g p) (hp0 : 0 ≤ p) (hp1 : p ≤ 900000) :
    Calls Tryd.prog 30 #[.pointer (some ⟨g, 0, none⟩)] w (Wr B w g p) := by
  have hgw := h.hg
  have hR0 := h.alloc (.cells #[.int .i64 0, .int .i64 0] 23)
  go_enter Tryd.func30, Tryd.ntmps30
  go_wp2_with fail
  refine (small_any B g _ _ hR0 hp0 (by omega)).mono ?_
  rintro e w1 ⟨n, rfl, n0, n1, hR1, hg1⟩
  go_wp2_with fail
  refine (pk_any B g _ _ _ hR1 (by omega) (by omega) (by omega) (by omega)).mono ?_
  rintro e w2 ⟨s, rfl, s0, s1, hR2, hg2⟩
  have hg := gtrans hg1 hg2
  clear hg1 hg2 hR1 hR0
  go_wp2_with fail
  · refine (pk_any B g _ _ _ (hR2.alloc _) (by omega) (by omega) (by omega) (by omega)).mono ?_
    rintro e w3 ⟨v, rfl, v0, v1, hR3, hg3'⟩
    obtain ⟨N, N0, N1, hN⟩ := litN v ⟨v0, v1⟩
    have q3 := lit_cell hg3' hR2.hg hN
    have hg3 := gtrans (galloc hg _) hg3'
    clear hN hg3' hg hR2
    go_wp2_with fail
    refine (pk_any B g _ _ _ hR3 (by omega) (by omega) (by omega) (by omega)).mono ?_
    rintro e w5 ⟨u, rfl, u0, u1, hR5, hg5'⟩
    have hg5 := gtrans hg3 hg5'
    clear hg5'
    go_wp2_with fail
    refine (pk_any B g _ _ _ hR5 (by omega) (by omega) (by omega) (by omega)).mono ?_
    rintro e w6 ⟨r, rfl, r0, r1, hR6, hg6'⟩
    have hg6 := gtrans hg5 hg6'
    clear hg6' hg5 hR5
    go_wp2_with fail
    · refine (pk_any B g _ _ _ (hR6.alloc _) (by omega) (by omega) (by omega) (by omega)).mono ?_
      rintro e w7 ⟨v', rfl, v'0, v'1, hR7, hg7'⟩
      obtain ⟨D, D0, D1, hD⟩ := litD v' ⟨v'0, v'1⟩
      have q7 := lit_cell hg7' hR6.hg hD
      have hg7 := gtrans (galloc hg6 _) hg7'
      clear hD hg7' hg6 hR6
      have HO : Hid (∀ W, Calls Tryd.prog 44 #[.int .i64 (N), .int .i64 (D)] W (Res W (ofR (N) (D)))) := fun W => spec_of _ _ W
      rcases res_bd (n := N) (d := D) rfl with ho | ⟨x, y, ho, x1, x2, y1, y2⟩
      all_goals
        rw [ho] at HO
        clear ho
        go_wp2_with fail
        refine (HO.out _).mono ?_
        rintro e w9 ⟨rfl, hb9⟩
        have hR9 := hR7.below hb9
        have hg9 := gtrans hg7 (gbelow hb9 g)
        have c0 : w9.cell? ⟨w.heap.size, 0, none⟩ = some (.int .i64 0) := by rw [(gcell hg9).1 _ _ (by simp) (by omega)]; go_simp
        have c1 : w9.cell? ⟨w.heap.size, 1, none⟩ = some (.int .i64 0) := by rw [(gcell hg9).1 _ _ (by simp) (by omega)]; go_simp
        have cf : ∀ o, w9.frozen? ⟨w.heap.size, o, none⟩ = false := fun o => by rw [(gcell hg9).2 _ _ (by simp) (by omega)]; go_simp
        have hz9 : w.heap.size < w9.heap.size := by have := hg9.size; simp at this; omega
        have hgw9 := gtrans (galloc (World.grownBy.refl w (some g)) _) hg9
        have hne : w.heap.size ≠ g := by omega
        have hBc : B ≤ w.heap.size := by have := h.hB; omega
        go_wp2
        first
          | exact bodyPost_ret (v := .agg #[.int .i64 x, .int .i64 y]) (by simp [results, Tryd.results30, go_sem, two0 _ c0, two1 _ _ c1, hz9]) rfl ⟨x, y, p + 1 + 1 + 1 + 1 + 1 + 1, rfl, by omega, by omega, by omega, by omega, by omega, by omega, ((hR9.set_other hne hBc _ _).set_other hne hBc _ _).alloc _, galloc (gset (gset hgw9 (.inr (Nat.le_refl _)) _) (.inr (Nat.le_refl _)) _) _⟩
          | exact bodyPost_ret (v := .agg #[.int .i64 1, .int .i64 2]) (by simp [results, Tryd.results30, go_sem, two0 _ c0, two1 _ _ c1, hz9]) rfl ⟨1, 2, p + 1 + 1 + 1 + 1 + 1 + 1, rfl, by omega, by omega, by omega, by omega, by omega, by omega, ((hR9.set_other hne hBc _ _).set_other hne hBc _ _).alloc _, galloc (gset (gset hgw9 (.inr (Nat.le_refl _)) _) (.inr (Nat.le_refl _)) _) _⟩
    · have HO : Hid (∀ W, Calls Tryd.prog 44 #[.int .i64 (N), .int .i64 (1 + u)] W (Res W (ofR (N) (1 + u)))) := fun W => spec_of _ _ W
      rcases res_bd (n := N) (d := 1 + u) rfl with ho | ⟨x, y, ho, x1, x2, y1, y2⟩
      all_goals
        rw [ho] at HO
        clear ho
        go_wp2_with fail
        refine (HO.out _).mono ?_
        rintro e w9 ⟨rfl, hb9⟩
        have hR9 := hR6.below hb9
        have hg9 := gtrans hg6 (gbelow hb9 g)
        have c0 : w9.cell? ⟨w.heap.size, 0, none⟩ = some (.int .i64 0) := by rw [(gcell hg9).1 _ _ (by simp) (by omega)]; go_simp
        have c1 : w9.cell? ⟨w.heap.size, 1, none⟩ = some (.int .i64 0) := by rw [(gcell hg9).1 _ _ (by simp) (by omega)]; go_simp
        have cf : ∀ o, w9.frozen? ⟨w.heap.size, o, none⟩ = false := fun o => by rw [(gcell hg9).2 _ _ (by simp) (by omega)]; go_simp
        have hz9 : w.heap.size < w9.heap.size := by have := hg9.size; simp at this; omega
        have hgw9 := gtrans (galloc (World.grownBy.refl w (some g)) _) hg9
        have hne : w.heap.size ≠ g := by omega
        have hBc : B ≤ w.heap.size := by have := h.hB; omega
        go_wp2
        first
          | exact bodyPost_ret (v := .agg #[.int .i64 x, .int .i64 y]) (by simp [results, Tryd.results30, go_sem, two0 _ c0, two1 _ _ c1, hz9]) rfl ⟨x, y, p + 1 + 1 + 1 + 1 + 1, rfl, by omega, by omega, by omega, by omega, by omega, by omega, ((hR9.set_other hne hBc _ _).set_other hne hBc _ _).alloc _, galloc (gset (gset hgw9 (.inr (Nat.le_refl _)) _) (.inr (Nat.le_refl _)) _) _⟩
          | exact bodyPost_ret (v := .agg #[.int .i64 1, .int .i64 2]) (by simp [results, Tryd.results30, go_sem, two0 _ c0, two1 _ _ c1, hz9]) rfl ⟨1, 2, p + 1 + 1 + 1 + 1 + 1, rfl, by omega, by omega, by omega, by omega, by omega, by omega, ((hR9.set_other hne hBc _ _).set_other hne hBc _ _).alloc _, galloc (gset (gset hgw9 (.inr (Nat.le_refl _)) _) (.inr (Nat.le_refl _)) _) _⟩
  · refine (pk_any B g _ _ _ hR2 (by omega) (by omega) (by omega) (by omega)).mono ?_
    rintro e w5 ⟨u, rfl, u0, u1, hR5, hg5'⟩
    have hg5 := gtrans hg hg5'
    clear hg5'
    go_wp2_with fail
    refine (pk_any B g _ _ _ hR5 (by omega) (by omega) (by omega) (by omega)).mono ?_
    rintro e w6 ⟨r, rfl, r0, r1, hR6, hg6'⟩
    have hg6 := gtrans hg5 hg6'
    clear hg6' hg5 hR5
    go_wp2_with fail
    · refine (pk_any B g _ _ _ (hR6.alloc _) (by omega) (by omega) (by omega) (by omega)).mono ?_
      rintro e w7 ⟨v', rfl, v'0, v'1, hR7, hg7'⟩
      obtain ⟨D, D0, D1, hD⟩ := litD v' ⟨v'0, v'1⟩
      have q7 := lit_cell hg7' hR6.hg hD
      have hg7 := gtrans (galloc hg6 _) hg7'
      clear hD hg7' hg6 hR6
      have HO : Hid (∀ W, Calls Tryd.prog 44 #[.int .i64 (n * 50000000), .int .i64 (D)] W (Res W (ofR (n * 50000000) (D)))) := fun W => spec_of _ _ W
      rcases res_bd (n := n * 50000000) (d := D) rfl with ho | ⟨x, y, ho, x1, x2, y1, y2⟩
      all_goals
        rw [ho] at HO
        clear ho
        go_wp2_with fail
        refine (HO.out _).mono ?_
        rintro e w9 ⟨rfl, hb9⟩
        have hR9 := hR7.below hb9
        have hg9 := gtrans hg7 (gbelow hb9 g)
        have c0 : w9.cell? ⟨w.heap.size, 0, none⟩ = some (.int .i64 0) := by rw [(gcell hg9).1 _ _ (by simp) (by omega)]; go_simp
        have c1 : w9.cell? ⟨w.heap.size, 1, none⟩ = some (.int .i64 0) := by rw [(gcell hg9).1 _ _ (by simp) (by omega)]; go_simp
        have cf : ∀ o, w9.frozen? ⟨w.heap.size, o, none⟩ = false := fun o => by rw [(gcell hg9).2 _ _ (by simp) (by omega)]; go_simp
        have hz9 : w.heap.size < w9.heap.size := by have := hg9.size; simp at this; omega
        have hgw9 := gtrans (galloc (World.grownBy.refl w (some g)) _) hg9
        have hne : w.heap.size ≠ g := by omega
        have hBc : B ≤ w.heap.size := by have := h.hB; omega
        go_wp2
        first
          | exact bodyPost_ret (v := .agg #[.int .i64 x, .int .i64 y]) (by simp [results, Tryd.results30, go_sem, two0 _ c0, two1 _ _ c1, hz9]) rfl ⟨x, y, p + 1 + 1 + 1 + 1 + 1, rfl, by omega, by omega, by omega, by omega, by omega, by omega, ((hR9.set_other hne hBc _ _).set_other hne hBc _ _).alloc _, galloc (gset (gset hgw9 (.inr (Nat.le_refl _)) _) (.inr (Nat.le_refl _)) _) _⟩
          | exact bodyPost_ret (v := .agg #[.int .i64 1, .int .i64 2]) (by simp [results, Tryd.results30, go_sem, two0 _ c0, two1 _ _ c1, hz9]) rfl ⟨1, 2, p + 1 + 1 + 1 + 1 + 1, rfl, by omega, by omega, by omega, by omega, by omega, by omega, ((hR9.set_other hne hBc _ _).set_other hne hBc _ _).alloc _, galloc (gset (gset hgw9 (.inr (Nat.le_refl _)) _) (.inr (Nat.le_refl _)) _) _⟩
    · have HO : Hid (∀ W, Calls Tryd.prog 44 #[.int .i64 (n * 50000000), .int .i64 (1 + u)] W (Res W (ofR (n * 50000000) (1 + u)))) := fun W => spec_of _ _ W
      rcases res_bd (n := n * 50000000) (d := 1 + u) rfl with ho | ⟨x, y, ho, x1, x2, y1, y2⟩
      all_goals
        rw [ho] at HO
        clear ho
        go_wp2_with fail
        refine (HO.out _).mono ?_
        rintro e w9 ⟨rfl, hb9⟩
        have hR9 := hR6.below hb9
        have hg9 := gtrans hg6 (gbelow hb9 g)
        have c0 : w9.cell? ⟨w.heap.size, 0, none⟩ = some (.int .i64 0) := by rw [(gcell hg9).1 _ _ (by simp) (by omega)]; go_simp
        have c1 : w9.cell? ⟨w.heap.size, 1, none⟩ = some (.int .i64 0) := by rw [(gcell hg9).1 _ _ (by simp) (by omega)]; go_simp
        have cf : ∀ o, w9.frozen? ⟨w.heap.size, o, none⟩ = false := fun o => by rw [(gcell hg9).2 _ _ (by simp) (by omega)]; go_simp
        have hz9 : w.heap.size < w9.heap.size := by have := hg9.size; simp at this; omega
        have hgw9 := gtrans (galloc (World.grownBy.refl w (some g)) _) hg9
        have hne : w.heap.size ≠ g := by omega
        have hBc : B ≤ w.heap.size := by have := h.hB; omega
        go_wp2
        first
          | exact bodyPost_ret (v := .agg #[.int .i64 x, .int .i64 y]) (by simp [results, Tryd.results30, go_sem, two0 _ c0, two1 _ _ c1, hz9]) rfl ⟨x, y, p + 1 + 1 + 1 + 1, rfl, by omega, by omega, by omega, by omega, by omega, by omega, ((hR9.set_other hne hBc _ _).set_other hne hBc _ _).alloc _, galloc (gset (gset hgw9 (.inr (Nat.le_refl _)) _) (.inr (Nat.le_refl _)) _) _⟩
          | exact bodyPost_ret (v := .agg #[.int .i64 1, .int .i64 2]) (by simp [results, Tryd.results30, go_sem, two0 _ c0, two1 _ _ c1, hz9]) rfl ⟨1, 2, p + 1 + 1 + 1 + 1, rfl, by omega, by omega, by omega, by omega, by omega, by omega, ((hR9.set_other hne hBc _ _).set_other hne hBc _ _).alloc _, galloc (gset (gset hgw9 (.inr (Nat.le_refl _)) _) (.inr (Nat.le_refl _)) _) _⟩
  · refine (pk_any B g _ _ _ hR2 (by omega) (by omega) (by omega) (by omega)).mono ?_
    rintro e w5 ⟨u, rfl, u0, u1, hR5, hg5'⟩
    have hg5 := gtrans hg hg5'
    clear hg5'
    go_wp2_with fail
    refine (pk_any B g _ _ _ hR5 (by omega) (by omega) (by omega) (by omega)).mono ?_
    rintro e w6 ⟨r, rfl, r0, r1, hR6, hg6'⟩
    have hg6 := gtrans hg5 hg6'
    clear hg6' hg5 hR5
    go_wp2_with fail
    · refine (pk_any B g _ _ _ (hR6.alloc _) (by omega) (by omega) (by omega) (by omega)).mono ?_
      rintro e w7 ⟨v', rfl, v'0, v'1, hR7, hg7'⟩
      obtain ⟨D, D0, D1, hD⟩ := litD v' ⟨v'0, v'1⟩
      have q7 := lit_cell hg7' hR6.hg hD
      have hg7 := gtrans (galloc hg6 _) hg7'
      clear hD hg7' hg6 hR6
      have HO : Hid (∀ W, Calls Tryd.prog 44 #[.int .i64 (n), .int .i64 (D)] W (Res W (ofR (n) (D)))) := fun W => spec_of _ _ W
      rcases res_bd (n := n) (d := D) rfl with ho | ⟨x, y, ho, x1, x2, y1, y2⟩
      all_goals
        rw [ho] at HO
        clear ho
        go_wp2_with fail
        refine (HO.out _).mono ?_
        rintro e w9 ⟨rfl, hb9⟩
        have hR9 := hR7.below hb9
        have hg9 := gtrans hg7 (gbelow hb9 g)
        have c0 : w9.cell? ⟨w.heap.size, 0, none⟩ = some (.int .i64 0) := by rw [(gcell hg9).1 _ _ (by simp) (by omega)]; go_simp
        have c1 : w9.cell? ⟨w.heap.size, 1, none⟩ = some (.int .i64 0) := by rw [(gcell hg9).1 _ _ (by simp) (by omega)]; go_simp
        have cf : ∀ o, w9.frozen? ⟨w.heap.size, o, none⟩ = false := fun o => by rw [(gcell hg9).2 _ _ (by simp) (by omega)]; go_simp
        have hz9 : w.heap.size < w9.heap.size := by have := hg9.size; simp at this; omega
        have hgw9 := gtrans (galloc (World.grownBy.refl w (some g)) _) hg9
        have hne : w.heap.size ≠ g := by omega
        have hBc : B ≤ w.heap.size := by have := h.hB; omega
        go_wp2
        first
          | exact bodyPost_ret (v := .agg #[.int .i64 x, .int .i64 y]) (by simp [results, Tryd.results30, go_sem, two0 _ c0, two1 _ _ c1, hz9]) rfl ⟨x, y, p + 1 + 1 + 1 + 1 + 1, rfl, by omega, by omega, by omega, by omega, by omega, by omega, ((hR9.set_other hne hBc _ _).set_other hne hBc _ _).alloc _, galloc (gset (gset hgw9 (.inr (Nat.le_refl _)) _) (.inr (Nat.le_refl _)) _) _⟩
          | exact bodyPost_ret (v := .agg #[.int .i64 1, .int .i64 2]) (by simp [results, Tryd.results30, go_sem, two0 _ c0, two1 _ _ c1, hz9]) rfl ⟨1, 2, p + 1 + 1 + 1 + 1 + 1, rfl, by omega, by omega, by omega, by omega, by omega, by omega, ((hR9.set_other hne hBc _ _).set_other hne hBc _ _).alloc _, galloc (gset (gset hgw9 (.inr (Nat.le_refl _)) _) (.inr (Nat.le_refl _)) _) _⟩
    · have HO : Hid (∀ W, Calls Tryd.prog 44 #[.int .i64 (n), .int .i64 (1 + u)] W (Res W (ofR (n) (1 + u)))) := fun W => spec_of _ _ W
      rcases res_bd (n := n) (d := 1 + u) rfl with ho | ⟨x, y, ho, x1, x2, y1, y2⟩
      all_goals
        rw [ho] at HO
        clear ho
        go_wp2_with fail
        refine (HO.out _).mono ?_
        rintro e w9 ⟨rfl, hb9⟩
        have hR9 := hR6.below hb9
        have hg9 := gtrans hg6 (gbelow hb9 g)
        have c0 : w9.cell? ⟨w.heap.size, 0, none⟩ = some (.int .i64 0) := by rw [(gcell hg9).1 _ _ (by simp) (by omega)]; go_simp
        have c1 : w9.cell? ⟨w.heap.size, 1, none⟩ = some (.int .i64 0) := by rw [(gcell hg9).1 _ _ (by simp) (by omega)]; go_simp
        have cf : ∀ o, w9.frozen? ⟨w.heap.size, o, none⟩ = false := fun o => by rw [(gcell hg9).2 _ _ (by simp) (by omega)]; go_simp
        have hz9 : w.heap.size < w9.heap.size := by have := hg9.size; simp at this; omega
        have hgw9 := gtrans (galloc (World.grownBy.refl w (some g)) _) hg9
        have hne : w.heap.size ≠ g := by omega
        have hBc : B ≤ w.heap.size := by have := h.hB; omega
        go_wp2
        first
          | exact bodyPost_ret (v := .agg #[.int .i64 x, .int .i64 y]) (by simp [results, Tryd.results30, go_sem, two0 _ c0, two1 _ _ c1, hz9]) rfl ⟨x, y, p + 1 + 1 + 1 + 1, rfl, by omega, by omega, by omega, by omega, by omega, by omega, ((hR9.set_other hne hBc _ _).set_other hne hBc _ _).alloc _, galloc (gset (gset hgw9 (.inr (Nat.le_refl _)) _) (.inr (Nat.le_refl _)) _) _⟩
          | exact bodyPost_ret (v := .agg #[.int .i64 1, .int .i64 2]) (by simp [results, Tryd.results30, go_sem, two0 _ c0, two1 _ _ c1, hz9]) rfl ⟨1, 2, p + 1 + 1 + 1 + 1, rfl, by omega, by omega, by omega, by omega, by omega, by omega, ((hR9.set_other hne hBc _ _).set_other hne hBc _ _).alloc _, galloc (gset (gset hgw9 (.inr (Nat.le_refl _)) _) (.inr (Nat.le_refl _)) _) _⟩
end Go.Proofs.YtkmakknjackdiaaDoor
