/-
  What the reader of the drawn code does: opening it, and picking a number below a bound. For every code.
-/
import Derived.Test.YtkmakknjackdiaaDoorRows
import Derived.WalkKit
import Derived.WalkSpells
import Derived.Below
import Derived.BigQuiet
import Derived.Deep.QuietTactic
import Derived.Laws.BitsAllLaws
import Derived.Laws.BitsLemmas
import Derived.OpenShut
namespace Go.Proofs.YtkmakknjackdiaaDoor
open Go.RowKit
set_option linter.unusedSimpArgs false
set_option linter.unusedVariables false

/-- The reader at block g stands at place p of a code that lies below block B. -/
structure Rd (B : Nat) (w : World) (g : Nat) (p : Int) : Prop where
  hB : B ≤ g
  hg : g < w.heap.size
  frz : w.frozen? ⟨g, 1, none⟩ = false
  at1 : w.cell? ⟨g, 1, none⟩ = some (.int .i64 p)
  at0 : ∃ (A : Option Addr) (n c : Nat), w.cell? ⟨g, 0, none⟩ = some (.slice A n c) ∧ n ≤ 2000 ∧
    (0 < n → ∃ b off, A = some ⟨b, off, none⟩ ∧ b < B ∧ ∀ i, i < n → ∃ v : Int, 0 ≤ v ∧ v ≤ 255 ∧ w.cell? ⟨b, off + i, none⟩ = some (.int .u8 v))

/-- What 'pick' leaves. -/
def Picked (B : Nat) (w : World) (g : Nat) (p n : Int) (e : Ending) (w' : World) : Prop :=
  ∃ v : Int, e = .returned (.int .i64 v) ∧ 0 ≤ v ∧ (1 ≤ n → v < n) ∧ (n < 1 → v = 0) ∧ Rd B w' g (p + 1) ∧ Below B w w'

/-- .. and the very world. -/
def PickedW (w : World) (g : Nat) (p n : Int) (e : Ending) (w' : World) : Prop :=
  ∃ (v : Int) (m : Nat), e = .returned (.int .i64 v) ∧ 0 ≤ v ∧ (1 ≤ n → v < n) ∧ (n < 1 → v = 0) ∧ w' = (w.setCell ⟨g, 1, none⟩ (.int .i64 (p + 1))).drewN m

theorem ofInt_i64 (a : Nat) (ha : a < 9223372036854775808) : (BitVec.ofInt 64 (a : Int)).toNat = a := by
  rw [BitVec.ofInt_natCast, BitVec.toNat_ofNat]; exact Nat.mod_eq_of_lt (by omega)
theorem i64_xor_nat (a b : Nat) (ha : a < 9223372036854775808) (hb : b < 9223372036854775808) : bits .xor .i64 (a : Int) (b : Int) = ((a ^^^ b : Nat) : Int) := by
  have hx : a ^^^ b < 2 ^ 63 := Nat.xor_lt_two_pow (by omega) (by omega)
  show IntKind.i64.wrap ((BitVec.ofInt 64 (a : Int) ^^^ BitVec.ofInt 64 (b : Int)).toNat : Int) = _
  rw [BitVec.toNat_xor, ofInt_i64 a ha, ofInt_i64 b hb, IntKind.wrap_i64]
  omega

theorem Rd.set_ {B g : Nat} {p q : Int} {w : World} (h : Rd B w g p) : Rd B (w.setCell ⟨g, 1, none⟩ (.int .i64 q)) g q := by
  obtain ⟨hB, hg, hfz, h1, A, len, cap, h0, hlen, hA⟩ := h
  refine ⟨hB, by simpa [World.setCell] using hg, ?_, ?_, A, len, cap, ?_, hlen, fun hl => ?_⟩
  · go_simp
  · go_simp
  · go_simp
  · obtain ⟨b, off, rfl, hb, hc⟩ := hA hl
    refine ⟨b, off, rfl, hb, fun i hi => ?_⟩
    obtain ⟨v, v0, v1, hv⟩ := hc i hi
    exact ⟨v, v0, v1, (World.cell?_setCell_other w _ _ _ (fun e => by injection e; omega)).trans hv⟩

theorem Rd.drewN {B g : Nat} {p : Int} {w : World} (h : Rd B w g p) (n : Nat) : Rd B (w.drewN n) g p := by
  obtain ⟨hB, hg, hfz, h1, A, len, cap, h0, hlen, hA⟩ := h
  exact ⟨hB, hg, hfz, h1, A, len, cap, h0, hlen, hA⟩
theorem Rd.drew {B g : Nat} {p : Int} {w : World} (h : Rd B w g p) : Rd B w.drew g p := by
  obtain ⟨hB, hg, hfz, h1, A, len, cap, h0, hlen, hA⟩ := h
  exact ⟨hB, hg, hfz, h1, A, len, cap, h0, hlen, hA⟩
theorem Rd.alloc {B g : Nat} {p : Int} {w : World} (h : Rd B w g p) (o : Obj) : Rd B (w.alloc o) g p := by
  obtain ⟨hB, hg, hfz, h1, A, len, cap, h0, hlen, hA⟩ := h
  refine ⟨hB, by simp; omega, (World.frozen?_alloc_past _ _ _ hg).trans hfz, (World.cell?_alloc_lt w o ⟨g, 1, none⟩ hg).trans h1, A, len, cap, (World.cell?_alloc_lt w o ⟨g, 0, none⟩ hg).trans h0, hlen, fun hl => ?_⟩
  obtain ⟨b, off, rfl, hb, hc⟩ := hA hl
  refine ⟨b, off, rfl, hb, fun i hi => ?_⟩
  obtain ⟨v, v0, v1, hv⟩ := hc i hi
  exact ⟨v, v0, v1, (World.cell?_alloc_lt w o ⟨b, off + i, none⟩ (by show b < _; omega)).trans hv⟩
theorem below_drewN {B : Nat} {a w : World} (h : Below B a w) (n : Nat) : Below B a (w.drewN n) := ⟨h.os, h.tape, h.output, h.size, h.block⟩

set_option maxHeartbeats 400000 in
theorem pick_w (B g : Nat) (p n : Int) (w : World) (h : Rd B w g p) (hp0 : 0 ≤ p) (hp1 : p ≤ 1000000) (hn : n ≤ 1000000) (hn0 : -1000000 ≤ n) :
    Calls Tryd.prog 31 #[.pointer (some ⟨g, 0, none⟩), .int .i64 n] w (PickedW w g p n) := by
  obtain ⟨hB, hg, hfz, h1, A, len, cap, h0, hlen, hA⟩ := h
  by_cases hn1 : n < 1
  · go_enter Tryd.func31, Tryd.ntmps31
    go_wp2
    go_ret
    exact ⟨0, 0, rfl, by omega, by omega, by omega, rfl⟩
  · by_cases hl : len = 0
    · subst hl
      go_enter Tryd.func31, Tryd.ntmps31
      go_wp2
      go_ret
      exact ⟨0, 0, rfl, by omega, by omega, by omega, rfl⟩
    · have hl1 : 0 < len := by omega
      have hl0 : ((len : Int) == 0) = false := by simp; omega
      obtain ⟨b, off, rfl, hb, hc⟩ := hA hl1
      obtain ⟨k, rfl⟩ := Int.eq_ofNat_of_zero_le hp0
      by_cases hk : k < len
      · obtain ⟨v, v0, v1, hv⟩ := hc k hk
        clear hA hc
        go_enter Tryd.func31, Tryd.ntmps31
        go_wp2
        go_ret
        exact ⟨v % n, 0, rfl, Int.emod_nonneg _ (by omega), fun _ => Int.emod_lt_of_pos _ (by omega), fun h => by omega, rfl⟩
      · obtain ⟨r1, e1, hr1⟩ : ∃ r : Nat, (k : Int).tmod (len : Int) = (r : Int) ∧ r < len := ⟨k % len, by rw [Int.tmod_eq_emod_of_nonneg (by omega)]; rfl, Nat.mod_lt _ hl1⟩
        obtain ⟨r2, e2, hr2⟩ : ∃ r : Nat, ((k : Int) * 7 + 3).tmod (len : Int) = (r : Int) ∧ r < len := ⟨(k * 7 + 3) % len, by rw [Int.tmod_eq_emod_of_nonneg (by omega)]; rfl, Nat.mod_lt _ hl1⟩
        obtain ⟨d, e3, hd⟩ : ∃ d : Nat, (k : Int).tdiv (len : Int) = (d : Int) ∧ d ≤ k := ⟨k / len, by rw [Int.tdiv_eq_ediv_of_nonneg (by omega)]; rfl, Nat.div_le_self _ _⟩
        obtain ⟨v, v0, v1, hv⟩ := hc r1 hr1
        obtain ⟨u, u0, u1, hu⟩ := hc r2 hr2
        have i1 : (r1 : Int) < (len : Int) := by omega
        have i2 : (r2 : Int) < (len : Int) := by omega
        have w1 : IntKind.i64.wrap ((k : Int) * 7) = (k : Int) * 7 := IntWalk.i64_in _ (by omega)
        have w2 : IntKind.i64.wrap ((k : Int) * 7 + 3) = (k : Int) * 7 + 3 := IntWalk.i64_in _ (by omega)
        have w3 : IntKind.i64.wrap (v * 131) = v * 131 := IntWalk.i64_in _ (by omega)
        have w4 : IntKind.i64.wrap (u * 1117) = u * 1117 := IntWalk.i64_in _ (by omega)
        have w5 : IntKind.i64.wrap (v * 131 + u * 1117) = v * 131 + u * 1117 := IntWalk.i64_in _ (by omega)
        have w6 : IntKind.i64.wrap ((k : Int) * 29) = (k : Int) * 29 := IntWalk.i64_in _ (by omega)
        have w7 : IntKind.i64.wrap (v * 131 + u * 1117 + (k : Int) * 29) = v * 131 + u * 1117 + (k : Int) * 29 := IntWalk.i64_in _ (by omega)
        have w8 : IntKind.i64.wrap ((d : Int) * 53) = (d : Int) * 53 := IntWalk.i64_in _ (by omega)
        have w9 : IntKind.i64.wrap (v * 131 + u * 1117 + (k : Int) * 29 + (d : Int) * 53) = v * 131 + u * 1117 + (k : Int) * 29 + (d : Int) * 53 := IntWalk.i64_in _ (by omega)
        have wv : IntKind.i64.wrap v = v := IntWalk.i64_in _ (by omega)
        have wu : IntKind.i64.wrap u = u := IntWalk.i64_in _ (by omega)
        have wd : IntKind.i64.wrap (d : Int) = (d : Int) := IntWalk.i64_in _ (by omega)
        clear hA hc
        go_enter Tryd.func31, Tryd.ntmps31
        go_wp2
        go_quiet (fail)
        go_wp2
        go_ret
        have e4 : v * 131 + u * 1117 + (k : Int) * 29 + (d : Int) * 53 = ((v.toNat * 131 + u.toNat * 1117 + k * 29 + d * 53 : Nat) : Int) := by omega
        have e5 : (v * 131 + u * 1117 + (k : Int) * 29 + (d : Int) * 53) / 64 = (((v.toNat * 131 + u.toNat * 1117 + k * 29 + d * 53) / 64 : Nat) : Int) := by omega
        have hx : bits BinOp.xor IntKind.i64 (v * 131 + u * 1117 + (k : Int) * 29 + (d : Int) * 53) ((v * 131 + u * 1117 + (k : Int) * 29 + (d : Int) * 53) / 64) = (((v.toNat * 131 + u.toNat * 1117 + k * 29 + d * 53) ^^^ ((v.toNat * 131 + u.toNat * 1117 + k * 29 + d * 53) / 64) : Nat) : Int) := by
          rw [e5, e4]; exact i64_xor_nat _ _ (by omega) (by omega)
        generalize ((v.toNat * 131 + u.toNat * 1117 + k * 29 + d * 53) ^^^ ((v.toNat * 131 + u.toNat * 1117 + k * 29 + d * 53) / 64) : Nat) = y at hx
        have hy : (bits BinOp.xor IntKind.i64 (v * 131 + u * 1117 + (k : Int) * 29 + (d : Int) * 53) ((v * 131 + u * 1117 + (k : Int) * 29 + (d : Int) * 53) / 64)).tmod n = (y : Int) % n := by
          rw [hx, Int.tmod_eq_emod_of_nonneg (by omega)]
        exact ⟨(y : Int) % n, _, congrArg (fun z => Ending.returned (Value.int .i64 z)) hy, Int.emod_nonneg _ (by omega), fun _ => Int.emod_lt_of_pos _ (by omega), fun h => by omega, rfl⟩

theorem pick_any (B g : Nat) (p n : Int) (w : World) (h : Rd B w g p) (hp0 : 0 ≤ p) (hp1 : p ≤ 1000000) (hn : n ≤ 1000000) (hn0 : -1000000 ≤ n) :
    Calls Tryd.prog 31 #[.pointer (some ⟨g, 0, none⟩), .int .i64 n] w (Picked B w g p n) :=
  (pick_w B g p n w h hp0 hp1 hn hn0).mono fun _ _ ⟨v, m, he, h1, h2, h3, hw⟩ => ⟨v, he, h1, h2, h3, by rw [hw]; exact h.set_.drewN m, by rw [hw]; exact below_drewN ((Below.refl _ _).setCell h.hB _) m⟩

/-- The code lies below block B; each of its cells is a byte. -/
def Code (B : Nat) (w : World) (A : Option Addr) (n c : Nat) : Prop :=
  n ≤ c ∧ c ≤ 9223372036854775807 ∧ (0 < n → ∃ b off, A = some ⟨b, off, none⟩ ∧ b < B ∧ ∀ i, i < n → ∃ v : Int, 0 ≤ v ∧ v ≤ 255 ∧ w.cell? ⟨b, off + i, none⟩ = some (.int .u8 v))

/-- What 'l6Open' leaves. -/
def Opened (B : Nat) (w : World) (e : Ending) (w' : World) : Prop :=
  ∃ g : Nat, e = .returned (.pointer (some ⟨g, 0, none⟩)) ∧ Rd B w' g 0 ∧ Below B w w'

theorem cell_new0 (w : World) (x y : Value) (T : TypeId) : (w.alloc (.cells #[x, y] T)).cell? ⟨w.heap.size, 0, none⟩ = some x := by go_simp
theorem cell_new1 (w : World) (x y : Value) (T : TypeId) : (w.alloc (.cells #[x, y] T)).cell? ⟨w.heap.size, 1, none⟩ = some y := by go_simp

theorem Rd.new_ {B n c : Nat} {A : Option Addr} {w : World} (T : TypeId) (hB : B ≤ w.heap.size) (hn : n ≤ 2000)
    (hA : 0 < n → ∃ b off, A = some ⟨b, off, none⟩ ∧ b < B ∧ ∀ i, i < n → ∃ v : Int, 0 ≤ v ∧ v ≤ 255 ∧ w.cell? ⟨b, off + i, none⟩ = some (.int .u8 v)) :
    Rd B (w.alloc (.cells #[.slice A n c, .int .i64 0] T)) w.heap.size 0 := by
  refine ⟨hB, by simp, ?_, cell_new1 _ _ _ _, A, n, c, cell_new0 _ _ _ _, hn, fun hl => ?_⟩
  · go_simp
  · obtain ⟨b, off, rfl, hb, hc⟩ := hA hl
    refine ⟨b, off, rfl, hb, fun i hi => ?_⟩
    obtain ⟨v, v0, v1, hv⟩ := hc i hi
    exact ⟨v, v0, v1, (World.cell?_alloc_lt w _ _ (by show b < _; omega)).trans hv⟩

theorem open_any (B n c : Nat) (A : Option Addr) (w : World) (h : Code B w A n c) (hB : B ≤ w.heap.size) :
    Calls Tryd.prog 26 #[.slice A n c] w (Opened B w) := by
  obtain ⟨hnc, hc, hA⟩ := h
  by_cases hn : 2000 < n
  · obtain ⟨b, off, rfl, hb, hv⟩ := hA (by omega)
    clear hA
    go_enter Tryd.func26, Tryd.ntmps26
    go_wp2
    go_ret
    exact ⟨w.heap.size, rfl, Rd.new_ _ hB (by omega) (fun _ => ⟨b, off, rfl, hb, fun i hi => hv i (by omega)⟩), (Below.refl _ _).alloc hB _⟩
  · go_enter Tryd.func26, Tryd.ntmps26
    go_wp2
    go_ret
    exact ⟨w.heap.size, rfl, Rd.new_ _ hB (by omega) hA, (Below.refl _ _).alloc hB _⟩

/-- What 'l6In' answers. -/
def inB (n lo hi : Int) : Bool := decide (lo ≤ n) && decide (n ≤ hi)
theorem inB_yes {n lo hi : Int} (h : lo ≤ n ∧ n ≤ hi) : inB n lo hi = true := by unfold inB; simp [h.1, h.2]
theorem inB_no {n lo hi : Int} (h : ¬ (lo ≤ n ∧ n ≤ hi)) : inB n lo hi = false := by unfold inB; simp; omega
theorem inB_iff (n lo hi : Int) : inB n lo hi = true ↔ lo ≤ n ∧ n ≤ hi := by unfold inB; simp
theorem in_any (n lo hi : Int) (w : World) : Calls Tryd.prog 36 #[.int .i64 n, .int .i64 lo, .int .i64 hi] w fun e w' => e = .returned (.bool (inB n lo hi)) ∧ w = w' := by
  go_enter Tryd.func36, Tryd.ntmps36
  go_wp2
  all_goals
    go_ret
    refine ⟨congrArg (fun z => Ending.returned (Value.bool z)) ?_, rfl⟩
    rw [Bool.eq_iff_iff, inB_iff]
    first | omega | (simp only [decide_eq_true_eq, Bool.false_eq_true, false_iff]; omega)
/-! ### The law's own argument -/
/-- What the walk is told of the code that came in: it is nil; or it leads to a row of cells, each a byte. -/
def IsRow (k : IntKind) (w : World) (a : Option Addr) (len cap : Nat) (zs : List Int) : Prop :=
  (a = none ∧ len = 0 ∧ cap = 0 ∧ zs = []) ∨
  ∃ x, a = some x ∧ len ≤ cap ∧ cap ≤ maxLen ∧ zs.length = cap ∧ (∀ i, i < zs.length → w.cell? (x.add i) = some (.int k (zs.getD i 0))) ∧ ∀ n ∈ zs, (Lit.int k n).wf = true

theorem IsRow.code {w : World} {a : Option Addr} {len cap : Nat} {zs : List Int} (h : IsRow .u8 w a len cap zs) : Code w.heap.size w a len cap := by
  rcases h with ⟨rfl, rfl, rfl, rfl⟩ | ⟨x, rfl, hl, hm, hz, hcell, hwz⟩
  · exact ⟨Nat.le_refl _, by omega, fun h => absurd h (by omega)⟩
  · refine ⟨hl, hm, fun h0 => ?_⟩
    obtain ⟨b, off, spot⟩ := x
    have hc := hcell 0 (by omega)
    have hspot : spot = none := by simpa [Addr.add] using World.cell?_spot hc
    subst hspot
    refine ⟨b, off, rfl, World.block_lt_of_cell? _ _ hc, fun i hi => ?_⟩
    have hi' := hcell i (by omega)
    have hb := bounds_u8 (hwz (zs.getD i 0) (by rw [List.getD_eq_getElem?_getD, List.getElem?_eq_getElem (by omega)]; exact List.getElem_mem _))
    refine ⟨zs.getD i 0, hb.1, hb.2, ?_⟩
    have e : (Addr.add ⟨b, off, none⟩ i) = ⟨b, off + i, none⟩ := by unfold Addr.add; split <;> simp_all
    rw [← e]; exact hi'
end Go.Proofs.YtkmakknjackdiaaDoor
