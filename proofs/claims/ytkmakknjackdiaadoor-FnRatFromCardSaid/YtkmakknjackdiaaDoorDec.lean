/-
  The reference's decimals: at every number within bounds they are the library's numeral.
-/
import Derived.Test.YtkmakknjackdiaaDoorBase
import Derived.Deep.RegionHeld3
import Derived.Deep.RegionWith
import Derived.Deep.DrawnRows
import Derived.Lib.Hide
import Derived.Lib.ItoaMem
import Derived.Lib.ItoaLen
import Derived.StillTailTactics
import Derived.Laws.IdiomStrings
namespace Go.Proofs.YtkmakknjackdiaaDoor
open Go.RowKit
set_option linter.unusedSimpArgs false
set_option linter.unusedVariables false
attribute [local go_sem ↓] Go.wp_at_zero Go.wp_at_succ

/-- A text comes back; what was there is as it was. -/
def Tx (w : World) (l : List UInt8) (e : Ending) (w' : World) : Prop := e = .returned (.string ⟨l.toArray⟩) ∧ Below w.heap.size w w'
theorem dlen (q : Nat) (h : q ≤ 1000000000000) : (Lib.decDigits q).length ≤ 20 := by rw [Lib.decDigits_length]; exact Lib.nDigits_le20 q (by omega)
theorem bapp (a b : List UInt8) : (⟨a.toArray⟩ : ByteArray) ++ (⟨b.toArray⟩ : ByteArray) = ⟨(a ++ b).toArray⟩ := by
  apply ByteArray.ext
  rw [ByteArray.data_append]
  simp
theorem ret_str {a b : ByteArray} (h : a = b) : Ending.returned (.string a) = .returned (.string b) := by rw [h]

/-- A digit's byte. -/
def dgB (r : Nat) : UInt8 := UInt8.ofNat (48 + r)
theorem conv_one (r : Nat) (hr : r < 10) (W : World) (b : Nat) (h : W.cell? ⟨b, 0, none⟩ = some (.int .u8 (48 + (r : Int)))) :
    (convert 28 9 (.slice (some ⟨b, 0, none⟩) 1 1)).run Tryd.prog W = .ok (.string ⟨#[dgB r]⟩) W :=
  run_convert_bytes_back W _ _ 5 ⟨b, 0, none⟩ 1 [UInt8.ofNat (48 + r)] Tryd.underlying28 Tryd.underlying5 Tryd.underlying9 (fun j hj => by
    obtain rfl : j = 0 := by simpa using hj
    have e : ((UInt8.ofNat (48 + r)).toNat : Int) = 48 + (r : Int) := by
      rw [UInt8.toNat_ofNat']
      omega
    show W.cell? ⟨b, 0, none⟩ = some (.int .u8 ((UInt8.ofNat (48 + r)).toNat : Int))
    rw [e]; exact h)

set_option maxRecDepth 100000 in
theorem dec_small (n : Nat) (h : n < 10) (w : World) : Calls Tryd.prog 29 #[.int .i64 n] w (Tx w (Lib.decDigits n)) := by
  have HD : Hid (Lib.decDigits n = [dgB n]) := Lib.decDigits_one h
  have hconv := conv_one n h (w.alloc (.cells #[.int .u8 (48 + (n : Int))] 5)) w.heap.size (by go_simp)
  go_enter Tryd.func29, Tryd.ntmps29
  go_wp2
  go_ret
  exact ⟨ret_str (by rw [HD.out]), (Below.refl _ _).alloc (Nat.le_refl _) _⟩

theorem kalloc {W : World} {o : Obj} {b i : Nat} {v : Value} (h : W.cell? ⟨b, i, none⟩ = some v) : (W.alloc o).cell? ⟨b, i, none⟩ = some v := (World.cell?_alloc_lt _ _ _ (World.block_lt_of_cell? _ _ h)).trans h
theorem keep0 {W w' : World} {b i : Nat} {v : Value} (hb : Below W.heap.size W w') (k : W.cell? ⟨b, i, none⟩ = some v) : w'.cell? ⟨b, i, none⟩ = some v := (hb.cell (p := ⟨b, i, none⟩) (World.block_lt_of_cell? _ _ k)).trans k

theorem cellb {w w1 : World} {x : Value} {T : TypeId} (hb : Below ((w.alloc (.cells #[x] T)).drew).heap.size ((w.alloc (.cells #[x] T)).drew) w1) : w1.cell? ⟨w.heap.size, 0, none⟩ = some x ∧ Below w.heap.size w w1 := by
  have h : (w.alloc (.cells #[x] T)).cell? ⟨w.heap.size, 0, none⟩ = some x := by go_simp
  exact ⟨keep0 (W := (w.alloc (.cells #[x] T)).drew) hb h, (((Below.refl _ w).alloc (Nat.le_refl _) _).drew).trans (hb.mono (by simp))⟩
set_option maxHeartbeats 1000000 in
set_option maxRecDepth 100000 in
theorem dec_step (n : Nat) (h : 10 ≤ n) (h1 : n ≤ 1000000000000) (IH : ∀ w, Calls Tryd.prog 29 #[.int .i64 ((n / 10 : Nat) : Int)] w (Tx w (Lib.decDigits (n / 10)))) (w : World) :
    Calls Tryd.prog 29 #[.int .i64 n] w (Tx w (Lib.decDigits n)) := by
  have hd : Lib.decDigits n = Lib.decDigits (n / 10) ++ [dgB (n % 10)] := by unfold dgB; rw [Lib.decDigits, dif_neg (by omega)]
  obtain ⟨q, hq⟩ : ∃ q : Nat, n / 10 = q := ⟨_, rfl⟩
  obtain ⟨r, hr⟩ : ∃ r : Nat, n % 10 = r := ⟨_, rfl⟩
  have r9 : r < 10 := by omega
  have e1 : (n : Int).tdiv 10 = (q : Int) := by rw [Int.tdiv_eq_ediv_of_nonneg (by omega)]; omega
  have e2 : (n : Int).tmod 10 = (r : Int) := by rw [Int.tmod_eq_emod_of_nonneg (by omega)]; omega
  have e3 : (n : Int) / 10 = (q : Int) := by omega
  have e4 : (n : Int) % 10 = (r : Int) := by omega
  have e5 : IntKind.i64.wrap (48 + (r : Int)) = 48 + (r : Int) := IntWalk.i64_in _ (by omega)
  have e6 : IntKind.u8.wrap (48 + (r : Int)) = 48 + (r : Int) := by rw [IntKind.wrap_u8]; omega
  have e7 : IntKind.i64.wrap (q : Int) = (q : Int) := IntWalk.i64_in _ (by omega)
  rw [hq, hr] at hd
  rw [hq] at IH
  have HD := Lib.hid hd
  have HI := Lib.hid IH
  have hconv := conv_one r r9
  have g1 : ((n : Int) < 10) = False := by simp; omega
  have hlen := dlen q (by omega)
  have hadd : ∀ W, (Op.stringOp .add ⟨(Lib.decDigits q).toArray⟩ ⟨#[dgB r]⟩).run Tryd.prog W = .ok (.string ⟨(Lib.decDigits q ++ [dgB r]).toArray⟩) W := fun W => run_string_add_lists W (Lib.decDigits q) [dgB r] (by omega) (by simp)
  have hsz : ¬ ((⟨(Lib.decDigits q).toArray⟩ : ByteArray).size + (⟨#[dgB r]⟩ : ByteArray).size > 9223372036854775807) := by show ¬ ((Lib.decDigits q).toArray.size + 1 > _); simp; omega
  clear hq hr hd IH
  go_enter Tryd.func29, Tryd.ntmps29
  go_wp2_with fail
  go_region_with (go_at_call 29; refine (HI.out _).mono ?_; rintro e w1 ⟨rfl, hb⟩; first | (have hh := cellb hb; obtain ⟨hk, hl⟩ := hh) | (have hl : Below w.heap.size w w1 := ((Below.refl _ w).drew).trans hb))
  all_goals
    go_wp2
    go_ret
    first
      | exact ⟨ret_str (by rw [HD.out, ← bapp]), hl⟩
      | exact ⟨ret_str (by rw [HD.out, ← bapp]), hl.alloc hl.size _⟩

theorem dec_any (n : Nat) (h : n ≤ 1000000000000) : ∀ w, Calls Tryd.prog 29 #[.int .i64 n] w (Tx w (Lib.decDigits n)) := by
  induction n using Nat.strongRecOn with
  | ind n ih =>
    intro w
    by_cases h10 : n < 10
    · exact dec_small n h10 w
    · exact dec_step n (by omega) h (ih (n / 10) (by omega) (by omega)) w
set_option maxHeartbeats 1000000 in
set_option maxRecDepth 100000 in
theorem dec_neg (n : Nat) (h : n ≤ 1000000000000) (h0 : 0 < n) (w : World) : Calls Tryd.prog 29 #[.int .i64 (-(n : Int))] w (Tx w (Lib.itoa (-(n : Int)))) := by
  have HD := Lib.hid (Lib.itoa_neg n h0)
  have HI := Lib.hid (dec_any n h)
  have hlen := dlen n h
  have hadd : ∀ W, (Op.stringOp .add ⟨#[45]⟩ ⟨(Lib.decDigits n).toArray⟩).run Tryd.prog W = .ok (.string ⟨(45 :: Lib.decDigits n).toArray⟩) W := fun W => run_string_add_lists W [45] (Lib.decDigits n) (by simp) (by omega)
  have hsz : ¬ ((⟨#[45]⟩ : ByteArray).size + (⟨(Lib.decDigits n).toArray⟩ : ByteArray).size > 9223372036854775807) := by show ¬ (1 + (Lib.decDigits n).toArray.size > _); simp; omega
  go_enter Tryd.func29, Tryd.ntmps29
  go_wp2_with fail
  refine (HI.out _).mono ?_
  rintro e w1 ⟨rfl, hb⟩
  go_wp2
  go_ret
  exact ⟨ret_str (by rw [HD.out]), hb⟩
/-- **The reference's decimals are the library's.** -/
theorem spec_dec (n : Int) (h : -1000000000000 ≤ n ∧ n ≤ 1000000000000) (w : World) : Calls Tryd.prog 29 #[.int .i64 n] w (Tx w (Lib.itoa n)) := by
  by_cases h0 : 0 ≤ n
  · obtain ⟨k, rfl⟩ := Int.eq_ofNat_of_zero_le h0
    rw [Lib.itoa_nonneg]
    exact dec_any k (by omega) w
  · obtain ⟨k, rfl⟩ : ∃ k : Nat, n = -(k : Int) := ⟨n.natAbs, by omega⟩
    exact dec_neg k (by omega) (by omega) w
end Go.Proofs.YtkmakknjackdiaaDoor
