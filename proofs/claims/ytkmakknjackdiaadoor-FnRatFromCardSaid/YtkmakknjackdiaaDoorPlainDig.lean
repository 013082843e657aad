/-
  The reference's reading of digits, in plain Lean.
-/
import Derived.Test.YtkmakknjackdiaaDoorPlainText
namespace Go.Proofs.YtkmakknjackdiaaDoor
set_option linter.unusedSimpArgs false
set_option linter.unusedVariables false

def isD (c : UInt8) : Bool := decide (48 ≤ c.toNat) && decide (c.toNat ≤ 57)
theorem isD_iff (c : UInt8) : isD c = true ↔ 48 ≤ c.toNat ∧ c.toNat ≤ 57 := by unfold isD; simp
/-- What digits spell, behind what was spelt. -/
def stp (n : Nat) (c : UInt8) : Nat := 10 * n + (c.toNat - 48)
noncomputable def valF (n : Nat) (l : List UInt8) : Nat := l.foldl stp n
theorem valF_nil (n : Nat) : valF n [] = n := rfl
theorem valF_cons (n : Nat) (c : UInt8) (r : List UInt8) : valF n (c :: r) = valF (10 * n + (c.toNat - 48)) r := by simp only [valF, List.foldl_cons, stp]
theorem valF_append (n : Nat) (x y : List UInt8) : valF n (x ++ y) = valF (valF n x) y := List.foldl_append
theorem valF_lt (x : List UInt8) : ∀ (n B : Nat), n < B → x.all isD = true → valF n x < B * 10 ^ x.length := by
  induction x with
  | nil => intro n B h _; rw [valF_nil]; simpa using h
  | cons c r ih =>
    intro n B h ha
    simp only [List.all_cons, Bool.and_eq_true] at ha
    have hc := (isD_iff c).1 ha.1
    have := ih (10 * n + (c.toNat - 48)) (B * 10) (by omega) ha.2
    rw [valF_cons, List.length_cons, Nat.pow_succ, Nat.mul_comm (10 ^ r.length) 10, ← Nat.mul_assoc]
    exact this
theorem valF_bd {x : List UInt8} (h : x.length ≤ 10) (ha : x.all isD = true) : valF 0 x < 10000000000 := by
  have h1 := valF_lt x 0 1 (by omega) ha
  have h2 : 10 ^ x.length ≤ 10 ^ 10 := Nat.pow_le_pow_right (by omega) h
  rw [Nat.one_mul] at h1
  exact Nat.lt_of_lt_of_le h1 h2
/-- What 'l1Digits' returns. -/
noncomputable def digX (s : List UInt8) : Int := if 1 ≤ s.length ∧ s.length ≤ 10 ∧ s.all isD = true then (valF 0 s : Int) else -1
theorem dec_all (n : Nat) : (Lib.decDigits n).all isD = true := List.all_eq_true.2 fun c hc => (isD_iff c).2 (dec_digit n c hc)
theorem dec_val (n : Nat) : valF 0 (Lib.decDigits n) = n := by
  induction n using Nat.strongRecOn with
  | ind n ih =>
    by_cases h : n < 10
    · rw [Lib.decDigits_one h]
      rw [valF_cons, valF_nil, dig_at h]; omega
    · rw [dec_step0 n (by omega), valF_append, ih (n / 10) (by omega)]
      rw [valF_cons, valF_nil, dig_at (by omega)]; omega
theorem dec_len10 (k : Nat) : ∀ n : Nat, n < 10 ^ (k + 1) → (Lib.decDigits n).length ≤ k + 1 := by
  induction k with
  | zero => intro n h; rw [Lib.decDigits_one (by omega)]; simp
  | succ k ih =>
    intro n h
    by_cases h1 : n < 10
    · rw [Lib.decDigits_one h1]; simp
    · rw [dec_step0 n (by omega), List.length_append]
      have := ih (n / 10) (by rw [Nat.pow_succ] at h; omega)
      simp; omega
theorem digX_dec (n : Nat) (h : n ≤ 1000000000) : digX (Lib.decDigits n) = n := by
  unfold digX
  rw [if_pos ⟨List.length_pos_iff.2 (dec_ne n), dec_len10 9 n (by omega), dec_all n⟩, dec_val]
/-- Sign and digits. -/
def sgn (a : List UInt8) : Int := if a.head? = some 45 then -1 else 1
def bod (a : List UInt8) : List UInt8 := if a.head? = some 45 then a.tail else a
theorem sgn_itoa (n : Int) (h : -1000000000 ≤ n ∧ n ≤ 1000000000) : sgn (Lib.itoa n) * digX (bod (Lib.itoa n)) = n ∧ 0 ≤ digX (bod (Lib.itoa n)) := by
  rcases Int.lt_or_le n 0 with h0 | h0
  · obtain ⟨k, rfl⟩ : ∃ k : Nat, n = -(k : Int) := ⟨n.natAbs, by omega⟩
    rw [Lib.itoa_neg k (by omega)]
    have e1 : sgn (45 :: Lib.decDigits k) = -1 := if_pos rfl
    have e2 : bod (45 :: Lib.decDigits k) = Lib.decDigits k := if_pos rfl
    rw [e1, e2, digX_dec k (by omega)]
    omega
  · obtain ⟨k, rfl⟩ := Int.eq_ofNat_of_zero_le h0
    rw [Lib.itoa_nonneg]
    have hd := dec_digit k
    have hn : (Lib.decDigits k).head? ≠ some 45 := by
      intro hh
      have := (hd 45 (List.mem_of_mem_head? hh)).1
      exact absurd this (by decide)
    unfold sgn bod
    rw [if_neg hn, if_neg hn, digX_dec k (by omega)]
    omega
theorem digX_itoa (d : Int) (h : 1 ≤ d ∧ d ≤ 1000000000) : digX (Lib.itoa d) = d := by
  obtain ⟨k, rfl⟩ := Int.eq_ofNat_of_zero_le (show 0 ≤ d by omega)
  rw [Lib.itoa_nonneg, digX_dec k (by omega)]
theorem RF.sbad {s : List UInt8} (h : digX (bod (cutP s).1) < 0 ∨ digX (cutP s).2 < 0) : RF s 0 0 false := by
  refine .inr ⟨rfl, rfl, rfl, fun x y hv e => ?_⟩
  subst e
  rw [cutP_rt hv] at h
  obtain ⟨b1, b2, b3, b4, _⟩ := (ratB_iff x y).1 hv
  have h1 := (sgn_itoa x (by omega)).2
  have h2 := digX_itoa y (by omega)
  simp only at h
  omega
theorem RF.sgood {s : List UInt8} {p q n : Int} (h1 : digX (bod (cutP s).1) = p) (h2 : digX (cutP s).2 = q) (hp : 0 ≤ p) (hn : n = sgn (cutP s).1 * p) :
    (rtX n q = s → RF s n q true) ∧ (rtX n q ≠ s → RF s 0 0 false) := by
  constructor
  · intro e
    refine .inl ⟨rfl, ?_, e⟩
    cases hv : ratB n q with
    | true => rfl
    | false =>
      have : rtX n q = [] := by unfold rtX; rw [if_neg (by simp [hv])]
      rw [← e, this, cutP_none [] (by simp)] at h1
      have h3 : digX (bod []) = -1 := if_neg (fun h => absurd h.1 (by decide))
      simp only at h1
      omega
  · intro e
    refine .inr ⟨rfl, rfl, rfl, fun x y hv e2 => e ?_⟩
    subst e2
    rw [cutP_rt hv] at h1 h2 hn
    obtain ⟨b1, b2, b3, b4, _⟩ := (ratB_iff x y).1 hv
    have g1 := (sgn_itoa x (by omega)).1
    have g2 := digX_itoa y (by omega)
    simp only at h1 h2 hn
    rw [h1] at g1
    rw [hn, g1, ← h2, g2]
end Go.Proofs.YtkmakknjackdiaaDoor
