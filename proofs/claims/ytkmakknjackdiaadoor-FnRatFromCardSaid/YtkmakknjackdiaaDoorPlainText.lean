/-
  The texts of rationals in plain Lean: what is cut out of one, and what is read back from it.
-/
import Derived.Test.YtkmakknjackdiaaDoorRatText
import Derived.Lib.ItoaMem
import Derived.Lib.ItoaLen
import Derived.Lib.AtoiAllCases
import Derived.Lib.IndexBytes
import Derived.Lib.IndexMore
namespace Go.Proofs.YtkmakknjackdiaaDoor
set_option linter.unusedSimpArgs false
set_option linter.unusedVariables false

theorem dig_at {k : Nat} (h : k < 10) : (UInt8.ofNat (48 + k)).toNat = 48 + k := by rw [UInt8.toNat_ofNat']; omega
theorem dec_step0 (n : Nat) (h : 10 ≤ n) : Lib.decDigits n = Lib.decDigits (n / 10) ++ [UInt8.ofNat (48 + n % 10)] := by rw [Lib.decDigits, dif_neg (by omega)]
theorem dec_digit (n : Nat) : ∀ c ∈ Lib.decDigits n, 48 ≤ c.toNat ∧ c.toNat ≤ 57 := by
  induction n using Nat.strongRecOn with
  | ind n ih =>
    intro c hc
    by_cases h : n < 10
    · rw [Lib.decDigits_one h, List.mem_singleton] at hc
      subst hc
      rw [dig_at h]; omega
    · rw [dec_step0 n (by omega), List.mem_append, List.mem_singleton] at hc
      rcases hc with hc | rfl
      · exact ih (n / 10) (by omega) c hc
      · rw [dig_at (by omega)]; omega
theorem dec_ne (n : Nat) : Lib.decDigits n ≠ [] := by
  by_cases h : n < 10
  · rw [Lib.decDigits_one h]; simp
  · rw [dec_step0 n (by omega)]; simp
theorem itoa_ne (n : Int) : Lib.itoa n ≠ [] := by
  rcases Int.lt_or_le n 0 with h | h
  · obtain ⟨k, rfl⟩ : ∃ k : Nat, n = -(k : Int) := ⟨n.natAbs, by omega⟩
    rw [Lib.itoa_neg k (by omega)]; simp
  · obtain ⟨k, rfl⟩ := Int.eq_ofNat_of_zero_le h
    rw [Lib.itoa_nonneg]; exact dec_ne k
theorem itoa_noslash (n : Int) : ∀ c ∈ Lib.itoa n, c ≠ 47 := by
  intro c hc e
  subst e
  rcases Int.lt_or_le n 0 with h | h
  · obtain ⟨k, rfl⟩ : ∃ k : Nat, n = -(k : Int) := ⟨n.natAbs, by omega⟩
    rw [Lib.itoa_neg k (by omega), List.mem_cons] at hc
    rcases hc with hc | hc
    · exact absurd hc (by decide)
    · exact absurd (dec_digit k _ hc).1 (by decide)
  · obtain ⟨k, rfl⟩ := Int.eq_ofNat_of_zero_le h
    rw [Lib.itoa_nonneg] at hc
    exact absurd (dec_digit k _ hc).1 (by decide)
theorem parse_dec (n : Nat) : n ≤ 1000000000000 → ∀ r, Lib.parseUint10 0 (Lib.decDigits n ++ r) = Lib.parseUint10 n r := by
  induction n using Nat.strongRecOn with
  | ind n ih =>
    intro hn r
    by_cases h : n < 10
    · rw [Lib.decDigits_one h]
      show Lib.parseUint10 0 (UInt8.ofNat (48 + n) :: r) = _
      rw [Lib.parseUint10, dig_at h, if_pos (by omega), if_neg (by omega), if_neg (by omega)]
      congr 1; omega
    · rw [dec_step0 n (by omega), List.append_assoc, ih (n / 10) (by omega) (by omega)]
      show Lib.parseUint10 (n / 10) (UInt8.ofNat (48 + n % 10) :: r) = _
      rw [Lib.parseUint10, dig_at (by omega), if_pos (by omega), if_neg (by omega), if_neg (by omega)]
      congr 1; omega
theorem parseMag_dec (n : Nat) (h : n ≤ 1000000000000) : Lib.parseMag (Lib.decDigits n) = .ok n := by
  unfold Lib.parseMag
  rw [if_neg (dec_ne n)]
  have := parse_dec n h []
  rw [List.append_nil] at this
  rw [this, Lib.parseUint10]
theorem atoi_itoa (n : Int) (h : -1000000000000 ≤ n ∧ n ≤ 1000000000000) : Lib.atoiAll (Lib.itoa n) = .ok n := by
  rcases Int.lt_or_le n 0 with h0 | h0
  · obtain ⟨k, rfl⟩ : ∃ k : Nat, n = -(k : Int) := ⟨n.natAbs, by omega⟩
    rw [Lib.itoa_neg k (by omega), Lib.atoiAll_minus, parseMag_dec k (by omega)]
    simp only [Lib.signed]
    rw [if_neg (by omega)]
  · obtain ⟨k, rfl⟩ := Int.eq_ofNat_of_zero_le h0
    rw [Lib.itoa_nonneg]
    have hp := parseMag_dec k (by omega)
    have hd := dec_digit k
    cases hl : Lib.decDigits k with
    | nil => exact absurd hl (dec_ne k)
    | cons c r =>
      rw [hl] at hp hd
      have := hd c (by simp)
      rw [Lib.atoiAll_plain c r (by omega) (by omega), hp]
      simp only [Lib.signless]
      rw [if_neg (by omega)]
theorem idx_none : ∀ (x : List UInt8), (∀ c ∈ x, c ≠ 47) → Lib.indexByte x 47 = -1
  | [], _ => rfl
  | b :: l, h => by
    have hb : (b == (47 : UInt8)) = false := beq_eq_false_iff_ne.2 (h b (by simp))
    simp only [Lib.indexByte, hb, idx_none l (fun c hc => h c (by simp [hc]))]
    rfl
theorem idx_some : ∀ (x y : List UInt8), (∀ c ∈ x, c ≠ 47) → Lib.indexByte (x ++ 47 :: y) 47 = x.length
  | [], y, _ => rfl
  | b :: l, y, h => by
    have hb : (b == (47 : UInt8)) = false := beq_eq_false_iff_ne.2 (h b (by simp))
    have := idx_some l y (fun c hc => h c (by simp [hc]))
    simp only [List.cons_append, Lib.indexByte, hb, this]
    rw [if_neg (by simp), if_neg (by simp)]
    simp
/-- The two halves of a text. -/
def cutP (s : List UInt8) : List UInt8 × List UInt8 := ((Lib.cut s [47]).1, if (Lib.cut s [47]).2.2 then (Lib.cut s [47]).2.1 else [49])
theorem cutP_none (x : List UInt8) (h : ∀ c ∈ x, c ≠ 47) : cutP x = (x, [49]) := by
  unfold cutP Lib.cut
  rw [Lib.index_one, idx_none x h]; rfl
theorem cutP_some (x y : List UInt8) (h : ∀ c ∈ x, c ≠ 47) : cutP (x ++ 47 :: y) = (x, y) := by
  unfold cutP Lib.cut
  rw [Lib.index_one, idx_some x y h, if_pos (by omega)]
  simp
theorem cutP_rt {n d : Int} (h : ratB n d = true) : cutP (rtX n d) = (Lib.itoa n, Lib.itoa d) := by
  unfold rtX
  rw [if_pos h]
  by_cases hd : d = 1
  · subst hd
    rw [if_pos rfl, cutP_none _ (itoa_noslash n), show Lib.itoa 1 = [49] from by rw [show (1 : Int) = ((1 : Nat) : Int) from rfl, Lib.itoa_nonneg, Lib.decDigits_one (by omega)]; rfl]
  · rw [if_neg hd, List.append_assoc]
    exact cutP_some _ _ (itoa_noslash n)
theorem rt_ne {n d : Int} (h : ratB n d = true) : rtX n d ≠ [] := by
  unfold rtX
  rw [if_pos h]
  split
  · exact itoa_ne n
  · simp
/-- A text has one rational. -/
def RF (s : List UInt8) (n d : Int) (ok : Bool) : Prop :=
  (ok = true ∧ ratB n d = true ∧ rtX n d = s) ∨ (ok = false ∧ n = 0 ∧ d = 0 ∧ ∀ x y, ratB x y = true → rtX x y ≠ s)
theorem rt_inj {n d x y : Int} (h : ratB n d = true) (k : ratB x y = true) (e : rtX n d = rtX x y) : n = x ∧ d = y := by
  have h1 := cutP_rt h
  rw [e, cutP_rt k] at h1
  have e1 : Lib.itoa x = Lib.itoa n := congrArg Prod.fst h1
  have e2 : Lib.itoa y = Lib.itoa d := congrArg Prod.snd h1
  obtain ⟨a1, a2, a3, a4, _⟩ := (ratB_iff n d).1 h
  obtain ⟨b1, b2, b3, b4, _⟩ := (ratB_iff x y).1 k
  have f1 := atoi_itoa n (by omega)
  have f2 := atoi_itoa d (by omega)
  rw [← e1, atoi_itoa x (by omega)] at f1
  rw [← e2, atoi_itoa y (by omega)] at f2
  injection f1 with f1
  injection f2 with f2
  exact ⟨f1.symm, f2.symm⟩
theorem RF.one {s : List UInt8} {n d x y : Int} {ok told : Bool} (h : RF s n d ok) (k : RF s x y told) : n = x ∧ d = y ∧ ok = told := by
  rcases h with ⟨rfl, h1, h2⟩ | ⟨rfl, rfl, rfl, h3⟩ <;> rcases k with ⟨rfl, k1, k2⟩ | ⟨rfl, rfl, rfl, k3⟩
  · obtain ⟨e1, e2⟩ := rt_inj h1 k1 (h2.trans k2.symm)
    exact ⟨e1, e2, rfl⟩
  · exact absurd h2 (k3 _ _ h1)
  · exact absurd k2 (h3 _ _ k1)
  · exact ⟨rfl, rfl, rfl⟩
/-- What the program reads. -/
theorem RF.bad {s : List UInt8} (h : (∀ v, Lib.atoiAll (cutP s).1 ≠ .ok v) ∨ (∀ v, Lib.atoiAll (cutP s).2 ≠ .ok v)) : RF s 0 0 false := by
  refine .inr ⟨rfl, rfl, rfl, fun x y hv e => ?_⟩
  subst e
  rw [cutP_rt hv] at h
  obtain ⟨b1, b2, b3, b4, _⟩ := (ratB_iff x y).1 hv
  rcases h with h | h
  · exact h x (atoi_itoa x (by omega))
  · exact h y (atoi_itoa y (by omega))
theorem RF.good {s : List UInt8} {n d : Int} (h1 : Lib.atoiAll (cutP s).1 = .ok n) (h2 : Lib.atoiAll (cutP s).2 = .ok d) :
    (rtX n d = s → RF s n d true) ∧ (rtX n d ≠ s → RF s 0 0 false) := by
  constructor
  · intro e
    refine .inl ⟨rfl, ?_, e⟩
    cases hv : ratB n d with
    | true => rfl
    | false =>
      have : rtX n d = [] := by unfold rtX; rw [if_neg (by simp [hv])]
      rw [← e, this, cutP_none [] (by simp)] at h1
      have h2 : Lib.atoiAll [] = .ok n := h1
      simp [Lib.atoiAll] at h2
  · intro e
    refine .inr ⟨rfl, rfl, rfl, fun x y hv e2 => e ?_⟩
    subst e2
    rw [cutP_rt hv] at h1 h2
    obtain ⟨b1, b2, b3, b4, _⟩ := (ratB_iff x y).1 hv
    rw [atoi_itoa x (by omega)] at h1
    rw [atoi_itoa y (by omega)] at h2
    injection h1 with h1
    injection h2 with h2
    rw [h1, h2]
end Go.Proofs.YtkmakknjackdiaaDoor
