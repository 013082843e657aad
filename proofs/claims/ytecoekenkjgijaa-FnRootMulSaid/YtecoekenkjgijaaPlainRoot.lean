/-
  Plain mathematics of roots: a sign times the root of a rational.
-/
import Derived.Test.YtecoekenkjgijaaPlainRat
namespace Go.Proofs.Ytecoekenkjgijaa

def rootB (s n d : Int) : Bool := decide (-1 ≤ s) && (decide (s ≤ 1) && (ratB n d && (decide (0 ≤ n) && ((n == 0) == (s == 0)))))
theorem rootB_iff (s n d : Int) : rootB s n d = true ↔ (-1 ≤ s ∧ s ≤ 1) ∧ ratB n d = true ∧ 0 ≤ n ∧ (n = 0 ↔ s = 0) := by
  unfold rootB
  simp only [Bool.and_eq_true, decide_eq_true_eq, beq_iff_eq]
  constructor
  · rintro ⟨h1, h2, h3, h4, h5⟩
    refine ⟨⟨h1, h2⟩, h3, h4, ?_⟩
    by_cases a : n = 0 <;> by_cases b : s = 0 <;> simp_all
  · rintro ⟨⟨h1, h2⟩, h3, h4, h5⟩
    refine ⟨h1, h2, h3, h4, ?_⟩
    by_cases a : n = 0
    · have b := h5.1 a
      simp [a, b]
    · have b : ¬ s = 0 := fun b => a (h5.2 b)
      have e1 : (n == 0) = false := by simpa using a
      have e2 : (s == 0) = false := by simpa using b
      rw [e1, e2]
theorem rootB_false {s n d : Int} (h : ¬ ((-1 ≤ s ∧ s ≤ 1) ∧ ratB n d = true ∧ 0 ≤ n ∧ (n = 0 ↔ s = 0))) : rootB s n d = false := by
  rw [Bool.eq_false_iff]; exact fun h' => h ((rootB_iff s n d).1 h')
theorem rootB_cases {s n d : Int} (h : rootB s n d = true) : ratB n d = true ∧ ((s = 0 ∧ n = 0 ∧ d = 1) ∨ (s = 1 ∧ 0 < n) ∨ (s = -1 ∧ 0 < n)) := by
  obtain ⟨⟨h1, h2⟩, h3, h4, h5⟩ := (rootB_iff s n d).1 h
  refine ⟨h3, ?_⟩
  by_cases hs : s = 0
  · exact .inl ⟨hs, h5.2 hs, rat_zero h3 (h5.2 hs)⟩
  · have : n ≠ 0 := fun e => hs (h5.1 e)
    omega

def negO (s n d : Int) : Option (Int × Int × Int) := if rootB s n d = true then some (-s, n, d) else none
def mulO (s n d s' n' d' : Int) : Option (Int × Int × Int) :=
  if rootB s n d = true ∧ rootB s' n' d' = true then (match mulR n d n' d' with | some (x, y) => some (s * s', x, y) | none => none) else none
def sgn (n : Int) : Int := if n < 0 then -1 else if 0 < n then 1 else 0
def rootR (n num den : Int) : Option (Int × Int × Int) :=
  if (-1000000000 ≤ n ∧ n ≤ 1000000000) ∧ (1 ≤ num ∧ num ≤ 4000000000000000000) ∧ (1 ≤ den ∧ den ≤ 4000000000000000000) ∧ (n = 0 ∨ num ≤ 4000000000000000000 / (n * n)) then (match ofR (n * n * num) den with | some (x, y) => some (sgn n, x, y) | none => none) else none

theorem neg_valid {s n d : Int} (h : rootB s n d = true) : rootB (-s) n d = true := by
  obtain ⟨⟨h1, h2⟩, h3, h4, h5⟩ := (rootB_iff s n d).1 h
  exact (rootB_iff _ _ _).2 ⟨⟨by omega, by omega⟩, h3, h4, by omega⟩
theorem negO_yes {s n d : Int} (h : rootB s n d = true) : negO s n d = some (-s, n, d) := if_pos h
theorem negO_no {s n d : Int} (h : rootB s n d = false) : negO s n d = none := if_neg (by rw [h]; simp)
theorem neg_neg {s n d : Int} (h : rootB s n d = true) : negO (-s) n d = some (s, n, d) := by rw [negO_yes (neg_valid h), Int.neg_neg]

theorem mulO_some {s n d s' n' d' t x y : Int} (h : mulO s n d s' n' d' = some (t, x, y)) : rootB s n d = true ∧ rootB s' n' d' = true ∧ mulR n d n' d' = some (x, y) ∧ t = s * s' := by
  unfold mulO at h
  split at h
  · rename_i hb
    split at h
    · rename_i a b he
      simp only [Option.some.injEq, Prod.mk.injEq] at h
      obtain ⟨h1, h2, h3⟩ := h
      subst h1 h2 h3
      exact ⟨hb.1, hb.2, he, rfl⟩
    · cases h
  · cases h
theorem mulO_swap (s n d s' n' d' : Int) : mulO s' n' d' s n d = mulO s n d s' n' d' := by
  unfold mulO
  rw [mul_swap, Int.mul_comm s' s]
  by_cases h1 : rootB s n d = true <;> by_cases h2 : rootB s' n' d' = true <;> simp [h1, h2]
theorem mulO_valid {s n d s' n' d' t x y : Int} (h : mulO s n d s' n' d' = some (t, x, y)) : rootB t x y = true := by
  obtain ⟨h1, h2, h3, rfl⟩ := mulO_some h
  obtain ⟨v1, v2, v3, v4⟩ := mul_some h3
  have hz := mul_zero h3
  obtain ⟨_, c1⟩ := rootB_cases h1
  obtain ⟨_, c2⟩ := rootB_cases h2
  have e1 := ratB_den v1
  have e2 := ratB_den v2
  have e3 := ratB_den v3
  have hp : 0 ≤ x := by
    have hn : 0 ≤ n := by omega
    have hn' : 0 ≤ n' := by omega
    have h0 : 0 ≤ n * n' * y := Int.mul_nonneg (Int.mul_nonneg hn hn') (by omega)
    rw [← v4] at h0
    have hk : 0 < d * d' := Int.mul_pos (by omega) (by omega)
    exact Int.nonneg_of_mul_nonneg_left h0 hk
  refine (rootB_iff _ _ _).2 ⟨?_, v3, hp, ?_⟩
  · rcases c1 with ⟨rfl, _⟩ | ⟨rfl, _⟩ | ⟨rfl, _⟩ <;> rcases c2 with ⟨rfl, _⟩ | ⟨rfl, _⟩ | ⟨rfl, _⟩ <;> omega
  · rw [hz]
    rcases c1 with ⟨rfl, _⟩ | ⟨rfl, _⟩ | ⟨rfl, _⟩ <;> rcases c2 with ⟨rfl, _⟩ | ⟨rfl, _⟩ | ⟨rfl, _⟩ <;> omega

theorem sgn_neg (n : Int) : sgn (-n) = -sgn n := by unfold sgn; split <;> split <;> first | omega | (split <;> omega)
theorem sgn_bd (n : Int) : -1 ≤ sgn n ∧ sgn n ≤ 1 := by unfold sgn; split <;> first | omega | (split <;> omega)
theorem sgn_zero (n : Int) : sgn n = 0 ↔ n = 0 := by unfold sgn; split <;> first | omega | (split <;> omega)
theorem sgn_pos (n : Int) : 0 < sgn n ↔ 0 < n := by unfold sgn; split <;> first | omega | (split <;> omega)
theorem sgn_lt (n : Int) : sgn n < 0 ↔ n < 0 := by unfold sgn; split <;> first | omega | (split <;> omega)
theorem sq_pos {n : Int} (h : n ≠ 0) : 0 < n * n := by
  rcases (by omega : n < 0 ∨ 0 < n) with h | h
  · exact Int.mul_pos_of_neg_of_neg h h
  · exact Int.mul_pos h h
theorem sq_le {n : Int} (h : -1000000000 ≤ n ∧ n ≤ 1000000000) : 0 ≤ n * n ∧ n * n ≤ 1000000000000000000 := by
  have h1 := Int.natAbs_mul_self (a := n)
  have h2 : n.natAbs * n.natAbs ≤ 1000000000 * 1000000000 := Nat.mul_le_mul (by omega) (by omega)
  omega
theorem sq_num {n num : Int} (hn : -1000000000 ≤ n ∧ n ≤ 1000000000) (h1 : 1 ≤ num) (h : n = 0 ∨ num ≤ 4000000000000000000 / (n * n)) : 0 ≤ n * n * num ∧ n * n * num ≤ 4000000000000000000 := by
  obtain ⟨s0, s1⟩ := sq_le hn
  refine ⟨Int.mul_nonneg s0 (by omega), ?_⟩
  rcases h with rfl | h
  · simp
  · by_cases h0 : n = 0
    · subst h0; simp
    · have hp := sq_pos h0
      calc n * n * num ≤ n * n * (4000000000000000000 / (n * n)) := Int.mul_le_mul_of_nonneg_left h (by omega)
        _ ≤ 4000000000000000000 := Int.mul_ediv_self_le (by omega)
theorem rootR_some {n num den t x y : Int} (h : rootR n num den = some (t, x, y)) :
    ((-1000000000 ≤ n ∧ n ≤ 1000000000) ∧ (1 ≤ num ∧ num ≤ 4000000000000000000) ∧ (1 ≤ den ∧ den ≤ 4000000000000000000) ∧ (n = 0 ∨ num ≤ 4000000000000000000 / (n * n))) ∧ ofR (n * n * num) den = some (x, y) ∧ t = sgn n := by
  unfold rootR at h
  split at h
  · rename_i hb
    split at h
    · rename_i a b he
      simp only [Option.some.injEq, Prod.mk.injEq] at h
      obtain ⟨h1, h2, h3⟩ := h
      subst h1 h2 h3
      exact ⟨hb, he, rfl⟩
    · cases h
  · cases h
theorem rootR_valid {n num den t x y : Int} (h : rootR n num den = some (t, x, y)) : rootB t x y = true := by
  obtain ⟨⟨b1, b2, b3, b4⟩, ho, rfl⟩ := rootR_some h
  obtain ⟨h0, _, hv, he⟩ := of_some ho
  have hy := ratB_den hv
  have sb := sgn_bd n
  refine (rootB_iff _ _ _).2 ⟨sb, hv, ?_, ?_⟩
  · have h1 : 0 ≤ n * n * num * y := Int.mul_nonneg (sq_num b1 b2.1 b4).1 (by omega)
    rw [← he] at h1
    exact Int.nonneg_of_mul_nonneg_left h1 (by omega)
  · rw [sgn_zero]
    constructor
    · intro hx
      rw [hx, Int.zero_mul] at he
      by_cases hn : n = 0
      · exact hn
      · have := Int.mul_pos (Int.mul_pos (sq_pos hn) (by omega : 0 < num)) (by omega : 0 < y)
        omega
    · intro hn
      rw [hn] at he
      simp only [Int.zero_mul] at he
      rcases Int.mul_eq_zero.1 he with h | h
      · exact h
      · omega
theorem rootR_neg {n num den t x y : Int} (h : rootR n num den = some (t, x, y)) : rootR (-n) num den = some (-t, x, y) := by
  obtain ⟨⟨b1, b2, b3, b4⟩, ho, rfl⟩ := rootR_some h
  have e : -n * -n = n * n := Int.neg_mul_neg n n
  unfold rootR
  rw [e, sgn_neg, ho, if_pos ⟨⟨by omega, by omega⟩, b2, b3, b4.elim (fun b => .inl (by omega)) .inr⟩]
theorem rootR_no {n num den : Int} (h : ¬ ((-1000000000 ≤ n ∧ n ≤ 1000000000) ∧ (1 ≤ num ∧ num ≤ 4000000000000000000) ∧ (1 ≤ den ∧ den ≤ 4000000000000000000) ∧ (n = 0 ∨ num ≤ 4000000000000000000 / (n * n)))) : rootR n num den = none := by unfold rootR; rw [if_neg h]
theorem rootR_yes {n num den : Int} (h : (-1000000000 ≤ n ∧ n ≤ 1000000000) ∧ (1 ≤ num ∧ num ≤ 4000000000000000000) ∧ (1 ≤ den ∧ den ≤ 4000000000000000000) ∧ (n = 0 ∨ num ≤ 4000000000000000000 / (n * n))) :
    rootR n num den = (match ofR (n * n * num) den with | some (x, y) => some (sgn n, x, y) | none => none) := by unfold rootR; rw [if_pos h]
theorem mulO_no {s n d s' n' d' : Int} (h : ¬ (rootB s n d = true ∧ rootB s' n' d' = true)) : mulO s n d s' n' d' = none := by unfold mulO; rw [if_neg h]
theorem mulO_yes {s n d s' n' d' : Int} (h1 : rootB s n d = true) (h2 : rootB s' n' d' = true) : mulO s n d s' n' d' = (match mulR n d n' d' with | some (x, y) => some (s * s', x, y) | none => none) := by unfold mulO; rw [if_pos ⟨h1, h2⟩]
theorem sign_prod {s n d s' n' d' : Int} (h1 : rootB s n d = true) (h2 : rootB s' n' d' = true) : -1 ≤ s * s' ∧ s * s' ≤ 1 := by
  obtain ⟨_, c1⟩ := rootB_cases h1
  obtain ⟨_, c2⟩ := rootB_cases h2
  rcases c1 with ⟨rfl, _⟩ | ⟨rfl, _⟩ | ⟨rfl, _⟩ <;> rcases c2 with ⟨rfl, _⟩ | ⟨rfl, _⟩ | ⟨rfl, _⟩ <;> omega
end Go.Proofs.Ytecoekenkjgijaa
