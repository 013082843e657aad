/-
  Rational numbers in lowest terms: plain mathematics.
-/
import Derived.Test.YtkmakknjackdiaaDoorBase
namespace Go.Proofs.YtkmakknjackdiaaDoor
set_option linter.unusedSimpArgs false
set_option linter.unusedVariables false

/-- What 'RatValid' answers. -/
def ratB (n d : Int) : Bool :=
  decide (1 ≤ d) && decide (d ≤ 1000000000) && decide (-1000000000 ≤ n) && decide (n ≤ 1000000000) && (Int.gcd n d == 1)

theorem ratB_iff (n d : Int) : ratB n d = true ↔ 1 ≤ d ∧ d ≤ 1000000000 ∧ -1000000000 ≤ n ∧ n ≤ 1000000000 ∧ Int.gcd n d = 1 := by
  unfold ratB
  simp only [Bool.and_eq_true, decide_eq_true_eq, beq_iff_eq]
  exact ⟨fun ⟨⟨⟨⟨a, b⟩, c⟩, d⟩, e⟩ => ⟨a, b, c, d, e⟩, fun ⟨a, b, c, d, e⟩ => ⟨⟨⟨⟨a, b⟩, c⟩, d⟩, e⟩⟩

/-- The divisor by which both terms are divided: it bears the sign of the denominator. -/
def sg (num den : Int) : Int := if den < 0 then -(Int.gcd num den : Int) else (Int.gcd num den : Int)

/-- What is made of two terms, the second one not 0. -/
def mk (num den : Int) : Option (Int × Int) :=
  if ratB (num.tdiv (sg num den)) (den.tdiv (sg num den)) then some (num.tdiv (sg num den), den.tdiv (sg num den)) else none

theorem uniq {x y a b : Int} (hy : 1 ≤ y) (hb : 1 ≤ b) (h1 : Int.gcd x y = 1) (h2 : Int.gcd a b = 1) (h : x * b = a * y) : x = a ∧ y = b := by
  have d1 : y.natAbs ∣ b.natAbs := by
    have : y.natAbs ∣ x.natAbs * b.natAbs := by
      rw [← Int.natAbs_mul, h, Int.natAbs_mul]; exact Nat.dvd_mul_left _ _
    exact Nat.Coprime.dvd_of_dvd_mul_left (by rw [Nat.coprime_comm]; exact h1) this
  have d2 : b.natAbs ∣ y.natAbs := by
    have : b.natAbs ∣ a.natAbs * y.natAbs := by
      rw [← Int.natAbs_mul, ← h, Int.natAbs_mul]; exact Nat.dvd_mul_left _ _
    exact Nat.Coprime.dvd_of_dvd_mul_left (by rw [Nat.coprime_comm]; exact h2) this
  have e : y = b := by
    have := Nat.dvd_antisymm d1 d2
    omega
  subst e
  exact ⟨Int.eq_of_mul_eq_mul_right (by omega) h, rfl⟩

theorem sg_facts (num den : Int) (hd : den ≠ 0) :
    num.tdiv (sg num den) * sg num den = num ∧ den.tdiv (sg num den) * sg num den = den ∧ 1 ≤ den.tdiv (sg num den) ∧
    Int.gcd (num.tdiv (sg num den)) (den.tdiv (sg num den)) = 1 ∧ sg num den ≠ 0 := by
  have g0 : 0 < Int.gcd num den := Int.gcd_pos_of_ne_zero_right _ hd
  have hs : sg num den ≠ 0 := by unfold sg; split <;> omega
  have hn : sg num den ∣ num := by
    unfold sg; split
    · exact Int.neg_dvd.2 (Int.gcd_dvd_left ..)
    · exact Int.gcd_dvd_left ..
  have hdd : sg num den ∣ den := by
    unfold sg; split
    · exact Int.neg_dvd.2 (Int.gcd_dvd_right ..)
    · exact Int.gcd_dvd_right ..
  have e1 := Int.tdiv_mul_cancel hn
  have e2 := Int.tdiv_mul_cancel hdd
  have hpos : 1 ≤ den.tdiv (sg num den) := by
    generalize hq : den.tdiv (sg num den) = q at *
    by_cases hlt : den < 0
    · have : sg num den < 0 := by unfold sg; rw [if_pos hlt]; omega
      have : 0 < q := by
        rcases Int.lt_or_le 0 q with h | h
        · exact h
        · have := Int.mul_nonneg_of_nonpos_of_nonpos h (by omega : sg num den ≤ 0); omega
      omega
    · have : 0 < sg num den := by unfold sg; rw [if_neg hlt]; omega
      have : 0 < q := by
        rcases Int.lt_or_le 0 q with h | h
        · exact h
        · have := Int.mul_nonpos_of_nonpos_of_nonneg h (by omega : 0 ≤ sg num den); omega
      omega
  refine ⟨e1, e2, hpos, ?_, hs⟩
  have habs : (sg num den).natAbs = Int.gcd num den := by unfold sg; split <;> omega
  have hn1 : (num.tdiv (sg num den)).natAbs * Int.gcd num den = num.natAbs := by rw [← habs, ← Int.natAbs_mul, e1]
  have hn2 : (den.tdiv (sg num den)).natAbs * Int.gcd num den = den.natAbs := by rw [← habs, ← Int.natAbs_mul, e2]
  have : Int.gcd (num.tdiv (sg num den)) (den.tdiv (sg num den)) * Int.gcd num den = Int.gcd num den := by
    conv => rhs; unfold Int.gcd
    rw [← hn1, ← hn2, Nat.gcd_mul_right]
    rfl
  exact Nat.eq_of_mul_eq_mul_right g0 (by omega)

theorem mk_iff {num den x y : Int} (hd : den ≠ 0) : mk num den = some (x, y) ↔ ratB x y = true ∧ x * den = num * y := by
  obtain ⟨e1, e2, hp, hg, hs⟩ := sg_facts num den hd
  unfold mk
  generalize num.tdiv (sg num den) = a at *
  generalize den.tdiv (sg num den) = b at *
  generalize sg num den = s at *
  subst e1 e2
  constructor
  · intro h
    split at h
    · next hb => injection h with h; injection h with h1 h2; subst h1 h2; exact ⟨hb, by grind⟩
    · cases h
  · rintro ⟨hv, h⟩
    obtain ⟨h1, h2, h3, h4, h5⟩ := (ratB_iff x y).1 hv
    have h' : x * b = a * y := Int.eq_of_mul_eq_mul_right hs (by grind)
    obtain ⟨rfl, rfl⟩ := uniq h1 hp h5 hg h'
    rw [if_pos hv]

theorem mk_valid {num den x y : Int} (hd : den ≠ 0) (h : mk num den = some (x, y)) : ratB x y = true := ((mk_iff hd).1 h).1
theorem mk_eq {num den x y : Int} (hd : den ≠ 0) (h : mk num den = some (x, y)) : x * den = num * y := ((mk_iff hd).1 h).2
theorem mk_of {num den x y : Int} (hd : den ≠ 0) (hv : ratB x y = true) (h : x * den = num * y) : mk num den = some (x, y) := (mk_iff hd).2 ⟨hv, h⟩

def ofR (num den : Int) : Option (Int × Int) :=
  if den ≠ 0 ∧ -4000000000000000000 ≤ num ∧ num ≤ 4000000000000000000 ∧ -4000000000000000000 ≤ den ∧ den ≤ 4000000000000000000 then mk num den else none
def addR (an ad bn bd : Int) : Option (Int × Int) := if ratB an ad = true ∧ ratB bn bd = true then mk (an * bd + bn * ad) (ad * bd) else none
def subR (an ad bn bd : Int) : Option (Int × Int) := if ratB an ad = true ∧ ratB bn bd = true then mk (an * bd - bn * ad) (ad * bd) else none
def mulR (an ad bn bd : Int) : Option (Int × Int) := if ratB an ad = true ∧ ratB bn bd = true then mk (an * bn) (ad * bd) else none
def divR (an ad bn bd : Int) : Option (Int × Int) := if ratB an ad = true ∧ ratB bn bd = true ∧ bn ≠ 0 then mk (an * bd) (ad * bn) else none
def lessB (an ad bn bd : Int) : Bool := ratB an ad && (ratB bn bd && decide (an * bd < bn * ad))

theorem some_of_ite {c : Prop} [Decidable c] {α : Type} {a : Option α} {o : α} (h : (if c then a else none) = some o) : c ∧ a = some o := by
  split at h
  · exact ⟨‹_›, h⟩
  · cases h

theorem ratB_den {n d : Int} (h : ratB n d = true) : 1 ≤ d := ((ratB_iff n d).1 h).1
theorem mul_ne {a b : Int} (ha : 1 ≤ a) (hb : 1 ≤ b) : a * b ≠ 0 := Int.mul_ne_zero (by omega) (by omega)

theorem ratB_neg {n d : Int} (h : ratB n d = true) : ratB (-n) d = true := by
  obtain ⟨h1, h2, h3, h4, h5⟩ := (ratB_iff _ _).1 h
  exact (ratB_iff _ _).2 ⟨h1, h2, by omega, by omega, by rw [Int.neg_gcd]; exact h5⟩
theorem ratB_neg_iff (n d : Int) : ratB (-n) d = ratB n d := by
  rw [Bool.eq_iff_iff]
  exact ⟨fun h => by simpa using ratB_neg h, ratB_neg⟩

theorem add_some {an ad bn bd x y : Int} (h : addR an ad bn bd = some (x, y)) : ratB an ad = true ∧ ratB bn bd = true ∧ ratB x y = true ∧ x * (ad * bd) = (an * bd + bn * ad) * y := by
  obtain ⟨⟨h1, h2⟩, h3⟩ := some_of_ite h
  obtain ⟨h4, h5⟩ := (mk_iff (mul_ne (ratB_den h1) (ratB_den h2))).1 h3
  exact ⟨h1, h2, h4, h5⟩
theorem add_of {an ad bn bd x y : Int} (h1 : ratB an ad = true) (h2 : ratB bn bd = true) (h3 : ratB x y = true) (h : x * (ad * bd) = (an * bd + bn * ad) * y) : addR an ad bn bd = some (x, y) := by
  unfold addR; rw [if_pos ⟨h1, h2⟩]; exact mk_of (mul_ne (ratB_den h1) (ratB_den h2)) h3 h
theorem sub_eq (an ad bn bd : Int) : subR an ad bn bd = addR an ad (-bn) bd := by
  unfold subR addR
  rw [ratB_neg_iff, show an * bd + -bn * ad = an * bd - bn * ad by grind]
theorem sub_some {an ad bn bd x y : Int} (h : subR an ad bn bd = some (x, y)) : ratB an ad = true ∧ ratB bn bd = true ∧ ratB x y = true ∧ x * (ad * bd) = (an * bd - bn * ad) * y := by
  obtain ⟨⟨h1, h2⟩, h3⟩ := some_of_ite h
  obtain ⟨h4, h5⟩ := (mk_iff (mul_ne (ratB_den h1) (ratB_den h2))).1 h3
  exact ⟨h1, h2, h4, h5⟩
theorem sub_of {an ad bn bd x y : Int} (h1 : ratB an ad = true) (h2 : ratB bn bd = true) (h3 : ratB x y = true) (h : x * (ad * bd) = (an * bd - bn * ad) * y) : subR an ad bn bd = some (x, y) := by
  unfold subR; rw [if_pos ⟨h1, h2⟩]; exact mk_of (mul_ne (ratB_den h1) (ratB_den h2)) h3 h
theorem mul_some {an ad bn bd x y : Int} (h : mulR an ad bn bd = some (x, y)) : ratB an ad = true ∧ ratB bn bd = true ∧ ratB x y = true ∧ x * (ad * bd) = (an * bn) * y := by
  obtain ⟨⟨h1, h2⟩, h3⟩ := some_of_ite h
  obtain ⟨h4, h5⟩ := (mk_iff (mul_ne (ratB_den h1) (ratB_den h2))).1 h3
  exact ⟨h1, h2, h4, h5⟩
theorem mul_of {an ad bn bd x y : Int} (h1 : ratB an ad = true) (h2 : ratB bn bd = true) (h3 : ratB x y = true) (h : x * (ad * bd) = (an * bn) * y) : mulR an ad bn bd = some (x, y) := by
  unfold mulR; rw [if_pos ⟨h1, h2⟩]; exact mk_of (mul_ne (ratB_den h1) (ratB_den h2)) h3 h
theorem div_some {an ad bn bd x y : Int} (h : divR an ad bn bd = some (x, y)) : ratB an ad = true ∧ ratB bn bd = true ∧ ratB x y = true ∧ bn ≠ 0 ∧ x * (ad * bn) = (an * bd) * y := by
  obtain ⟨⟨h1, h2, h0⟩, h3⟩ := some_of_ite h
  have := ratB_den h1
  obtain ⟨h4, h5⟩ := (mk_iff (Int.mul_ne_zero (by omega) h0)).1 h3
  exact ⟨h1, h2, h4, h0, h5⟩
theorem div_of {an ad bn bd x y : Int} (h1 : ratB an ad = true) (h2 : ratB bn bd = true) (h3 : ratB x y = true) (h0 : bn ≠ 0) (h : x * (ad * bn) = (an * bd) * y) : divR an ad bn bd = some (x, y) := by
  have := ratB_den h1
  unfold divR; rw [if_pos ⟨h1, h2, h0⟩]; exact mk_of (Int.mul_ne_zero (by omega) h0) h3 h
theorem div_zero (an ad bd : Int) : divR an ad 0 bd = none := by
  unfold divR; rw [if_neg (by simp)]
theorem less_iff (an ad bn bd : Int) : lessB an ad bn bd = true ↔ ratB an ad = true ∧ ratB bn bd = true ∧ an * bd < bn * ad := by
  unfold lessB; simp

/-- Two valid rationals of one value are one. -/
theorem same {x y a b : Int} (h1 : ratB x y = true) (h2 : ratB a b = true) (h : x * b = a * y) : x = a ∧ y = b :=
  uniq (ratB_den h1) (ratB_den h2) ((ratB_iff _ _).1 h1).2.2.2.2 ((ratB_iff _ _).1 h2).2.2.2.2 h

theorem cancel {k a b : Int} (hk : 1 ≤ k) (h : a * k = b * k) : a = b := Int.eq_of_mul_eq_mul_right (by omega) h
theorem cancel0 {k a b : Int} (hk : k ≠ 0) (h : a * k = b * k) : a = b := Int.eq_of_mul_eq_mul_right hk h

/-! the laws -/
theorem add_swap (an ad bn bd : Int) : addR bn bd an ad = addR an ad bn bd := by
  unfold addR
  rw [show bn * ad + an * bd = an * bd + bn * ad by grind, show bd * ad = ad * bd by grind]
  by_cases h1 : ratB an ad = true <;> by_cases h2 : ratB bn bd = true <;> simp [h1, h2]
theorem mul_swap (an ad bn bd : Int) : mulR bn bd an ad = mulR an ad bn bd := by
  unfold mulR
  rw [show bn * an = an * bn by grind, show bd * ad = ad * bd by grind]
  by_cases h1 : ratB an ad = true <;> by_cases h2 : ratB bn bd = true <;> simp [h1, h2]
theorem add_sub {an ad bn bd x y : Int} (h : addR an ad bn bd = some (x, y)) : subR x y bn bd = some (an, ad) := by
  obtain ⟨h1, h2, h3, h4⟩ := add_some h
  exact sub_of h3 h2 h1 (by grind)
theorem add_three {an ad bn bd cn cd x y p q u v r s : Int} (h : addR an ad bn bd = some (x, y)) (hp : addR x y cn cd = some (p, q)) (hq : addR bn bd cn cd = some (u, v)) (hr : addR an ad u v = some (r, s)) : p = r ∧ q = s := by
  obtain ⟨h1, h2, h3, h4⟩ := add_some h
  obtain ⟨_, k2, k3, k4⟩ := add_some hp
  obtain ⟨_, _, m3, m4⟩ := add_some hq
  obtain ⟨_, _, n3, n4⟩ := add_some hr
  have := ratB_den h1; have := ratB_den h2; have := ratB_den k2; have := ratB_den h3; have := ratB_den m3
  refine same k3 n3 ?_
  have K : 1 ≤ ad * bd * cd * y * v := by
    have a1 : 0 < ad * bd := Int.mul_pos (by omega) (by omega)
    have a2 : 0 < ad * bd * cd := Int.mul_pos (by omega) (by omega)
    have a3 : 0 < ad * bd * cd * y := Int.mul_pos (by omega) (by omega)
    have a4 : 0 < ad * bd * cd * y * v := Int.mul_pos (by omega) (by omega)
    omega
  exact cancel K (by grind)
theorem sub_zero {an ad bn bd x y : Int} (h : subR an ad bn bd = some (x, y)) : x = 0 ↔ (an = bn ∧ ad = bd) := by
  obtain ⟨h1, h2, h3, h4⟩ := sub_some h
  have := ratB_den h1; have := ratB_den h2; have := ratB_den h3
  constructor
  · rintro rfl
    refine same h1 h2 ?_
    have : an * bd - bn * ad = 0 := by
      refine cancel (k := y) (by omega) ?_
      grind
    omega
  · rintro ⟨rfl, rfl⟩
    refine cancel (k := ad * ad) ?_ ?_
    · have := Int.mul_pos (a := ad) (b := ad) (by omega) (by omega); omega
    · grind
theorem mul_zero {an ad bn bd x y : Int} (h : mulR an ad bn bd = some (x, y)) : x = 0 ↔ (an = 0 ∨ bn = 0) := by
  obtain ⟨h1, h2, h3, h4⟩ := mul_some h
  have := ratB_den h1; have := ratB_den h2; have := ratB_den h3
  constructor
  · rintro rfl
    have : an * bn = 0 := by
      refine cancel (k := y) (by omega) ?_
      grind
    exact Int.mul_eq_zero.1 this
  · intro h0
    have e : an * bn = 0 := Int.mul_eq_zero.2 h0
    rw [e, Int.zero_mul] at h4
    rcases Int.mul_eq_zero.1 h4 with h | h
    · exact h
    · exact absurd h (mul_ne (by omega) (by omega))
theorem mul_div {an ad bn bd x y : Int} (h : mulR an ad bn bd = some (x, y)) (h0 : bn ≠ 0) : divR x y bn bd = some (an, ad) := by
  obtain ⟨h1, h2, h3, h4⟩ := mul_some h
  exact div_of h3 h2 h1 h0 (by grind)
theorem mul_over {an ad bn bd cn cd x y sn sd p q u v z t : Int} (h : mulR an ad bn bd = some (x, y)) (hs : addR bn bd cn cd = some (sn, sd)) (hx : mulR an ad sn sd = some (p, q)) (hy : mulR an ad cn cd = some (u, v)) (hz : addR x y u v = some (z, t)) : p = z ∧ q = t := by
  obtain ⟨h1, h2, h3, h4⟩ := mul_some h
  obtain ⟨_, k2, k3, k4⟩ := add_some hs
  obtain ⟨_, _, m3, m4⟩ := mul_some hx
  obtain ⟨_, _, n3, n4⟩ := mul_some hy
  obtain ⟨_, _, o3, o4⟩ := add_some hz
  have := ratB_den h1; have := ratB_den h2; have := ratB_den k2; have := ratB_den h3; have := ratB_den n3; have := ratB_den k3
  refine same m3 o3 ?_
  have K : 1 ≤ ad * bd * cd * ad * sd * y * v := by
    have a1 : 0 < ad * bd := Int.mul_pos (by omega) (by omega)
    have a2 : 0 < ad * bd * cd := Int.mul_pos (by omega) (by omega)
    have a3 : 0 < ad * bd * cd * ad := Int.mul_pos (by omega) (by omega)
    have a4 : 0 < ad * bd * cd * ad * sd := Int.mul_pos (by omega) (by omega)
    have a5 : 0 < ad * bd * cd * ad * sd * y := Int.mul_pos (by omega) (by omega)
    have a6 : 0 < ad * bd * cd * ad * sd * y * v := Int.mul_pos (by omega) (by omega)
    omega
  exact cancel K (by grind)
theorem div_mul {an ad bn bd x y : Int} (h : divR an ad bn bd = some (x, y)) : mulR x y bn bd = some (an, ad) := by
  obtain ⟨h1, h2, h3, h0, h4⟩ := div_some h
  exact mul_of h3 h2 h1 (by grind)
theorem div_one {an ad bn bd x y : Int} (h : divR an ad bn bd = some (x, y)) : (x = 1 ∧ y = 1) ↔ (an = bn ∧ ad = bd) := by
  obtain ⟨h1, h2, h3, h0, h4⟩ := div_some h
  have := ratB_den h1; have := ratB_den h2; have := ratB_den h3
  constructor
  · rintro ⟨rfl, rfl⟩
    exact same h1 h2 (by grind)
  · rintro ⟨rfl, rfl⟩
    refine same h3 (by decide) ?_
    exact cancel0 (k := ad * an) (Int.mul_ne_zero (by omega) h0) (by grind)
theorem div_self {an ad bn bd x y : Int} (h : divR an ad bn bd = some (x, y)) : divR bn bd bn bd = some (1, 1) := by
  obtain ⟨h1, h2, h3, h0, h4⟩ := div_some h
  exact div_of h2 h2 (by decide) h0 (by grind)
theorem less_not {an ad bn bd : Int} (h : lessB an ad bn bd = true) : lessB bn bd an ad = false := by
  obtain ⟨h1, h2, h3⟩ := (less_iff ..).1 h
  rw [Bool.eq_false_iff]
  intro h'
  obtain ⟨_, _, h6⟩ := (less_iff ..).1 h'
  omega
theorem less_irr (an ad : Int) : lessB an ad an ad = false := by
  rw [Bool.eq_false_iff]
  intro h'
  obtain ⟨_, _, h6⟩ := (less_iff ..).1 h'
  omega
theorem pos_of {a k b l : Int} (hk : 1 ≤ k) (hl : 1 ≤ l) (h : a * k = b * l) : 0 < a ↔ 0 < b := by
  constructor
  · intro ha
    have := Int.mul_pos ha (by omega : 0 < k)
    rcases Int.lt_or_le 0 b with hb | hb
    · exact hb
    · have := Int.mul_nonpos_of_nonpos_of_nonneg hb (by omega : 0 ≤ l); omega
  · intro ha
    have := Int.mul_pos ha (by omega : 0 < l)
    rcases Int.lt_or_le 0 a with hb | hb
    · exact hb
    · have := Int.mul_nonpos_of_nonpos_of_nonneg hb (by omega : 0 ≤ k); omega
theorem mul_le1 {a b : Int} (ha : 1 ≤ a) (hb : 1 ≤ b) : 1 ≤ a * b := by
  have := Int.mul_pos (a := a) (b := b) (by omega) (by omega); omega
theorem less_sub {an ad bn bd x y : Int} (h : lessB an ad bn bd = true) (hs : subR bn bd an ad = some (x, y)) : 0 < x := by
  obtain ⟨h1, h2, h3⟩ := (less_iff ..).1 h
  obtain ⟨_, _, k3, k4⟩ := sub_some hs
  exact (pos_of (mul_le1 (ratB_den h2) (ratB_den h1)) (ratB_den k3) k4).2 (by omega)
theorem less_one {an ad bn bd x y : Int} (h : addR an ad bn bd = some (x, y)) : lessB an ad x y = decide (0 < bn) ∧ lessB x y an ad = decide (bn < 0) := by
  obtain ⟨h1, h2, h3, h4⟩ := add_some h
  have := ratB_den h1; have := ratB_den h2; have := ratB_den h3
  constructor
  · rw [Bool.eq_iff_iff, less_iff, decide_eq_true_eq]
    have e : (x * ad - an * y) * (bd * 1) = bn * (ad * y) := by grind
    have := pos_of (mul_le1 (by omega : 1 ≤ bd) (by omega : (1 : Int) ≤ 1)) (mul_le1 (by omega : 1 ≤ ad) (by omega : 1 ≤ y)) e
    constructor
    · rintro ⟨_, _, h⟩; exact this.1 (by omega)
    · intro h; exact ⟨h1, h3, by have := this.2 h; omega⟩
  · rw [Bool.eq_iff_iff, less_iff, decide_eq_true_eq]
    have e : (an * y - x * ad) * (bd * 1) = (-bn) * (ad * y) := by grind
    have := pos_of (mul_le1 (by omega : 1 ≤ bd) (by omega : (1 : Int) ≤ 1)) (mul_le1 (by omega : 1 ≤ ad) (by omega : 1 ≤ y)) e
    constructor
    · rintro ⟨_, _, h⟩; have := this.1 (by omega); omega
    · intro h; exact ⟨h3, h1, by have := this.2 (by omega); omega⟩
theorem less_more {an ad bn bd cn cd : Int} (h : lessB an ad bn bd = true) (k : lessB bn bd cn cd = true) : lessB an ad cn cd = true := by
  obtain ⟨h1, h2, h3⟩ := (less_iff ..).1 h
  obtain ⟨_, k2, k3⟩ := (less_iff ..).1 k
  have := ratB_den h1; have := ratB_den h2; have := ratB_den k2
  refine (less_iff ..).2 ⟨h1, k2, ?_⟩
  have a1 := Int.mul_lt_mul_of_pos_right h3 (by omega : 0 < cd)
  have a2 := Int.mul_lt_mul_of_pos_right k3 (by omega : 0 < ad)
  have a3 : (an * cd) * bd < (cn * ad) * bd := by grind
  exact Int.lt_of_mul_lt_mul_right a3 (by omega)
theorem of_some {num den x y : Int} (h : ofR num den = some (x, y)) : den ≠ 0 ∧ (-4000000000000000000 ≤ num ∧ num ≤ 4000000000000000000 ∧ -4000000000000000000 ≤ den ∧ den ≤ 4000000000000000000) ∧ ratB x y = true ∧ x * den = num * y := by
  obtain ⟨⟨h0, hb⟩, h3⟩ := some_of_ite h
  obtain ⟨h4, h5⟩ := (mk_iff h0).1 h3
  exact ⟨h0, hb, h4, h5⟩
theorem of_of {num den x y : Int} (h0 : den ≠ 0) (hb : -4000000000000000000 ≤ num ∧ num ≤ 4000000000000000000 ∧ -4000000000000000000 ≤ den ∧ den ≤ 4000000000000000000) (hv : ratB x y = true) (h : x * den = num * y) : ofR num den = some (x, y) := by
  unfold ofR; rw [if_pos ⟨h0, hb⟩]; exact mk_of h0 hv h
theorem of_times {num den x y k : Int} (h : ofR num den = some (x, y)) (hn : -1000000 ≤ num ∧ num ≤ 1000000) (hd : -1000000 ≤ den ∧ den ≤ 1000000) (hk : 2 ≤ k ∧ k ≤ 11) : ofR (num * k) (den * k) = some (x, y) := by
  obtain ⟨h0, _, h3, h4⟩ := of_some h
  have b1 : num * k ≤ 1000000 * 11 ∧ -(1000000 * 11) ≤ num * k := by
    obtain ⟨k2, k3⟩ := hk
    have : k = 2 ∨ k = 3 ∨ k = 4 ∨ k = 5 ∨ k = 6 ∨ k = 7 ∨ k = 8 ∨ k = 9 ∨ k = 10 ∨ k = 11 := by omega
    rcases this with rfl | rfl | rfl | rfl | rfl | rfl | rfl | rfl | rfl | rfl <;> omega
  have b2 : den * k ≤ 1000000 * 11 ∧ -(1000000 * 11) ≤ den * k := by
    obtain ⟨k2, k3⟩ := hk
    have : k = 2 ∨ k = 3 ∨ k = 4 ∨ k = 5 ∨ k = 6 ∨ k = 7 ∨ k = 8 ∨ k = 9 ∨ k = 10 ∨ k = 11 := by omega
    rcases this with rfl | rfl | rfl | rfl | rfl | rfl | rfl | rfl | rfl | rfl <;> omega
  exact of_of (Int.mul_ne_zero h0 (by omega)) ⟨by omega, by omega, by omega, by omega⟩ h3 (by grind)
theorem of_neg {num den x y : Int} (h : ofR num den = some (x, y)) : ofR (-num) (-den) = some (x, y) := by
  obtain ⟨h0, hb, h3, h4⟩ := of_some h
  exact of_of (by omega) ⟨by omega, by omega, by omega, by omega⟩ h3 (by grind)
theorem of_self {n d : Int} (h : ratB n d = true) : ofR n d = some (n, d) := by
  obtain ⟨h1, h2, h3, h4, h5⟩ := (ratB_iff n d).1 h
  exact of_of (by omega) ⟨by omega, by omega, by omega, by omega⟩ h rfl
theorem rat_neg_den {n d : Int} (h : ratB n d = true) : ratB n (-d) = false := by
  have := ratB_den h
  rw [Bool.eq_false_iff]; intro h'; have := ratB_den h'; omega
theorem rat_zero {n d : Int} (h : ratB n d = true) (h0 : n = 0) : d = 1 := by
  subst h0
  obtain ⟨h1, h2, h3, h4, h5⟩ := (ratB_iff _ _).1 h
  rw [Int.zero_gcd] at h5; omega
end Go.Proofs.YtkmakknjackdiaaDoor
