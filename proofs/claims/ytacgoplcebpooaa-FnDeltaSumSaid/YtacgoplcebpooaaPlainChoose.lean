/-
  Binomial coefficients and factorials: plain mathematics.
-/
import Derived.Test.YtacgoplcebpooaaSpin
namespace Go.Proofs.Ytacgoplcebpooaa
set_option linter.unusedSimpArgs false
set_option linter.unusedVariables false

/-- Pascal's triangle. -/
def ch : Nat → Nat → Nat
  | _, 0 => 1
  | 0, _ + 1 => 0
  | n + 1, k + 1 => ch n k + ch n (k + 1)

theorem ch_zero (n : Nat) : ch n 0 = 1 := by cases n <;> rfl
theorem ch_succ (n k : Nat) : ch (n + 1) (k + 1) = ch n k + ch n (k + 1) := rfl
theorem ch_over : ∀ n k, n < k → ch n k = 0
  | 0, _ + 1, _ => rfl
  | n + 1, k + 1, h => by rw [ch_succ, ch_over n k (by omega), ch_over n (k + 1) (by omega)]
theorem ch_self : ∀ n, ch n n = 1
  | 0 => rfl
  | n + 1 => by rw [ch_succ, ch_self n, ch_over n (n + 1) (by omega)]
theorem ch_pos : ∀ n k, k ≤ n → 0 < ch n k
  | n, 0, _ => by rw [ch_zero]; omega
  | n + 1, k + 1, h => by have := ch_pos n k (by omega); rw [ch_succ]; omega
theorem ch_le : ∀ n k, ch n k ≤ 2 ^ n
  | n, 0 => by rw [ch_zero]; exact Nat.one_le_two_pow
  | 0, k + 1 => by simp [ch]
  | n + 1, k + 1 => by have := ch_le n k; have := ch_le n (k + 1); rw [ch_succ, Nat.pow_succ]; omega
theorem ch_next : ∀ n k, (k + 1) * ch n (k + 1) = (n - k) * ch n k
  | 0, k => by simp [ch]
  | n + 1, 0 => by
    have := ch_next n 0
    simp only [ch_zero, ch_succ, Nat.zero_add] at *
    omega
  | n + 1, k + 1 => by
    have h1 := ch_next n k
    have h2 := ch_next n (k + 1)
    rw [ch_succ n (k + 1), ch_succ n k]
    rcases Nat.lt_or_ge n (k + 1) with h | h
    · rw [ch_over n (k + 1) (by omega), ch_over n (k + 1 + 1) (by omega)]
      rw [show n + 1 - (k + 1) = 0 by omega]; simp
    · obtain ⟨d, rfl⟩ : ∃ d, n = k + 1 + d := ⟨n - (k + 1), by omega⟩
      rw [show k + 1 + d - k = d + 1 by omega] at h1
      rw [show k + 1 + d - (k + 1) = d by omega] at h2
      rw [show k + 1 + d + 1 - (k + 1) = d + 1 by omega]
      generalize ch (k + 1 + d) k = a at *
      generalize ch (k + 1 + d) (k + 1) = b at *
      generalize ch (k + 1 + d) (k + 1 + 1) = c at *
      grind
theorem ch_times (n k : Nat) : (k + 1) * ch (n + 1) (k + 1) = (n + 1) * ch n k := by
  have h1 := ch_next n k
  rw [ch_succ]
  rcases Nat.lt_or_ge n k with h | h
  · rw [ch_over n k h, ch_over n (k + 1) (by omega)]; simp
  · obtain ⟨d, rfl⟩ : ∃ d, n = k + d := ⟨n - k, by omega⟩
    rw [show k + d - k = d by omega] at h1
    generalize ch (k + d) k = a at *
    generalize ch (k + d) (k + 1) = b at *
    grind
theorem ch_mirror : ∀ n k, k ≤ n → ch n (n - k) = ch n k
  | 0, 0, _ => rfl
  | n + 1, 0, _ => by rw [Nat.sub_zero, ch_self, ch_zero]
  | n + 1, k + 1, h => by
    rcases Nat.lt_or_ge k n with hk | hk
    · rw [show n + 1 - (k + 1) = (n - (k + 1)) + 1 by omega, ch_succ, ch_mirror n (k + 1) (by omega), show n - (k + 1) + 1 = n - k by omega, ch_mirror n k (by omega), ch_succ]; omega
    · rw [show k = n by omega, Nat.sub_self, ch_zero, ch_self]

def sumTo (f : Nat → Nat) : Nat → Nat
  | 0 => 0
  | m + 1 => sumTo f m + f m
theorem sumTo_add (f g : Nat → Nat) (m : Nat) : sumTo (fun i => f i + g i) m = sumTo f m + sumTo g m := by
  induction m with
  | zero => rfl
  | succ m ih => simp only [sumTo, ih]; omega
theorem sumTo_shift (f : Nat → Nat) (m : Nat) : sumTo f (m + 1) = f 0 + sumTo (fun i => f (i + 1)) m := by
  induction m with
  | zero => simp [sumTo]
  | succ m ih => rw [sumTo, ih]; simp only [sumTo]; omega
theorem sumTo_congr {f g : Nat → Nat} {m : Nat} (h : ∀ i, i < m → f i = g i) : sumTo f m = sumTo g m := by
  induction m with
  | zero => rfl
  | succ m ih => simp only [sumTo]; rw [ih fun i hi => h i (by omega), h m (by omega)]
theorem sum_row (n : Nat) : sumTo (ch n) (n + 1) = 2 ^ n := by
  induction n with
  | zero => rfl
  | succ n ih =>
    rw [sumTo_shift, ch_zero]
    have e : sumTo (fun i => ch (n + 1) (i + 1)) (n + 1) = sumTo (ch n) (n + 1) + sumTo (fun i => ch n (i + 1)) (n + 1) := by
      rw [← sumTo_add]; exact sumTo_congr fun i _ => ch_succ n i
    rw [e]
    have e2 : sumTo (ch n) (n + 1) = 1 + sumTo (fun i => ch n (i + 1)) n := by rw [sumTo_shift, ch_zero]
    simp only [sumTo] at *
    rw [ch_over n (n + 1) (by omega)]
    rw [Nat.pow_succ]; omega
/-- 'ch' at a difference that may be below 0. -/
def chd (n k i : Nat) : Nat := if i ≤ k then ch n (k - i) else 0
theorem chd_succ (n k i : Nat) : chd (n + 1) (k + 1) i = chd n k i + chd n (k + 1) i := by
  unfold chd
  rcases Nat.lt_trichotomy i (k + 1) with h | h | h
  · rw [if_pos (by omega), if_pos (by omega), if_pos (by omega), show k + 1 - i = (k - i) + 1 by omega, ch_succ]
  · subst h; rw [if_pos (by omega), if_neg (by omega), if_pos (by omega), Nat.sub_self, ch_zero, ch_zero]
  · rw [if_neg (by omega), if_neg (by omega), if_neg (by omega)]
theorem chd_zero (n k : Nat) : chd n k 0 = ch n k := by simp [chd]
theorem chd_shift (n k i : Nat) : chd n (k + 1) (i + 1) = chd n k i := by
  unfold chd
  by_cases h : i ≤ k
  · rw [if_pos h, if_pos (by omega), show k + 1 - (i + 1) = k - i by omega]
  · rw [if_neg h, if_neg (by omega)]
theorem vander (p : Nat) : ∀ m k, sumTo (fun i => ch p i * chd m k i) (p + 1) = ch (p + m) k := by
  induction p with
  | zero => intro m k; simp [sumTo, chd_zero, ch_zero]
  | succ p ih =>
    intro m k
    rw [sumTo_shift, ch_zero, Nat.one_mul, chd_zero]
    cases k with
    | zero =>
      have : sumTo (fun i => ch (p + 1) (i + 1) * chd m 0 (i + 1)) (p + 1) = sumTo (fun _ => 0) (p + 1) := sumTo_congr fun i _ => by simp [chd]
      rw [this]
      have z : ∀ q, sumTo (fun _ => 0) q = 0 := fun q => by induction q with
        | zero => rfl
        | succ q iq => simp [sumTo, iq]
      rw [z, ch_zero, ch_zero]
    | succ k =>
      have e : sumTo (fun i => ch (p + 1) (i + 1) * chd m (k + 1) (i + 1)) (p + 1) = sumTo (fun i => ch p i * chd m k i) (p + 1) + sumTo (fun i => ch p (i + 1) * chd m (k + 1) (i + 1)) (p + 1) := by
        rw [← sumTo_add]
        exact sumTo_congr fun i _ => by rw [ch_succ, chd_shift, Nat.add_mul]
      rw [e, ih]
      have e2 := ih m (k + 1)
      rw [sumTo_shift, ch_zero, Nat.one_mul, chd_zero] at e2
      have e3 : sumTo (fun i => ch p (i + 1) * chd m (k + 1) (i + 1)) (p + 1) = sumTo (fun i => ch p (i + 1) * chd m (k + 1) (i + 1)) p := by
        simp [sumTo, ch_over p (p + 1) (by omega)]
      rw [e3]
      rw [show p + 1 + m = (p + m) + 1 by omega, ch_succ]
      omega

def fac : Nat → Nat
  | 0 => 1
  | n + 1 => (n + 1) * fac n
theorem fac_pos : ∀ n, 0 < fac n
  | 0 => by decide
  | n + 1 => Nat.mul_pos (by omega) (fac_pos n)
theorem ch_fac : ∀ n k, k ≤ n → ch n k * fac k * fac (n - k) = fac n
  | n, 0, _ => by rw [ch_zero, Nat.sub_zero]; simp [fac]
  | n + 1, k + 1, h => by
    have ih := ch_fac n k (by omega)
    have t := ch_times n k
    rw [show n + 1 - (k + 1) = n - k by omega]
    simp only [fac]
    generalize ch (n + 1) (k + 1) = a at *
    generalize ch n k = b at *
    generalize fac (n - k) = c at *
    generalize fac k = d at *
    generalize fac n = e at *
    subst ih
    have : a * ((k + 1) * d) * c = ((k + 1) * a) * d * c := by grind
    rw [this, t]; grind
/-- (s + 1)! over x! y! z!. -/
theorem delta_eq (x y z : Nat) : fac (x + y + z + 1) / (fac x * fac y * fac z) = (x + y + z + 1) * ch (x + y + z) x * ch (y + z) y := by
  have h1 := ch_fac (x + y + z) x (by omega)
  have h2 := ch_fac (y + z) y (by omega)
  rw [show x + y + z - x = y + z by omega] at h1
  rw [show y + z - y = z by omega] at h2
  have p : 0 < fac x * fac y * fac z := Nat.mul_pos (Nat.mul_pos (fac_pos _) (fac_pos _)) (fac_pos _)
  refine Nat.div_eq_of_eq_mul_left p ?_
  show (x + y + z + 1) * fac (x + y + z) = _
  rw [← h1, ← h2]
  generalize ch (x + y + z) x = a
  generalize ch (y + z) y = b
  grind

/-- What 'Choose' answers. -/
def chI (n k : Int) : Int := if n < 0 ∨ 40 < n then -1 else if k < 0 ∨ n < k then 0 else (ch n.toNat k.toNat : Int)

theorem chI_out {n k : Int} (h : n < 0 ∨ 40 < n) : chI n k = -1 := by unfold chI; rw [if_pos h]
theorem chI_zero {n k : Int} (h : 0 ≤ n ∧ n ≤ 40) (hk : k < 0 ∨ n < k) : chI n k = 0 := by unfold chI; rw [if_neg (by omega), if_pos hk]
theorem chI_in {n k : Nat} (h : n ≤ 40) : chI n k = ch n k := by
  unfold chI; rw [if_neg (by omega)]
  by_cases hk : n < k
  · rw [if_pos (by omega), ch_over n k hk]; rfl
  · rw [if_neg (by omega)]; rfl
theorem chI_bd {n k : Int} (h : 0 ≤ n ∧ n ≤ 40) : 0 ≤ chI n k ∧ chI n k ≤ 1099511627776 := by
  unfold chI; rw [if_neg (by omega)]
  split
  · omega
  · have h1 := ch_le n.toNat k.toNat
    have h2 : 2 ^ n.toNat ≤ 2 ^ 40 := Nat.pow_le_pow_right (by omega) (by omega)
    omega
theorem chI_lo (n k : Int) : -1 ≤ chI n k ∧ chI n k ≤ 1099511627776 := by
  by_cases h : 0 ≤ n ∧ n ≤ 40
  · have := chI_bd (k := k) h; omega
  · rw [chI_out (by omega)]; omega
theorem chI_neg {n k : Int} : chI n k < 0 ↔ (n < 0 ∨ 40 < n) := by
  by_cases h : 0 ≤ n ∧ n ≤ 40
  · have := chI_bd (k := k) h; omega
  · rw [chI_out (by omega)]; omega
theorem chI_pascal {n k : Int} (h : 1 ≤ n ∧ n ≤ 40) : chI n k = chI (n - 1) (k - 1) + chI (n - 1) k := by
  obtain ⟨m, rfl⟩ : ∃ m : Nat, n = (m : Int) + 1 := ⟨(n - 1).toNat, by omega⟩
  rw [show (m : Int) + 1 - 1 = m by omega]
  rcases Int.lt_or_le k 0 with hk | hk
  · rw [chI_zero (by omega) (by omega), chI_zero (by omega) (by omega), chI_zero (by omega) (by omega)]; rfl
  · rcases Int.lt_or_le 0 k with h0 | h0
    · obtain ⟨j, rfl⟩ : ∃ j : Nat, k = (j : Int) + 1 := ⟨(k - 1).toNat, by omega⟩
      rw [show (j : Int) + 1 - 1 = j by omega]
      have a := chI_in (n := m + 1) (k := j + 1) (by omega)
      have b := chI_in (n := m) (k := j) (by omega)
      have c := chI_in (n := m) (k := j + 1) (by omega)
      simp only [Int.natCast_add, Int.cast_ofNat_Int] at a c
      rw [a, b, c, ch_succ]; omega
    · obtain rfl : k = 0 := by omega
      rw [chI_zero (n := m) (k := 0 - 1) (by omega) (by omega)]
      have a := chI_in (n := m + 1) (k := 0) (by omega)
      have c := chI_in (n := m) (k := 0) (by omega)
      simp only [Int.natCast_add, Int.cast_ofNat_Int] at a c
      rw [a, c, ch_zero, ch_zero]; rfl
theorem chI_nil {k : Int} : chI 0 k = if k = 0 then 1 else 0 := by
  by_cases h : k = 0
  · subst h; rfl
  · rw [if_neg h]; exact chI_zero (by omega) (by omega)
theorem chI_mirror {n k : Int} (h : 0 ≤ n ∧ n ≤ 40) : chI n (n - k) = chI n k := by
  by_cases hk : k < 0 ∨ n < k
  · rw [chI_zero h hk, chI_zero h (by omega)]
  · unfold chI
    rw [if_neg (by omega), if_neg (by omega), if_neg (by omega), if_neg hk]
    rw [show (n - k).toNat = n.toNat - k.toNat by omega, ch_mirror n.toNat k.toNat (by omega)]
theorem chI_pos {n k : Int} (h : 0 ≤ n ∧ n ≤ 40) : 0 < chI n k ↔ (0 ≤ k ∧ k ≤ n) := by
  by_cases hk : k < 0 ∨ n < k
  · rw [chI_zero h hk]; omega
  · unfold chI
    rw [if_neg (by omega), if_neg hk]
    have := ch_pos n.toNat k.toNat (by omega)
    omega
theorem chI_times {n k : Int} (h : 1 ≤ n ∧ n ≤ 40) (hk : 1 ≤ k) : k * chI n k = n * chI (n - 1) (k - 1) := by
  obtain ⟨m, rfl⟩ : ∃ m : Nat, n = (m : Int) + 1 := ⟨(n - 1).toNat, by omega⟩
  obtain ⟨j, rfl⟩ : ∃ j : Nat, k = (j : Int) + 1 := ⟨(k - 1).toNat, by omega⟩
  rw [show (m : Int) + 1 - 1 = m by omega, show (j : Int) + 1 - 1 = j by omega]
  have a := chI_in (n := m + 1) (k := j + 1) (by omega)
  have b := chI_in (n := m) (k := j) (by omega)
  simp only [Int.natCast_add, Int.cast_ofNat_Int] at a
  rw [a, b]
  have := ch_times m j
  exact_mod_cast this
theorem chI_rises {n k : Int} (h : 0 ≤ n ∧ n ≤ 40) (hk : 0 ≤ k ∧ 2 * k + 1 ≤ n) : chI n k < chI n (k + 1) ∨ (2 * k + 1 = n ∧ chI n (k + 1) = chI n k) := by
  obtain ⟨m, rfl⟩ : ∃ m : Nat, n = (m : Int) := ⟨n.toNat, by omega⟩
  obtain ⟨j, rfl⟩ : ∃ j : Nat, k = (j : Int) := ⟨k.toNat, by omega⟩
  have a := chI_in (n := m) (k := j + 1) (by omega)
  have b := chI_in (n := m) (k := j) (by omega)
  simp only [Int.natCast_add, Int.cast_ofNat_Int] at a
  rw [a, b]
  have t := ch_next m j
  have p := ch_pos m j (by omega)
  rcases Nat.lt_or_ge (2 * j + 1) m with hlt | hge
  · left
    obtain ⟨d, hd⟩ : ∃ d, m - j = j + 2 + d := ⟨m - j - j - 2, by omega⟩
    rw [hd] at t
    have : ch m j < ch m (j + 1) := by
      generalize ch m (j + 1) = u at *
      generalize ch m j = v at *
      rcases Nat.lt_or_ge v u with h | h
      · exact h
      · have h1 := Nat.mul_le_mul_left (j + 1) h
        have h2 : (j + 2 + d) * v = (j + 1) * v + (v + d * v) := by grind
        omega
    omega
  · right
    refine ⟨by omega, ?_⟩
    rw [show m - j = j + 1 by omega] at t
    have := Nat.eq_of_mul_eq_mul_left (by omega : 0 < j + 1) t
    omega

/-- A sum of integers from 0 on. -/
def sumI (f : Nat → Int) : Nat → Int
  | 0 => 0
  | m + 1 => sumI f m + f m
theorem sumI_cast {f : Nat → Int} {g : Nat → Nat} {m : Nat} (h : ∀ i, i < m → f i = g i) : sumI f m = (sumTo g m : Nat) := by
  induction m with
  | zero => rfl
  | succ m ih => simp only [sumI, sumTo]; rw [ih fun i hi => h i (by omega), h m (by omega)]; omega
theorem sumTo_mono (f : Nat → Nat) {a b : Nat} (h : a ≤ b) : sumTo f a ≤ sumTo f b := by
  induction b with
  | zero => have : a = 0 := by omega
            subst this; exact Nat.le_refl _
  | succ b ih =>
    rcases Nat.lt_or_ge a (b + 1) with hl | hl
    · have := ih (by omega); simp only [sumTo]; omega
    · have : a = b + 1 := by omega
      subst this; exact Nat.le_refl _
theorem sum_all {n : Nat} (h : n ≤ 40) : sumI (fun i => chI n i) (n + 1) = (2 ^ n : Nat) := by
  rw [sumI_cast (g := ch n) fun i _ => chI_in h, sum_row]
theorem sum_all_bd {n m : Nat} (h : n ≤ 40) (hm : m ≤ n + 1) : 0 ≤ sumI (fun i => chI n i) m ∧ sumI (fun i => chI n i) m ≤ 1099511627776 := by
  rw [sumI_cast (g := ch n) fun i _ => chI_in h]
  have h1 := sumTo_mono (ch n) hm
  rw [sum_row] at h1
  have h2 : 2 ^ n ≤ 2 ^ 40 := Nat.pow_le_pow_right (by omega) h
  omega
theorem part_cast {p m : Nat} {k : Int} (h : p + m ≤ 40) (i : Nat) : chI p i * chI m (k - i) = ((if k < 0 then 0 else ch p i * chd m k.toNat i : Nat) : Int) := by
  rw [chI_in (by omega)]
  by_cases hk : k < 0
  · rw [if_pos hk, chI_zero (by omega) (by omega)]; simp
  · rw [if_neg hk]
    unfold chd
    by_cases hi : i ≤ k.toNat
    · rw [if_pos hi, show k - (i : Int) = ((k.toNat - i : Nat) : Int) by omega, chI_in (by omega)]; exact (Int.natCast_mul ..).symm
    · rw [if_neg hi, chI_zero (by omega) (by omega)]; simp
theorem sumTo_zero (m : Nat) : sumTo (fun _ => 0) m = 0 := by
  induction m with
  | zero => rfl
  | succ m ih => simp [sumTo, ih]
theorem sum_parts {p m : Nat} {k : Int} (h : p + m ≤ 40) : sumI (fun i => chI p i * chI m (k - i)) (p + 1) = chI ((p + m : Nat) : Int) k := by
  rw [sumI_cast (g := fun i => if k < 0 then 0 else ch p i * chd m k.toNat i) fun i _ => part_cast h i]
  by_cases hk : k < 0
  · simp only [if_pos hk]
    rw [sumTo_zero, chI_zero (by omega) (by omega)]; rfl
  · simp only [if_neg hk]
    rw [vander]
    obtain ⟨j, rfl⟩ : ∃ j : Nat, k = (j : Int) := ⟨k.toNat, by omega⟩
    rw [chI_in h]; simp
theorem sum_parts_bd {p m q : Nat} {k : Int} (h : p + m ≤ 40) (hq : q ≤ p + 1) : 0 ≤ sumI (fun i => chI p i * chI m (k - i)) q ∧ sumI (fun i => chI p i * chI m (k - i)) q ≤ 1099511627776 := by
  have hp := sum_parts (k := k) h
  rw [sumI_cast (g := fun i => if k < 0 then 0 else ch p i * chd m k.toNat i) fun i _ => part_cast h i] at *
  have h1 := sumTo_mono (fun i => if k < 0 then 0 else ch p i * chd m k.toNat i) hq
  have h2 := chI_bd (n := ((p + m : Nat) : Int)) (k := k) (by omega)
  omega
theorem part_bd {p m : Nat} {k : Int} (h : p + m ≤ 40) (i : Nat) (hi : i ≤ p) : 0 ≤ chI p i * chI m (k - i) ∧ chI p i * chI m (k - i) ≤ 1099511627776 := by
  have h1 := sum_parts_bd (q := i) (k := k) h (by omega)
  have h2 := sum_parts_bd (q := i + 1) (k := k) h (by omega)
  have h3 := part_cast (k := k) h i
  simp only [sumI] at h2
  generalize chI p i * chI m (k - i) = t at *
  omega

def facI (n : Int) : Int := (fac n.toNat : Int)
def deltaI (a b c : Int) : Int :=
  if triB a b c = false ∨ 18 < (a + b + c) / 2 then 0 else facI ((a + b + c) / 2 + 1) / (facI ((a + b - c) / 2) * facI ((a - b + c) / 2) * facI ((b + c - a) / 2))
theorem delta_choose {a b c : Int} (h : triB a b c = true) (hs : (a + b + c) / 2 ≤ 18) :
    deltaI a b c = ((a + b + c) / 2 + 1) * chI ((a + b + c) / 2) ((a + b - c) / 2) * chI ((a + b + c) / 2 - (a + b - c) / 2) ((a - b + c) / 2) := by
  obtain ⟨h1, h2, h3, h4, h5, h6, h7⟩ := (triB_iff ..).1 h
  unfold deltaI
  rw [if_neg (by simp [h]; omega)]
  obtain ⟨x, hx⟩ : ∃ x : Nat, (a + b - c) / 2 = x := ⟨((a + b - c) / 2).toNat, by omega⟩
  obtain ⟨y, hy⟩ : ∃ y : Nat, (a - b + c) / 2 = y := ⟨((a - b + c) / 2).toNat, by omega⟩
  obtain ⟨z, hz⟩ : ∃ z : Nat, (b + c - a) / 2 = z := ⟨((b + c - a) / 2).toNat, by omega⟩
  have hs' : (a + b + c) / 2 = ((x + y + z : Nat) : Int) := by omega
  rw [hx, hy, hz, hs']
  rw [show ((x + y + z : Nat) : Int) - (x : Int) = ((y + z : Nat) : Int) by omega]
  rw [chI_in (by omega), chI_in (by omega)]
  unfold facI
  rw [show (((x + y + z : Nat) : Int) + 1).toNat = x + y + z + 1 by omega]
  simp only [Int.toNat_natCast]
  have := delta_eq x y z
  rw [← Int.natCast_mul, ← Int.natCast_mul, ← Int.natCast_ediv, this]
  simp only [Int.natCast_mul, Int.natCast_add]; rfl

/-! the steps of the walks -/
theorem prod_step {N j : Nat} (h : j < N) : ((ch N j : Int) * ((N : Int) - (j : Int))) / ((j : Int) + 1) = (ch N (j + 1) : Int) := by
  have t := ch_next N j
  obtain ⟨d, rfl⟩ : ∃ d, N = j + 1 + d := ⟨N - j - 1, by omega⟩
  rw [show j + 1 + d - j = d + 1 by omega] at t
  rw [show ((j + 1 + d : Nat) : Int) - (j : Int) = ((d + 1 : Nat) : Int) by omega]
  rw [show (j : Int) + 1 = ((j + 1 : Nat) : Int) by omega, ← Int.natCast_mul, ← Int.natCast_ediv]
  congr 1
  rw [Nat.mul_comm (ch _ _), ← t]
  exact Nat.mul_div_cancel_left _ (by omega)
theorem prod_bd {N j : Nat} (h : j < N) (hN : N ≤ 40) : 0 ≤ (ch N j : Int) * ((N : Int) - (j : Int)) ∧ (ch N j : Int) * ((N : Int) - (j : Int)) ≤ 43980465111040 := by
  have h1 := ch_le N j
  have h2 : 2 ^ N ≤ 2 ^ 40 := Nat.pow_le_pow_right (by omega) hN
  obtain ⟨d, rfl⟩ : ∃ d, N = j + d := ⟨N - j, by omega⟩
  rw [show ((j + d : Nat) : Int) - (j : Int) = (d : Int) by omega, ← Int.natCast_mul]
  have h3 : ch (j + d) j * d ≤ 1099511627776 * 40 := Nat.mul_le_mul (by omega) (by omega)
  omega
/-- Row m of the triangle, and the row in which the places above t are those of row m + 1. -/
def rowF (m t : Nat) : Nat → Nat := fun j => if t < j then ch (m + 1) j else ch m j
theorem rowF_top (m j : Nat) (h : j ≤ m + 1) : rowF m (m + 1) j = ch m j := by unfold rowF; rw [if_neg (by omega)]
theorem rowF_zero (m j : Nat) : rowF m 0 j = ch (m + 1) j := by
  unfold rowF; cases j with
  | zero => rw [if_neg (by omega), ch_zero, ch_zero]
  | succ j => rw [if_pos (by omega)]
theorem rowF_same (m t j : Nat) (h : j ≠ t + 1) : rowF m t j = rowF m (t + 1) j := by
  unfold rowF
  by_cases h1 : t < j
  · rw [if_pos h1, if_pos (by omega)]
  · rw [if_neg h1, if_neg (by omega)]
theorem rowF_step (m t : Nat) : rowF m t (t + 1) = rowF m (t + 1) (t + 1) + rowF m (t + 1) t := by
  unfold rowF
  rw [if_pos (by omega), if_neg (by omega), if_neg (by omega), ch_succ]; omega
theorem rowF_bd (m t j : Nat) (h : m ≤ 40) : rowF m t j ≤ 2199023255552 := by
  have h1 := ch_le m j
  have h2 := ch_le (m + 1) j
  have h3 : 2 ^ m ≤ 2 ^ 40 := Nat.pow_le_pow_right (by omega) h
  have h4 : 2 ^ (m + 1) ≤ 2 ^ 41 := Nat.pow_le_pow_right (by omega) (by omega)
  unfold rowF; split <;> omega

theorem fac_succ (n : Nat) : fac (n + 1) = (n + 1) * fac n := rfl
theorem fac_mono {a b : Nat} (h : a ≤ b) : fac a ≤ fac b := by
  induction b with
  | zero => have : a = 0 := by omega
            subst this; exact Nat.le_refl _
  | succ b ih =>
    rcases Nat.lt_or_ge a (b + 1) with hl | hl
    · have := ih (by omega)
      have p := Nat.mul_le_mul_right (fac b) (by omega : 1 ≤ b + 1)
      rw [fac_succ]; omega
    · have : a = b + 1 := by omega
      subst this; exact Nat.le_refl _
theorem fac_twenty : fac 20 = 2432902008176640000 := by decide
theorem fac_bd {n : Nat} (h : n ≤ 20) : 1 ≤ fac n ∧ fac n ≤ 2432902008176640000 := by
  have := fac_mono h; have := fac_pos n; rw [fac_twenty] at *; omega
theorem fac_mul (x y : Nat) : fac x * fac y ≤ fac (x + y) := by
  have h := ch_fac (x + y) x (by omega)
  rw [show x + y - x = y by omega] at h
  have p := ch_pos (x + y) x (by omega)
  have := Nat.mul_le_mul_right (fac x * fac y) (by omega : 1 ≤ ch (x + y) x)
  rw [← h, Nat.mul_assoc]; omega
theorem fac_bd3 {x y z : Nat} (h : x + y + z ≤ 20) : (1 ≤ fac x * fac y ∧ fac x * fac y ≤ 2432902008176640000) ∧ (1 ≤ fac x * fac y * fac z ∧ fac x * fac y * fac z ≤ 2432902008176640000) := by
  have a1 := fac_mul x y
  have a2 := (fac_bd (n := x + y) (by omega)).2
  have a3 := fac_mul (x + y) z
  have a4 := (fac_bd h).2
  have a5 := Nat.mul_le_mul_right (fac z) a1
  have p1 : 0 < fac x * fac y := Nat.mul_pos (fac_pos _) (fac_pos _)
  have p2 : 0 < fac x * fac y * fac z := Nat.mul_pos p1 (fac_pos _)
  omega
theorem delta_bd {x y z : Nat} (h : x + y + z ≤ 18) :
    (x + y + z + 1) * ch (x + y + z) x ≤ 4980736 ∧ (x + y + z + 1) * ch (x + y + z) x * ch (y + z) y ≤ 1305670057984 ∧ 1 ≤ (x + y + z + 1) * ch (x + y + z) x * ch (y + z) y := by
  have h1 := ch_le (x + y + z) x
  have h2 : 2 ^ (x + y + z) ≤ 2 ^ 18 := Nat.pow_le_pow_right (by omega) h
  have h3 := ch_le (y + z) y
  have h4 : 2 ^ (y + z) ≤ 2 ^ 18 := Nat.pow_le_pow_right (by omega) (by omega)
  have h5 : (x + y + z + 1) * ch (x + y + z) x ≤ 19 * 262144 := Nat.mul_le_mul (by omega) (by omega)
  have h6 : (x + y + z + 1) * ch (x + y + z) x * ch (y + z) y ≤ 19 * 262144 * 262144 := Nat.mul_le_mul h5 (by omega)
  have p1 : 0 < (x + y + z + 1) * ch (x + y + z) x := Nat.mul_pos (by omega) (ch_pos _ _ (by omega))
  have p2 : 0 < (x + y + z + 1) * ch (x + y + z) x * ch (y + z) y := Nat.mul_pos p1 (ch_pos _ _ (by omega))
  omega
end Go.Proofs.Ytacgoplcebpooaa
