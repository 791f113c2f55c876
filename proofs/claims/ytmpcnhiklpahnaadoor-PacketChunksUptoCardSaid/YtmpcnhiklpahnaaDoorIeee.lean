/- FLOATS AS WHOLE NUMBERS OF UNITS: what a word stands for, how a whole number of units is rounded to a word, that the two undo one another; the order of words; sums, differences, products; the two formats by their numbers. No program stands in it. -/
import Derived.Test.YtmpcnhiklpahnaaDoorRows
import Ieee.Arith
namespace Go.Proofs.YtmpcnhiklpahnaaDoor.Fp
open Ieee

theorem two_pow_pos (n : Nat) : 0 < 2 ^ n := Nat.two_pow_pos n

/-- rounding of n / g to the nearest, of two as near the even one -/
def rne (n g : Nat) : Nat := n / g + (if g < 2 * (n % g) ∨ (g = 2 * (n % g) ∧ n / g % 2 = 1) then 1 else 0)

theorem rne_one (n : Nat) : rne n 1 = n := by
  unfold rne
  simp [Nat.mod_one]

theorem rne_zero (g : Nat) (_hg : 0 < g) : rne 0 g = 0 := by
  unfold rne; simp

theorem rne_mul (q g : Nat) (hg : 0 < g) : rne (q * g) g = q := by
  unfold rne
  rw [Nat.mul_mod_left, Nat.mul_div_cancel _ hg]
  simp; omega

/-- scaling both changes nothing -/
theorem rne_scale (n g k : Nat) (hk : 0 < k) : rne (n * k) (g * k) = rne n g := by
  unfold rne
  rw [Nat.mul_div_mul_right _ _ hk, Nat.mul_mod_mul_right]
  have e1 : (g * k < 2 * (n % g * k)) ↔ g < 2 * (n % g) := by
    rw [← Nat.mul_assoc]; exact Nat.mul_lt_mul_right hk
  have e2 : (g * k = 2 * (n % g * k)) ↔ g = 2 * (n % g) := by
    rw [← Nat.mul_assoc]; exact ⟨fun h => Nat.eq_of_mul_eq_mul_right hk h, fun h => congrArg (· * k) h⟩
  simp only [e1, e2]

theorem shiftLeft_eq (a b : Nat) : a <<< b = a * 2 ^ b := Nat.shiftLeft_eq a b

theorem cut_even (neg : Bool) (n drop : Nat) : Toward.even.cut neg n drop = rne n (2 ^ drop) := by
  unfold Toward.cut rne
  simp only [shiftLeft_eq, Nat.one_mul]
  have hlog : n < 2 ^ (n.log2 + 1) := Nat.lt_log2_self
  by_cases h : drop ≤ n.log2 + 2
  · rw [Nat.min_eq_left h]
    congr 1
    by_cases h1 : 2 ^ drop < 2 * (n % 2 ^ drop)
    · simp [h1]
    · by_cases h2 : 2 ^ drop = 2 * (n % 2 ^ drop)
      · by_cases h3 : n / 2 ^ drop % 2 = 1
        · have : ¬ 2 ^ drop < 2 ^ drop := by omega
          simp [← h2, h3]
        · simp [← h2, h3]
      · simp [h1, h2]
  · have h' : n.log2 + 2 ≤ drop := by omega
    rw [Nat.min_eq_right h']
    have hp : 2 ^ (n.log2 + 2) = 2 * 2 ^ (n.log2 + 1) := by rw [Nat.pow_succ]; omega
    have hle : 2 ^ (n.log2 + 2) ≤ 2 ^ drop := Nat.pow_le_pow_right (by omega) h'
    have d1 : n / 2 ^ (n.log2 + 2) = 0 := Nat.div_eq_of_lt (by omega)
    have d2 : n / 2 ^ drop = 0 := Nat.div_eq_of_lt (by omega)
    have m1 : n % 2 ^ (n.log2 + 2) = n := Nat.mod_eq_of_lt (by omega)
    have m2 : n % 2 ^ drop = n := Nat.mod_eq_of_lt (by omega)
    rw [d1, d2, m1, m2]
    have a1 : ¬ (2 ^ (n.log2 + 2) < 2 * n) := by omega
    have a2 : ¬ (2 ^ drop < 2 * n) := by omega
    simp [a1, a2]

variable (f : Format)

theorem binade_pos : 0 < f.binade := two_pow_pos _

/-- the rung of m * 2^(least - s), s at least 0, without a bound above -/
def grid (m s : Nat) : Nat := (max (m.log2 - f.fractionBits) s - s) * f.binade + rne m (2 ^ max (m.log2 - f.fractionBits) s)

/-- the rung that m units (2^least each) are rounded to -/
def rung (m : Nat) : Nat := min (grid f m 0) f.infRung

theorem grid_zero (s : Nat) : grid f 0 s = 0 := by
  unfold grid
  have : (0 : Nat).log2 = 0 := by simp
  rw [this, Nat.zero_sub, Nat.max_eq_right (Nat.zero_le _), Nat.sub_self, Nat.zero_mul, rne_zero _ (two_pow_pos _)]

theorem nearest_below (neg : Bool) (m s : Nat) : f.nearest neg m (f.leastPlace - s) = f.word neg (min (grid f m s) f.infRung) := by
  unfold Format.nearest
  by_cases hm : m = 0
  · subst hm; simp [grid_zero]
  · rw [if_neg hm]
    dsimp only
    rw [cut_even]
    have hlast : max (f.leastPlace - s + m.log2 - f.fractionBits) f.leastPlace = f.leastPlace + (max (m.log2 - f.fractionBits) s : Nat) - s := by omega
    rw [hlast]
    have h1 : (f.leastPlace - s - (f.leastPlace + (max (m.log2 - f.fractionBits) s : Nat) - s)).toNat = 0 := by omega
    have h2 : (f.leastPlace + (max (m.log2 - f.fractionBits) s : Nat) - s - (f.leastPlace - s)).toNat = max (m.log2 - f.fractionBits) s := by omega
    have h3 : (f.leastPlace + (max (m.log2 - f.fractionBits) s : Nat) - s - f.leastPlace).toNat = max (m.log2 - f.fractionBits) s - s := by omega
    rw [h1, h2, h3]
    rfl

theorem log2_mul_pow (m k : Nat) (hm : m ≠ 0) : (m * 2 ^ k).log2 = m.log2 + k := by
  have hp := two_pow_pos k
  have hne : m * 2 ^ k ≠ 0 := Nat.mul_ne_zero hm (by omega)
  rw [Nat.log2_eq_iff hne]
  have h1 := Nat.log2_self_le hm
  have h2 : m < 2 ^ (m.log2 + 1) := Nat.lt_log2_self
  constructor
  · rw [Nat.pow_add]; exact Nat.mul_le_mul_right _ h1
  · have : 2 ^ (m.log2 + k + 1) = 2 ^ (m.log2 + 1) * 2 ^ k := by rw [← Nat.pow_add]; congr 1; omega
    rw [this]; exact (Nat.mul_lt_mul_right hp).2 h2

/-- a number told with other digits is rounded to the same -/
theorem grid_shift (m k s : Nat) : grid f (m * 2 ^ k) (s + k) = grid f m s := by
  by_cases hm : m = 0
  · subst hm; simp [grid_zero]
  · unfold grid
    rw [log2_mul_pow m k hm]
    by_cases h : m.log2 - f.fractionBits ≤ s
    · rw [Nat.max_eq_right h, Nat.max_eq_right (by omega), Nat.pow_add, rne_scale _ _ _ (two_pow_pos k)]
      simp
    · have e1 : max (m.log2 - f.fractionBits) s = m.log2 - f.fractionBits := by omega
      have e2 : max (m.log2 + k - f.fractionBits) (s + k) = m.log2 - f.fractionBits + k := by omega
      rw [e1, e2, Nat.pow_add, rne_scale _ _ _ (two_pow_pos k)]
      congr 2; omega

/-- of so many units, however the place is told -/
theorem nearest_units (neg : Bool) (m : Nat) (e : Int) (he : f.leastPlace ≤ e) : f.nearest neg m e = f.word neg (rung f (m * 2 ^ (e - f.leastPlace).toNat)) := by
  by_cases hm : m = 0
  · subst hm
    simp [Format.nearest, rung, grid_zero]
  · obtain ⟨k, hk⟩ := Int.eq_ofNat_of_zero_le (show 0 ≤ e - f.leastPlace by omega)
    have ek : e = f.leastPlace + k := by omega
    subst ek
    rw [hk]
    simp only [Int.toNat_natCast]
    unfold Format.nearest
    rw [if_neg hm]
    dsimp only
    rw [cut_even]
    unfold rung grid
    rw [log2_mul_pow m k hm]
    by_cases h : m.log2 + k - f.fractionBits ≤ k
    · -- a shift to the left, or none
      by_cases h0 : m.log2 + k ≤ f.fractionBits
      · have hlast : max (f.leastPlace + k + m.log2 - f.fractionBits) f.leastPlace = f.leastPlace := by omega
        rw [hlast]
        have h1 : (f.leastPlace + k - f.leastPlace).toNat = k := by omega
        have h2 : (f.leastPlace - (f.leastPlace + k)).toNat = 0 := by omega
        have h3 : m.log2 + k - f.fractionBits = 0 := by omega
        rw [h1, h2, h3]
        simp [rne_one, shiftLeft_eq]
      · have hd : (m.log2 + k - f.fractionBits : Nat) = m.log2 + k - f.fractionBits := rfl
        have hlast : max (f.leastPlace + k + m.log2 - f.fractionBits) f.leastPlace = f.leastPlace + (m.log2 + k - f.fractionBits : Nat) := by omega
        rw [hlast]
        have h1 : (f.leastPlace + k - (f.leastPlace + (m.log2 + k - f.fractionBits : Nat))).toNat = k - (m.log2 + k - f.fractionBits) := by omega
        have h2 : (f.leastPlace + (m.log2 + k - f.fractionBits : Nat) - (f.leastPlace + k)).toNat = 0 := by omega
        have h3 : (f.leastPlace + (m.log2 + k - f.fractionBits : Nat) - f.leastPlace).toNat = m.log2 + k - f.fractionBits := by omega
        have h4 : max (m.log2 + k - f.fractionBits) 0 = m.log2 + k - f.fractionBits := by omega
        rw [h1, h2, h3, h4, shiftLeft_eq, Nat.pow_zero, rne_one]
        have h5 : m * 2 ^ k = (m * 2 ^ (k - (m.log2 + k - f.fractionBits))) * 2 ^ (m.log2 + k - f.fractionBits) := by
          rw [Nat.mul_assoc, ← Nat.pow_add]; congr 2; omega
        rw [h5, rne_mul _ _ (two_pow_pos _)]
        simp
    · have hlast : max (f.leastPlace + k + m.log2 - f.fractionBits) f.leastPlace = f.leastPlace + (m.log2 + k - f.fractionBits : Nat) := by omega
      rw [hlast]
      have h1 : (f.leastPlace + k - (f.leastPlace + (m.log2 + k - f.fractionBits : Nat))).toNat = 0 := by omega
      have h2 : (f.leastPlace + (m.log2 + k - f.fractionBits : Nat) - (f.leastPlace + k)).toNat = m.log2 - f.fractionBits := by omega
      have h3 : (f.leastPlace + (m.log2 + k - f.fractionBits : Nat) - f.leastPlace).toNat = m.log2 + k - f.fractionBits := by omega
      have h4 : max (m.log2 + k - f.fractionBits) 0 = m.log2 - f.fractionBits + k := by omega
      rw [h1, h2, h3, h4, shiftLeft_eq, Nat.pow_zero, Nat.mul_one, Nat.pow_add, rne_scale _ _ _ (two_pow_pos k)]
      congr 2
      simp
      congr 1
      omega
end Go.Proofs.YtmpcnhiklpahnaaDoor.Fp

namespace Go.Proofs.YtmpcnhiklpahnaaDoor.Fp
open Ieee
variable (f : Format)

/-- what a rung amounts to, in units of the least place -/
def mag (r : Nat) : Nat := if r < f.binade then r else (f.binade + r % f.binade) * 2 ^ (r / f.binade - 1)

/-- from a rung to the next one -/
def step (r : Nat) : Nat := 2 ^ (r / f.binade - 1)

theorem step_pos (r : Nat) : 0 < step f r := two_pow_pos _

theorem mag_lt (r : Nat) (h : r < f.binade) : mag f r = r := if_pos h

theorem mag_zero : mag f 0 = 0 := if_pos (binade_pos f)

theorem mag_eq (r : Nat) : mag f r = (if r < f.binade then r else f.binade + r % f.binade) * step f r := by
  unfold mag step
  by_cases h : r < f.binade
  · rw [if_pos h, if_pos h, Nat.div_eq_of_lt h]; simp
  · rw [if_neg h, if_neg h]

theorem mag_succ (r : Nat) : mag f (r + 1) = mag f r + step f r := by
  have hB := binade_pos f
  unfold mag step
  by_cases h : r + 1 < f.binade
  · rw [if_pos h, if_pos (by omega), Nat.div_eq_of_lt (by omega)]
  · rw [if_neg h]
    by_cases h1 : r < f.binade
    · have e : r + 1 = f.binade := by omega
      rw [if_pos h1, e, Nat.mod_self, Nat.div_self hB, Nat.div_eq_of_lt h1]; simp; omega
    · rw [if_neg h1]
      have hq : 0 < r / f.binade := Nat.div_pos (by omega) hB
      have hd := Nat.div_add_mod r f.binade
      have hm := Nat.mod_lt r hB
      by_cases h2 : r % f.binade + 1 = f.binade
      · have e1 : r + 1 = f.binade * (r / f.binade + 1) := by rw [Nat.mul_add]; omega
        have e2 : (r + 1) % f.binade = 0 := by rw [e1]; exact Nat.mul_mod_right _ _
        have e3 : (r + 1) / f.binade = r / f.binade + 1 := by
          conv => lhs; rw [e1]
          exact Nat.mul_div_cancel_left _ hB
        rw [e2, e3]
        obtain ⟨q, hq'⟩ : ∃ q, r / f.binade = q + 1 := ⟨r / f.binade - 1, by omega⟩
        rw [hq']
        simp only [Nat.add_sub_cancel, Nat.add_zero]
        have : r % f.binade = f.binade - 1 := by omega
        rw [this, Nat.pow_succ]
        have hsub : f.binade + (f.binade - 1) = 2 * f.binade - 1 := by omega
        rw [hsub]
        have hp := two_pow_pos q
        have : (2 * f.binade - 1) * 2 ^ q + 2 ^ q = 2 * f.binade * 2 ^ q := by
          rw [← Nat.succ_mul]; congr 1; omega
        rw [this, Nat.mul_comm (2 ^ q) 2, ← Nat.mul_assoc, Nat.mul_comm f.binade 2]
      · have e1 : r + 1 = f.binade * (r / f.binade) + (r % f.binade + 1) := by omega
        have hlt : r % f.binade + 1 < f.binade := by omega
        have e2 : (r + 1) % f.binade = r % f.binade + 1 := by
          conv => lhs; rw [e1]
          rw [Nat.mul_add_mod, Nat.mod_eq_of_lt hlt]
        have e3 : (r + 1) / f.binade = r / f.binade := by
          conv => lhs; rw [e1]
          rw [Nat.mul_add_div hB, Nat.div_eq_of_lt hlt, Nat.add_zero]
        rw [e2, e3, ← Nat.add_assoc, Nat.succ_mul]

theorem mag_mono_lt {r r' : Nat} (h : r < r') : mag f r < mag f r' := by
  induction r' with
  | zero => omega
  | succ n ih =>
    have hs := step_pos f n
    rw [mag_succ]
    by_cases e : r = n
    · subst e; omega
    · have := ih (by omega); omega

theorem mag_mono {r r' : Nat} (h : r ≤ r') : mag f r ≤ mag f r' := by
  by_cases e : r = r'
  · subst e; exact Nat.le_refl _
  · exact Nat.le_of_lt (mag_mono_lt f (by omega))

theorem mag_lt_iff {r r' : Nat} : mag f r < mag f r' ↔ r < r' := by
  constructor
  · intro h
    by_cases e : r < r'
    · exact e
    · have := mag_mono f (show r' ≤ r by omega); omega
  · exact mag_mono_lt f

theorem mag_inj {r r' : Nat} : mag f r = mag f r' ↔ r = r' := by
  constructor
  · intro h
    rcases Nat.lt_trichotomy r r' with e | e | e
    · have := mag_mono_lt f e; omega
    · exact e
    · have := mag_mono_lt f e; omega
  · intro h; rw [h]

theorem le_mag (r : Nat) : r ≤ mag f r := by
  induction r with
  | zero => exact Nat.zero_le _
  | succ n ih => have := step_pos f n; rw [mag_succ]; omega

/-- the greatest rung not above -/
theorem floor_exists (m g : Nat) (hg : 0 < g) : ∃ r, mag f r * g ≤ m ∧ m < mag f (r + 1) * g := by
  have key : ∀ n, m < mag f n * g → ∃ r, mag f r * g ≤ m ∧ m < mag f (r + 1) * g := by
    intro n
    induction n with
    | zero => intro h; rw [mag_zero] at h; omega
    | succ n ih =>
      intro h
      by_cases h1 : m < mag f n * g
      · exact ih h1
      · exact ⟨n, by omega, h⟩
  refine key (m + 1) ?_
  have h1 := le_mag f (m + 1)
  have h2 : mag f (m + 1) * 1 ≤ mag f (m + 1) * g := Nat.mul_le_mul_left _ hg
  omega

theorem binade_even (hF : 1 ≤ f.fractionBits) : f.binade % 2 = 0 := by
  unfold Format.binade
  obtain ⟨k, hk⟩ : ∃ k, f.fractionBits = k + 1 := ⟨f.fractionBits - 1, by omega⟩
  rw [hk, Nat.pow_succ]; omega

/-- A NUMBER BETWEEN TWO RUNGS (its unit is 2^-s of the least place) is rounded to the nearer one; of two as near to the even rung. -/
theorem grid_between (hF : 1 ≤ f.fractionBits) (r s x : Nat) (hx : x < step f r * 2 ^ s) :
    grid f (mag f r * 2 ^ s + x) s = r + (if step f r * 2 ^ s < 2 * x ∨ (step f r * 2 ^ s = 2 * x ∧ r % 2 = 1) then 1 else 0) := by
  have hB := binade_pos f
  have hB2 := binade_even f hF
  have hs := two_pow_pos s
  by_cases h : r < f.binade
  · have hst : step f r = 1 := by unfold step; rw [Nat.div_eq_of_lt h]
    rw [hst, Nat.one_mul] at hx ⊢
    rw [mag_lt f r h]
    have hlt : r * 2 ^ s + x < f.binade * 2 ^ s := by
      have : (r + 1) * 2 ^ s ≤ f.binade * 2 ^ s := Nat.mul_le_mul_right _ (by omega)
      rw [Nat.succ_mul] at this; omega
    have hl : (r * 2 ^ s + x).log2 - f.fractionBits ≤ s := by
      by_cases h0 : r * 2 ^ s + x = 0
      · rw [h0]; simp
      · have : (r * 2 ^ s + x).log2 < f.fractionBits + s := by
          rw [Nat.log2_lt h0, Nat.pow_add]; exact hlt
        omega
    unfold grid
    rw [Nat.max_eq_right hl, Nat.sub_self, Nat.zero_mul, Nat.zero_add]
    unfold rne
    have e1 : (r * 2 ^ s + x) / 2 ^ s = r := by
      rw [Nat.mul_comm, Nat.mul_add_div hs, Nat.div_eq_of_lt hx, Nat.add_zero]
    have e2 : (r * 2 ^ s + x) % 2 ^ s = x := by
      rw [Nat.mul_comm, Nat.mul_add_mod, Nat.mod_eq_of_lt hx]
    rw [e1, e2]
  · have hq : 0 < r / f.binade := Nat.div_pos (by omega) hB
    have hd := Nat.div_add_mod r f.binade
    have hm := Nat.mod_lt r hB
    obtain ⟨q, hq'⟩ : ∃ q, r / f.binade = q + 1 := ⟨r / f.binade - 1, by omega⟩
    have hst : step f r = 2 ^ q := by unfold step; rw [hq']; rfl
    have hmag : mag f r = (f.binade + r % f.binade) * 2 ^ q := by rw [mag_eq, if_neg h, hst]
    generalize hc : f.binade + r % f.binade = c at hmag
    rw [hst, ← Nat.pow_add] at hx ⊢
    rw [hmag, Nat.mul_assoc, ← Nat.pow_add]
    have hp := two_pow_pos (q + s)
    have hlo : f.binade * 2 ^ (q + s) ≤ c * 2 ^ (q + s) + x := by
      have : f.binade * 2 ^ (q + s) ≤ c * 2 ^ (q + s) := Nat.mul_le_mul_right _ (by omega)
      omega
    have hhi : c * 2 ^ (q + s) + x < 2 * f.binade * 2 ^ (q + s) := by
      have : (c + 1) * 2 ^ (q + s) ≤ 2 * f.binade * 2 ^ (q + s) := Nat.mul_le_mul_right _ (by omega)
      rw [Nat.succ_mul] at this; omega
    have hl : (c * 2 ^ (q + s) + x).log2 = f.fractionBits + (q + s) := by
      have h0 : c * 2 ^ (q + s) + x ≠ 0 := by
        have : 0 < f.binade * 2 ^ (q + s) := Nat.mul_pos hB hp
        omega
      rw [Nat.log2_eq_iff h0]
      constructor
      · rw [Nat.pow_add]; exact hlo
      · have : 2 ^ (f.fractionBits + (q + s) + 1) = 2 * f.binade * 2 ^ (q + s) := by
          rw [Nat.pow_succ, Nat.pow_add]; unfold Format.binade
          rw [Nat.mul_comm _ 2, Nat.mul_assoc]
        rw [this]; exact hhi
    unfold grid
    rw [hl]
    have e0 : max (f.fractionBits + (q + s) - f.fractionBits) s = q + s := by omega
    rw [e0]
    unfold rne
    have e1 : (c * 2 ^ (q + s) + x) / 2 ^ (q + s) = c := by
      rw [Nat.mul_comm, Nat.mul_add_div hp, Nat.div_eq_of_lt hx, Nat.add_zero]
    have e2 : (c * 2 ^ (q + s) + x) % 2 ^ (q + s) = x := by
      rw [Nat.mul_comm, Nat.mul_add_mod, Nat.mod_eq_of_lt hx]
    rw [e1, e2]
    have e3 : c % 2 = r % 2 := by
      have h1 : (f.binade * (r / f.binade)) % 2 = 0 := by rw [Nat.mul_mod, hB2]; simp
      omega
    have e4 : (q + s - s) * f.binade + c = r := by
      have : q + s - s = q := by omega
      rw [this, ← hc]
      have : f.binade * (r / f.binade) = q * f.binade + f.binade := by rw [hq', Nat.mul_comm, Nat.succ_mul]
      omega
    rw [e3, ← Nat.add_assoc, e4]

theorem grid_mag (hF : 1 ≤ f.fractionBits) (r s : Nat) : grid f (mag f r * 2 ^ s) s = r := by
  have hpos : 0 < step f r * 2 ^ s := Nat.mul_pos (step_pos f r) (two_pow_pos s)
  have := grid_between f hF r s 0 hpos
  rw [Nat.add_zero] at this
  rw [this, if_neg (by omega)]; rfl

/-- rounding rises -/
theorem grid_mono (hF : 1 ≤ f.fractionBits) (s : Nat) {m m' : Nat} (h : m ≤ m') : grid f m s ≤ grid f m' s := by
  obtain ⟨r, h1, h2⟩ := floor_exists f m (2 ^ s) (two_pow_pos s)
  obtain ⟨r', h1', h2'⟩ := floor_exists f m' (2 ^ s) (two_pow_pos s)
  have hlt : mag f r * 2 ^ s < mag f (r' + 1) * 2 ^ s := by omega
  have hrr : r < r' + 1 := (mag_lt_iff f).1 (Nat.lt_of_mul_lt_mul_right hlt)
  rw [mag_succ, Nat.add_mul] at h2 h2'
  have g := grid_between f hF r s (m - mag f r * 2 ^ s) (by omega)
  have g' := grid_between f hF r' s (m' - mag f r' * 2 ^ s) (by omega)
  rw [show mag f r * 2 ^ s + (m - mag f r * 2 ^ s) = m by omega] at g
  rw [show mag f r' * 2 ^ s + (m' - mag f r' * 2 ^ s) = m' by omega] at g'
  rw [g, g']
  by_cases e : r = r'
  · subst e
    split
    · rename_i hc
      rw [if_pos (by omega)]; omega
    · split <;> omega
  · split <;> split <;> omega

theorem rung_mag (hF : 1 ≤ f.fractionBits) (r : Nat) (hr : r ≤ f.infRung) : rung f (mag f r) = r := by
  have := grid_mag f hF r 0
  unfold rung
  rw [Nat.pow_zero, Nat.mul_one] at this
  rw [this]; omega

theorem rung_mono (hF : 1 ≤ f.fractionBits) {m m' : Nat} (h : m ≤ m') : rung f m ≤ rung f m' := by
  unfold rung
  have := grid_mono f hF 0 h
  omega
end Go.Proofs.YtmpcnhiklpahnaaDoor.Fp

namespace Go.Proofs.YtmpcnhiklpahnaaDoor.Fp
open Ieee
variable (f : Format)

def sg (w : Nat) : Bool := w / f.signWeight % 2 == 1
def rg (w : Nat) : Nat := w % f.signWeight
/-- a finite word, in units of the least place -/
def un (w : Nat) : Int := if sg f w then -(mag f (rg f w) : Int) else mag f (rg f w)
/-- a word's place among the others, noughts being one -/
def key (w : Nat) : Int := if sg f w then -(rg f w : Int) else rg f w

theorem weight_pos : 0 < f.signWeight := two_pow_pos _

theorem inf_lt : f.infRung < f.signWeight := by
  have h : 0 < 2 ^ f.exponentBits := two_pow_pos _
  have hb := binade_pos f
  have e : f.infRung + f.binade = f.signWeight := by
    unfold Format.infRung Format.signWeight
    rw [Nat.pow_add, ← Nat.succ_mul]
    exact congrArg (· * f.binade) (by omega)
  omega

theorem width_eq : 2 ^ f.width = 2 * f.signWeight := by
  unfold Format.width Format.signWeight
  rw [Nat.add_assoc, Nat.add_comm 1, Nat.pow_succ, Nat.mul_comm]

theorem rg_lt (w : Nat) : rg f w < f.signWeight := Nat.mod_lt _ (weight_pos f)

theorem sg_word (neg : Bool) (r : Nat) (h : r < f.signWeight) : sg f (f.word neg r) = neg := by
  have hp := weight_pos f
  unfold sg Format.word
  cases neg
  · simp [Nat.div_eq_of_lt h]
  · simp only [if_true]
    rw [show f.signWeight + r = f.signWeight * 1 + r by omega, Nat.mul_add_div hp, Nat.div_eq_of_lt h]; rfl

theorem rg_word (neg : Bool) (r : Nat) (h : r < f.signWeight) : rg f (f.word neg r) = r := by
  unfold rg Format.word
  cases neg
  · simp [Nat.mod_eq_of_lt h]
  · simp [Nat.mod_eq_of_lt h]

theorem word_sg_rg (w : Nat) (h : w < 2 ^ f.width) : f.word (sg f w) (rg f w) = w := by
  have hp := weight_pos f
  rw [width_eq] at h
  unfold sg rg Format.word
  by_cases h1 : w < f.signWeight
  · rw [Nat.div_eq_of_lt h1, Nat.mod_eq_of_lt h1]; rfl
  · have e : w = f.signWeight * 1 + (w - f.signWeight) := by omega
    have hlt : w - f.signWeight < f.signWeight := by omega
    have e1 : w / f.signWeight = 1 := by
      conv => lhs; rw [e]
      rw [Nat.mul_add_div hp, Nat.div_eq_of_lt hlt]
    have e2 : w % f.signWeight = w - f.signWeight := by
      conv => lhs; rw [e]
      rw [Nat.mul_add_mod, Nat.mod_eq_of_lt hlt]
    rw [e1, e2]; simp; omega

theorem word_inj {n n' : Bool} {r r' : Nat} (h : r < f.signWeight) (h' : r' < f.signWeight) : f.word n r = f.word n' r' ↔ n = n' ∧ r = r' := by
  constructor
  · intro e
    have a := congrArg (sg f) e
    have b := congrArg (rg f) e
    rw [sg_word f n r h, sg_word f n' r' h'] at a
    rw [rg_word f n r h, rg_word f n' r' h'] at b
    exact ⟨a, b⟩
  · rintro ⟨rfl, rfl⟩; rfl

/-- what a finite word reads as -/
theorem read_fin (w : Nat) (h : rg f w < f.infRung) : ∃ m e, f.read w = .number (sg f w) m e ∧ f.leastPlace ≤ e ∧ m * 2 ^ (e - f.leastPlace).toNat = mag f (rg f w) := by
  unfold Format.read
  dsimp only
  have e0 : w % f.signWeight = rg f w := rfl
  rw [e0]
  by_cases h1 : rg f w < f.binade
  · rw [if_pos h1]
    exact ⟨_, _, rfl, Int.le_refl _, by rw [mag_lt f _ h1]; simp⟩
  · rw [if_neg h1, if_pos h]
    refine ⟨_, _, rfl, by omega, ?_⟩
    unfold mag
    rw [if_neg h1]
    congr 2
    omega

theorem read_inf (w : Nat) (h : rg f w = f.infRung) (hb : f.binade ≤ f.infRung) : f.read w = .infinity (sg f w) := by
  unfold Format.read
  dsimp only
  have e0 : w % f.signWeight = rg f w := rfl
  rw [e0, if_neg (by omega), if_neg (by omega), if_pos h]
  rfl

theorem read_nan (w : Nat) (h : f.infRung < rg f w) (hb : f.binade ≤ f.infRung) : f.read w = .nan (sg f w) (rg f w - f.infRung) := by
  unfold Format.read
  dsimp only
  have e0 : w % f.signWeight = rg f w := rfl
  rw [e0, if_neg (by omega), if_neg (by omega), if_neg (by omega)]
  rfl

theorem signed_units (s : Bool) (m : Nat) (e b l : Int) (hb : b ≤ e) (hl : l ≤ b) :
    signed s m (e - b).toNat * 2 ^ (b - l).toNat = if s then -((m * 2 ^ (e - l).toNat : Nat) : Int) else ((m * 2 ^ (e - l).toNat : Nat) : Int) := by
  have hpow : (e - l).toNat = (e - b).toNat + (b - l).toNat := by omega
  unfold signed
  rw [hpow, Nat.pow_add, ← Nat.mul_assoc, shiftLeft_eq]
  cases s
  · simp
  · simp [Int.neg_mul]

theorem un_of_read {w : Nat} {m : Nat} {e : Int} (h2 : m * 2 ^ (e - f.leastPlace).toNat = mag f (rg f w)) :
    un f w = if sg f w then -((m * 2 ^ (e - f.leastPlace).toNat : Nat) : Int) else ((m * 2 ^ (e - f.leastPlace).toNat : Nat) : Int) := by
  rw [h2]; rfl

theorem compare_scale (a b : Int) (k : Nat) : compare (a * 2 ^ k) (b * 2 ^ k) = compare a b := by
  have hp : (0 : Int) < 2 ^ k := by exact_mod_cast two_pow_pos k
  simp only [compare, compareOfLessAndEq]
  have e1 : (a * 2 ^ k < b * 2 ^ k) ↔ a < b := ⟨fun h => Int.lt_of_mul_lt_mul_right h (Int.le_of_lt hp), fun h => Int.mul_lt_mul_of_pos_right h hp⟩
  have e2 : (a * 2 ^ k = b * 2 ^ k) ↔ a = b := ⟨fun h => Int.eq_of_mul_eq_mul_right (by omega) h, fun h => by rw [h]⟩
  simp only [e1, e2]

theorem cmp_lt {a b : Int} (h : a < b) : compare a b = .lt := by simp [compare, compareOfLessAndEq, h]
theorem cmp_eq {a b : Int} (h : a = b) : compare a b = .eq := by subst h; simp [compare, compareOfLessAndEq]
theorem cmp_gt {a b : Int} (h : b < a) : compare a b = .gt := by
  have h1 : ¬ a < b := by omega
  have h2 : ¬ a = b := by omega
  simp [compare, compareOfLessAndEq, h1, h2]

theorem order_units (x y : Nat) (hx : rg f x < f.infRung) (hy : rg f y < f.infRung) : f.order x y = some (compare (un f x) (un f y)) := by
  obtain ⟨m, i, r1, l1, u1⟩ := read_fin f x hx
  obtain ⟨n, j, r2, l2, u2⟩ := read_fin f y hy
  unfold Format.order
  rw [r1, r2]
  show some (compare (signed (sg f x) m (i - min i j).toNat) (signed (sg f y) n (j - min i j).toNat)) = _
  rw [un_of_read f u1, un_of_read f u2]
  rw [← compare_scale _ _ (min i j - f.leastPlace).toNat, signed_units _ _ _ _ _ (by omega) (by omega), signed_units _ _ _ _ _ (by omega) (by omega)]

theorem un_lt_iff (x y : Nat) : un f x < un f y ↔ key f x < key f y := by
  have h1 := @mag_lt_iff f (rg f x) (rg f y)
  have h2 := @mag_lt_iff f (rg f y) (rg f x)
  have h3 := le_mag f (rg f x)
  have h4 := le_mag f (rg f y)
  have h5 : rg f x = 0 → mag f (rg f x) = 0 := fun h => by rw [h, mag_zero]
  have h6 : rg f y = 0 → mag f (rg f y) = 0 := fun h => by rw [h, mag_zero]
  unfold un key
  cases sg f x <;> cases sg f y <;> simp <;> omega

theorem un_eq_iff (x y : Nat) : un f x = un f y ↔ key f x = key f y := by
  have h1 := un_lt_iff f x y
  have h2 := un_lt_iff f y x
  omega

/-- THE ORDER OF WORDS that are no NaNs: by sign and rung. -/
theorem order_key (hb : f.binade ≤ f.infRung) (x y : Nat) (hx : rg f x ≤ f.infRung) (hy : rg f y ≤ f.infRung) : f.order x y = some (compare (key f x) (key f y)) := by
  have hB := binade_pos f
  by_cases h1 : rg f x < f.infRung
  · by_cases h2 : rg f y < f.infRung
    · rw [order_units f x y h1 h2]
      have a := un_lt_iff f x y
      have b := un_eq_iff f x y
      simp only [compare, compareOfLessAndEq, a, b]
    · have e2 : rg f y = f.infRung := by omega
      obtain ⟨m, i, r1, l1, u1⟩ := read_fin f x h1
      unfold Format.order
      rw [r1, read_inf f y e2 hb]
      show some (if sg f y then Ordering.gt else Ordering.lt) = _
      congr 1
      unfold key
      rw [e2]
      cases sg f x <;> cases sg f y <;> first | exact (cmp_lt (by simp; omega)).symm | exact (cmp_gt (by simp; omega)).symm
  · have e1 : rg f x = f.infRung := by omega
    by_cases h2 : rg f y < f.infRung
    · obtain ⟨m, i, r1, l1, u1⟩ := read_fin f y h2
      unfold Format.order
      rw [r1, read_inf f x e1 hb]
      show some (if sg f x then Ordering.lt else Ordering.gt) = _
      congr 1
      unfold key
      rw [e1]
      cases sg f x <;> cases sg f y <;> first | exact (cmp_lt (by simp; omega)).symm | exact (cmp_gt (by simp; omega)).symm
    · have e2 : rg f y = f.infRung := by omega
      unfold Format.order
      rw [read_inf f x e1 hb, read_inf f y e2 hb]
      show some (compare (sg f y).toNat (sg f x).toNat) = _
      congr 1
      unfold key
      rw [e1, e2]
      have hpos : 0 < f.infRung := by omega
      cases sg f x <;> cases sg f y <;> first | exact (cmp_lt (by simp; omega)).symm | exact (cmp_gt (by simp; omega)).symm | exact (cmp_eq (by simp)).symm

theorem order_nan (hb : f.binade ≤ f.infRung) (x y : Nat) (h : f.infRung < rg f x ∨ f.infRung < rg f y) : f.order x y = none := by
  unfold Format.order
  rcases h with h | h
  · rw [read_nan f x h hb]; rfl
  · rw [read_nan f y h hb]
    cases f.read x <;> rfl

/-- A SUM, in units: exact, then rounded once. -/
theorem add_fin (x y : Nat) (hx : rg f x < f.infRung) (hy : rg f y < f.infRung) :
    f.add x y = some (f.word (if un f x + un f y = 0 then sg f x && sg f y else decide (un f x + un f y < 0)) (rung f (un f x + un f y).natAbs)) := by
  obtain ⟨m, i, r1, l1, u1⟩ := read_fin f x hx
  obtain ⟨n, j, r2, l2, u2⟩ := read_fin f y hy
  unfold Format.add
  rw [r1, r2]
  show some (f.nearest _ _ _) = _
  generalize ht : signed (sg f x) m (i - min i j).toNat + signed (sg f y) n (j - min i j).toNat = t
  have hsum : un f x + un f y = t * 2 ^ (min i j - f.leastPlace).toNat := by
    rw [un_of_read f u1, un_of_read f u2, ← signed_units _ _ _ (min i j) _ (by omega) (by omega), ← signed_units _ _ _ (min i j) _ (by omega) (by omega), ← Int.add_mul, ht]
  rw [nearest_units f _ _ _ (by omega), hsum]
  have hp : (0 : Int) < 2 ^ (min i j - f.leastPlace).toNat := by exact_mod_cast two_pow_pos _
  have e1 : (t * 2 ^ (min i j - f.leastPlace).toNat = 0) ↔ t = 0 := by
    constructor
    · intro h; rcases Int.mul_eq_zero.1 h with h | h
      · exact h
      · omega
    · intro h; rw [h, Int.zero_mul]
  have e2 : (t * 2 ^ (min i j - f.leastPlace).toNat < 0) ↔ t < 0 := by
    constructor
    · intro h
      by_cases h0 : t < 0
      · exact h0
      · have := Int.mul_nonneg (show 0 ≤ t by omega) (Int.le_of_lt hp); omega
    · intro h; exact Int.mul_neg_of_neg_of_pos h hp
  have e3 : (t * 2 ^ (min i j - f.leastPlace).toNat).natAbs = t.natAbs * 2 ^ (min i j - f.leastPlace).toNat := by
    rw [Int.natAbs_mul, Int.natAbs_pow]; rfl
  simp only [e1, e2, e3]

theorem sub_fin (x y : Nat) (hx : rg f x < f.infRung) (hy : rg f y < f.infRung) :
    f.sub x y = some (f.word (if un f x - un f y = 0 then sg f x && !sg f y else decide (un f x - un f y < 0)) (rung f (un f x - un f y).natAbs)) := by
  obtain ⟨m, i, r1, l1, u1⟩ := read_fin f x hx
  obtain ⟨n, j, r2, l2, u2⟩ := read_fin f y hy
  unfold Format.sub
  rw [r1, r2]
  show some (f.nearest _ _ _) = _
  generalize ht : signed (sg f x) m (i - min i j).toNat + signed (!sg f y) n (j - min i j).toNat = t
  have hneg : signed (!sg f y) n (j - min i j).toNat = - signed (sg f y) n (j - min i j).toNat := by
    unfold signed; cases sg f y <;> simp
  have hsum : un f x - un f y = t * 2 ^ (min i j - f.leastPlace).toNat := by
    rw [un_of_read f u1, un_of_read f u2, ← signed_units _ _ _ (min i j) _ (by omega) (by omega), ← signed_units _ _ _ (min i j) _ (by omega) (by omega), ← Int.sub_mul, ← ht, hneg, Int.sub_eq_add_neg]
  rw [nearest_units f _ _ _ (by omega), hsum]
  have hp : (0 : Int) < 2 ^ (min i j - f.leastPlace).toNat := by exact_mod_cast two_pow_pos _
  have e1 : (t * 2 ^ (min i j - f.leastPlace).toNat = 0) ↔ t = 0 := by
    constructor
    · intro h; rcases Int.mul_eq_zero.1 h with h | h
      · exact h
      · omega
    · intro h; rw [h, Int.zero_mul]
  have e2 : (t * 2 ^ (min i j - f.leastPlace).toNat < 0) ↔ t < 0 := by
    constructor
    · intro h
      by_cases h0 : t < 0
      · exact h0
      · have := Int.mul_nonneg (show 0 ≤ t by omega) (Int.le_of_lt hp); omega
    · intro h; exact Int.mul_neg_of_neg_of_pos h hp
  have e3 : (t * 2 ^ (min i j - f.leastPlace).toNat).natAbs = t.natAbs * 2 ^ (min i j - f.leastPlace).toNat := by
    rw [Int.natAbs_mul, Int.natAbs_pow]; rfl
  simp only [e1, e2, e3]

/-- how many places lie below the point -/
def deep : Nat := (-f.leastPlace).toNat

theorem nearest_deep (neg : Bool) (m : Nat) (e : Int) (s : Nat) (he : f.leastPlace - s ≤ e) : f.nearest neg m e = f.word neg (min (grid f (m * 2 ^ (e - (f.leastPlace - s)).toNat) s) f.infRung) := by
  by_cases h : f.leastPlace ≤ e
  · rw [nearest_units f neg m e h]
    unfold rung
    have : (e - (f.leastPlace - s)).toNat = (e - f.leastPlace).toNat + s := by omega
    rw [this, Nat.pow_add, ← Nat.mul_assoc]
    have g := grid_shift f (m * 2 ^ (e - f.leastPlace).toNat) s 0
    rw [Nat.zero_add] at g
    rw [g]
  · obtain ⟨k, hk⟩ := Int.eq_ofNat_of_zero_le (show 0 ≤ f.leastPlace - e by omega)
    have he' : e = f.leastPlace - k := by omega
    rw [he', nearest_below f neg m k]
    have hks : k ≤ s := by omega
    have : (f.leastPlace - k - (f.leastPlace - s)).toNat = s - k := by omega
    rw [this]
    have g := grid_shift f m (s - k) k
    rw [show k + (s - k) = s by omega] at g
    rw [g]

/-- A PRODUCT, in units of units. -/
theorem mul_fin (hl : f.leastPlace ≤ 0) (x y : Nat) (hx : rg f x < f.infRung) (hy : rg f y < f.infRung) :
    f.mul x y = some (f.word (sg f x ^^ sg f y) (min (grid f (mag f (rg f x) * mag f (rg f y)) (deep f)) f.infRung)) := by
  obtain ⟨m, i, r1, l1, u1⟩ := read_fin f x hx
  obtain ⟨n, j, r2, l2, u2⟩ := read_fin f y hy
  unfold Format.mul
  rw [r1, r2]
  show some (f.nearest _ _ _) = _
  have hd : ((deep f : Nat) : Int) = - f.leastPlace := by unfold deep; omega
  rw [nearest_deep f _ _ _ (deep f) (by omega), ← u1, ← u2]
  have : (i + j - (f.leastPlace - (deep f : Nat))).toNat = (i - f.leastPlace).toNat + (j - f.leastPlace).toNat := by omega
  rw [this, Nat.pow_add]
  have : m * n * (2 ^ (i - f.leastPlace).toNat * 2 ^ (j - f.leastPlace).toNat) = m * 2 ^ (i - f.leastPlace).toNat * (n * 2 ^ (j - f.leastPlace).toNat) := by
    rw [Nat.mul_mul_mul_comm]
  rw [this]

/-- an integer, as a word -/
theorem ofInt_fin (hl : f.leastPlace ≤ 0) (n : Int) : f.write (.number (n < 0) n.natAbs 0) = f.word (decide (n < 0)) (rung f (n.natAbs * 2 ^ deep f)) := by
  show f.nearest _ _ _ = _
  rw [nearest_units f _ _ _ hl]
  unfold deep
  congr 3
  simp
end Go.Proofs.YtmpcnhiklpahnaaDoor.Fp

namespace Go.Proofs.YtmpcnhiklpahnaaDoor.Fp
open Ieee

theorem dB : double.binade = 4503599627370496 := by decide
theorem dS : double.signWeight = 9223372036854775808 := by decide
theorem dI : double.infRung = 9218868437227405312 := by decide
theorem dL : double.leastPlace = -1074 := by decide
theorem dD : deep double = 1074 := by decide
theorem dF : 1 ≤ double.fractionBits := by decide
theorem dBI : double.binade ≤ double.infRung := by decide
theorem dL0 : double.leastPlace ≤ 0 := by decide
theorem sB : single.binade = 8388608 := by decide
theorem sS : single.signWeight = 2147483648 := by decide
theorem sI : single.infRung = 2139095040 := by decide
theorem sL : single.leastPlace = -149 := by decide
theorem sD : deep single = 149 := by decide
theorem sF : 1 ≤ single.fractionBits := by decide
theorem sBI : single.binade ≤ single.infRung := by decide
theorem sL0 : single.leastPlace ≤ 0 := by decide

/-- a NaN's bits -/
def isNaN64 (b : Nat) : Bool := decide (9218868437227405312 < b % 9223372036854775808)
def isNaN32 (b : Nat) : Bool := decide (2139095040 < b % 2147483648)

theorem rg64 (b : Nat) : rg double b = b % 9223372036854775808 := by unfold rg; rw [dS]
theorem rg32 (b : Nat) : rg single b = b % 2147483648 := by unfold rg; rw [sS]
theorem sg64 (b : Nat) : sg double b = (b / 9223372036854775808 % 2 == 1) := by unfold sg; rw [dS]
theorem sg32 (b : Nat) : sg single b = (b / 2147483648 % 2 == 1) := by unfold sg; rw [sS]

theorem nan64_iff (b : Nat) : isNaN64 b = true ↔ double.infRung < rg double b := by unfold isNaN64; rw [dI, rg64]; simp
theorem nan32_iff (b : Nat) : isNaN32 b = true ↔ single.infRung < rg single b := by unfold isNaN32; rw [sI, rg32]; simp

theorem order64_nan (x y : Nat) (h : isNaN64 x = true ∨ isNaN64 y = true) : double.order x y = none :=
  order_nan double dBI x y (h.imp (nan64_iff x).1 (nan64_iff y).1)
theorem order32_nan (x y : Nat) (h : isNaN32 x = true ∨ isNaN32 y = true) : single.order x y = none :=
  order_nan single sBI x y (h.imp (nan32_iff x).1 (nan32_iff y).1)

def key64 (b : Nat) : Int := if b / 9223372036854775808 % 2 = 1 then -((b % 9223372036854775808 : Nat) : Int) else ((b % 9223372036854775808 : Nat) : Int)
def key32 (b : Nat) : Int := if b / 2147483648 % 2 = 1 then -((b % 2147483648 : Nat) : Int) else ((b % 2147483648 : Nat) : Int)

theorem key_double (b : Nat) : key double b = key64 b := by unfold key key64; rw [sg64, rg64]; simp
theorem key_single (b : Nat) : key single b = key32 b := by unfold key key32; rw [sg32, rg32]; simp

theorem order64 (x y : Nat) (hx : isNaN64 x = false) (hy : isNaN64 y = false) : double.order x y = some (compare (key64 x) (key64 y)) := by
  have h1 := nan64_iff x
  have h2 := nan64_iff y
  rw [hx] at h1; rw [hy] at h2
  simp at h1 h2
  rw [order_key double dBI x y (by omega) (by omega), key_double, key_double]
theorem order32 (x y : Nat) (hx : isNaN32 x = false) (hy : isNaN32 y = false) : single.order x y = some (compare (key32 x) (key32 y)) := by
  have h1 := nan32_iff x
  have h2 := nan32_iff y
  rw [hx] at h1; rw [hy] at h2
  simp at h1 h2
  rw [order_key single sBI x y (by omega) (by omega), key_single, key_single]

theorem order64_self (x : Nat) : (double.order x x == some .eq) = !isNaN64 x := by
  cases h : isNaN64 x
  · rw [order64 x x h h, cmp_eq rfl]; rfl
  · rw [order64_nan x x (.inl h)]; rfl
theorem order32_self (x : Nat) : (single.order x x == some .eq) = !isNaN32 x := by
  cases h : isNaN32 x
  · rw [order32 x x h h, cmp_eq rfl]; rfl
  · rw [order32_nan x x (.inl h)]; rfl

/-- Go's six comparisons -/
theorem eq64 (x y : Nat) (hx : isNaN64 x = false) (hy : isNaN64 y = false) : (double.order x y == some .eq) = decide (key64 x = key64 y) := by
  rw [order64 x y hx hy]
  rcases Int.lt_trichotomy (key64 x) (key64 y) with h | h | h
  · rw [cmp_lt h, decide_eq_false (by omega)]; rfl
  · rw [cmp_eq h, decide_eq_true h]; rfl
  · rw [cmp_gt h, decide_eq_false (by omega)]; rfl
theorem lt64 (x y : Nat) (hx : isNaN64 x = false) (hy : isNaN64 y = false) : (double.order x y == some .lt) = decide (key64 x < key64 y) := by
  rw [order64 x y hx hy]
  rcases Int.lt_trichotomy (key64 x) (key64 y) with h | h | h
  · rw [cmp_lt h, decide_eq_true h]; rfl
  · rw [cmp_eq h, decide_eq_false (by omega)]; rfl
  · rw [cmp_gt h, decide_eq_false (by omega)]; rfl
theorem gt64 (x y : Nat) (hx : isNaN64 x = false) (hy : isNaN64 y = false) : (double.order x y == some .gt) = decide (key64 y < key64 x) := by
  rw [order64 x y hx hy]
  rcases Int.lt_trichotomy (key64 x) (key64 y) with h | h | h
  · rw [cmp_lt h, decide_eq_false (by omega)]; rfl
  · rw [cmp_eq h, decide_eq_false (by omega)]; rfl
  · rw [cmp_gt h, decide_eq_true h]; rfl
theorem eq32 (x y : Nat) (hx : isNaN32 x = false) (hy : isNaN32 y = false) : (single.order x y == some .eq) = decide (key32 x = key32 y) := by
  rw [order32 x y hx hy]
  rcases Int.lt_trichotomy (key32 x) (key32 y) with h | h | h
  · rw [cmp_lt h, decide_eq_false (by omega)]; rfl
  · rw [cmp_eq h, decide_eq_true h]; rfl
  · rw [cmp_gt h, decide_eq_false (by omega)]; rfl
end Go.Proofs.YtmpcnhiklpahnaaDoor.Fp

