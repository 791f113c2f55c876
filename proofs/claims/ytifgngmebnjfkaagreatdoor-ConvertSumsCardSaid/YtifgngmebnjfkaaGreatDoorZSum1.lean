/- What the law's walk rests on, part 1: contracts of functions and plain facts. -/
import Derived.Test.YtifgngmebnjfkaaGreatDoorRows
import Ieee.Arith
import Derived.WalkKit
import Derived.WalkSpells
import Derived.WalkLawsBesides
import Derived.BigQuiet
import Derived.Lib.Hide
import Derived.Lib.TrailingZeros
import Derived.Lib.BitFns
import Derived.Lib.Strings
import Derived.Lib.Slices
import Derived.Lib.Small
import Derived.Lib.Walk
import Derived.Deep.OwnRows
import Derived.OwnWalk
import Derived.LoopTactic
import Derived.Outline
import Derived.IntWalk
import Derived.OrdersHeld
import Derived.StillTail
import Derived.Deep.RegionHeld3
import Derived.Maps.AppendAt
import Derived.Deep.DeepCutAuto
import Derived.Deep.QuietTactic
import Derived.ProofKit
import Derived.OpenShut
import Derived.ShutString
import Derived.ChangeOld
import Derived.Below
import Derived.Deep.DeepHandedRow
import Derived.Deep.Strs
import Derived.Lib.LaidTab
set_option linter.unusedVariables false
set_option linter.unusedSimpArgs false
section
namespace Go.Proofs.YtifgngmebnjfkaaGreatDoor.Fp
open Ieee
theorem two_pow_pos (n : Nat) : 0 < 2 ^ n := Nat.two_pow_pos n
def rne (n g : Nat) : Nat := n / g + (if g < 2 * (n % g) ∨ (g = 2 * (n % g) ∧ n / g % 2 = 1) then 1 else 0)
theorem rne_one (n : Nat) : rne n 1 = n := by
  unfold rne
  simp [Nat.mod_one]
theorem rne_zero (g : Nat) (_hg : 0 < g) : rne 0 g = 0 := by
  unfold rne; simp
theorem rne_mul (q g : Nat) (hg : 0 < g) : rne (q * g) g = q := by
  unfold rne
  rw [Nat.mul_mod_left, Nat.mul_div_cancel _ hg]
  simp; omega
theorem rne_scale (n g k : Nat) (hk : 0 < k) : rne (n * k) (g * k) = rne n g := by
  unfold rne
  rw [Nat.mul_div_mul_right _ _ hk, Nat.mul_mod_mul_right]
  have e1 : (g * k < 2 * (n % g * k)) ↔ g < 2 * (n % g) := by
    rw [← Nat.mul_assoc]; exact Nat.mul_lt_mul_right hk
  have e2 : (g * k = 2 * (n % g * k)) ↔ g = 2 * (n % g) := by
    rw [← Nat.mul_assoc]; exact ⟨fun h => Nat.eq_of_mul_eq_mul_right hk h, fun h => congrArg (· * k) h⟩
  simp only [e1, e2]
theorem shiftLeft_eq (a b : Nat) : a <<< b = a * 2 ^ b := Nat.shiftLeft_eq a b
theorem cut_even (neg : Bool) (n drop : Nat) : Toward.even.cut neg n drop = rne n (2 ^ drop) := by
  unfold Toward.cut rne
  simp only [shiftLeft_eq, Nat.one_mul]
  have hlog : n < 2 ^ (n.log2 + 1) := Nat.lt_log2_self
  by_cases h : drop ≤ n.log2 + 2
  · rw [Nat.min_eq_left h]
    congr 1
    by_cases h1 : 2 ^ drop < 2 * (n % 2 ^ drop)
    · simp [h1]
    · by_cases h2 : 2 ^ drop = 2 * (n % 2 ^ drop)
      · by_cases h3 : n / 2 ^ drop % 2 = 1
        · have : ¬ 2 ^ drop < 2 ^ drop := by omega
          simp [← h2, h3]
        · simp [← h2, h3]
      · simp [h1, h2]
  · have h' : n.log2 + 2 ≤ drop := by omega
    rw [Nat.min_eq_right h']
    have hp : 2 ^ (n.log2 + 2) = 2 * 2 ^ (n.log2 + 1) := by rw [Nat.pow_succ]; omega
    have hle : 2 ^ (n.log2 + 2) ≤ 2 ^ drop := Nat.pow_le_pow_right (by omega) h'
    have d1 : n / 2 ^ (n.log2 + 2) = 0 := Nat.div_eq_of_lt (by omega)
    have d2 : n / 2 ^ drop = 0 := Nat.div_eq_of_lt (by omega)
    have m1 : n % 2 ^ (n.log2 + 2) = n := Nat.mod_eq_of_lt (by omega)
    have m2 : n % 2 ^ drop = n := Nat.mod_eq_of_lt (by omega)
    rw [d1, d2, m1, m2]
    have a1 : ¬ (2 ^ (n.log2 + 2) < 2 * n) := by omega
    have a2 : ¬ (2 ^ drop < 2 * n) := by omega
    simp [a1, a2]
variable (f : Format)
theorem binade_pos : 0 < f.binade := two_pow_pos _
def grid (m s : Nat) : Nat := (max (m.log2 - f.fractionBits) s - s) * f.binade + rne m (2 ^ max (m.log2 - f.fractionBits) s)
def rung (m : Nat) : Nat := min (grid f m 0) f.infRung
theorem grid_zero (s : Nat) : grid f 0 s = 0 := by
  unfold grid
  have : (0 : Nat).log2 = 0 := by simp
  rw [this, Nat.zero_sub, Nat.max_eq_right (Nat.zero_le _), Nat.sub_self, Nat.zero_mul, rne_zero _ (two_pow_pos _)]
theorem nearest_below (neg : Bool) (m s : Nat) : f.nearest neg m (f.leastPlace - s) = f.word neg (min (grid f m s) f.infRung) := by
  unfold Format.nearest
  by_cases hm : m = 0
  · subst hm; simp [grid_zero]
  · rw [if_neg hm]
    dsimp only
    rw [cut_even]
    have hlast : max (f.leastPlace - s + m.log2 - f.fractionBits) f.leastPlace = f.leastPlace + (max (m.log2 - f.fractionBits) s : Nat) - s := by omega
    rw [hlast]
    have h1 : (f.leastPlace - s - (f.leastPlace + (max (m.log2 - f.fractionBits) s : Nat) - s)).toNat = 0 := by omega
    have h2 : (f.leastPlace + (max (m.log2 - f.fractionBits) s : Nat) - s - (f.leastPlace - s)).toNat = max (m.log2 - f.fractionBits) s := by omega
    have h3 : (f.leastPlace + (max (m.log2 - f.fractionBits) s : Nat) - s - f.leastPlace).toNat = max (m.log2 - f.fractionBits) s - s := by omega
    rw [h1, h2, h3]
    rfl
theorem log2_mul_pow (m k : Nat) (hm : m ≠ 0) : (m * 2 ^ k).log2 = m.log2 + k := by
  have hp := two_pow_pos k
  have hne : m * 2 ^ k ≠ 0 := Nat.mul_ne_zero hm (by omega)
  rw [Nat.log2_eq_iff hne]
  have h1 := Nat.log2_self_le hm
  have h2 : m < 2 ^ (m.log2 + 1) := Nat.lt_log2_self
  constructor
  · rw [Nat.pow_add]; exact Nat.mul_le_mul_right _ h1
  · have : 2 ^ (m.log2 + k + 1) = 2 ^ (m.log2 + 1) * 2 ^ k := by rw [← Nat.pow_add]; congr 1; omega
    rw [this]; exact (Nat.mul_lt_mul_right hp).2 h2
theorem grid_shift (m k s : Nat) : grid f (m * 2 ^ k) (s + k) = grid f m s := by
  by_cases hm : m = 0
  · subst hm; simp [grid_zero]
  · unfold grid
    rw [log2_mul_pow m k hm]
    by_cases h : m.log2 - f.fractionBits ≤ s
    · rw [Nat.max_eq_right h, Nat.max_eq_right (by omega), Nat.pow_add, rne_scale _ _ _ (two_pow_pos k)]
      simp
    · have e1 : max (m.log2 - f.fractionBits) s = m.log2 - f.fractionBits := by omega
      have e2 : max (m.log2 + k - f.fractionBits) (s + k) = m.log2 - f.fractionBits + k := by omega
      rw [e1, e2, Nat.pow_add, rne_scale _ _ _ (two_pow_pos k)]
      congr 2; omega
theorem nearest_units (neg : Bool) (m : Nat) (e : Int) (he : f.leastPlace ≤ e) : f.nearest neg m e = f.word neg (rung f (m * 2 ^ (e - f.leastPlace).toNat)) := by
  by_cases hm : m = 0
  · subst hm
    simp [Format.nearest, rung, grid_zero]
  · obtain ⟨k, hk⟩ := Int.eq_ofNat_of_zero_le (show 0 ≤ e - f.leastPlace by omega)
    have ek : e = f.leastPlace + k := by omega
    subst ek
    rw [hk]
    simp only [Int.toNat_natCast]
    unfold Format.nearest
    rw [if_neg hm]
    dsimp only
    rw [cut_even]
    unfold rung grid
    rw [log2_mul_pow m k hm]
    by_cases h : m.log2 + k - f.fractionBits ≤ k
    · -- a shift to the left, or none
      by_cases h0 : m.log2 + k ≤ f.fractionBits
      · have hlast : max (f.leastPlace + k + m.log2 - f.fractionBits) f.leastPlace = f.leastPlace := by omega
        rw [hlast]
        have h1 : (f.leastPlace + k - f.leastPlace).toNat = k := by omega
        have h2 : (f.leastPlace - (f.leastPlace + k)).toNat = 0 := by omega
        have h3 : m.log2 + k - f.fractionBits = 0 := by omega
        rw [h1, h2, h3]
        simp [rne_one, shiftLeft_eq]
      · have hd : (m.log2 + k - f.fractionBits : Nat) = m.log2 + k - f.fractionBits := rfl
        have hlast : max (f.leastPlace + k + m.log2 - f.fractionBits) f.leastPlace = f.leastPlace + (m.log2 + k - f.fractionBits : Nat) := by omega
        rw [hlast]
        have h1 : (f.leastPlace + k - (f.leastPlace + (m.log2 + k - f.fractionBits : Nat))).toNat = k - (m.log2 + k - f.fractionBits) := by omega
        have h2 : (f.leastPlace + (m.log2 + k - f.fractionBits : Nat) - (f.leastPlace + k)).toNat = 0 := by omega
        have h3 : (f.leastPlace + (m.log2 + k - f.fractionBits : Nat) - f.leastPlace).toNat = m.log2 + k - f.fractionBits := by omega
        have h4 : max (m.log2 + k - f.fractionBits) 0 = m.log2 + k - f.fractionBits := by omega
        rw [h1, h2, h3, h4, shiftLeft_eq, Nat.pow_zero, rne_one]
        have h5 : m * 2 ^ k = (m * 2 ^ (k - (m.log2 + k - f.fractionBits))) * 2 ^ (m.log2 + k - f.fractionBits) := by
          rw [Nat.mul_assoc, ← Nat.pow_add]; congr 2; omega
        rw [h5, rne_mul _ _ (two_pow_pos _)]
        simp
    · have hlast : max (f.leastPlace + k + m.log2 - f.fractionBits) f.leastPlace = f.leastPlace + (m.log2 + k - f.fractionBits : Nat) := by omega
      rw [hlast]
      have h1 : (f.leastPlace + k - (f.leastPlace + (m.log2 + k - f.fractionBits : Nat))).toNat = 0 := by omega
      have h2 : (f.leastPlace + (m.log2 + k - f.fractionBits : Nat) - (f.leastPlace + k)).toNat = m.log2 - f.fractionBits := by omega
      have h3 : (f.leastPlace + (m.log2 + k - f.fractionBits : Nat) - f.leastPlace).toNat = m.log2 + k - f.fractionBits := by omega
      have h4 : max (m.log2 + k - f.fractionBits) 0 = m.log2 - f.fractionBits + k := by omega
      rw [h1, h2, h3, h4, shiftLeft_eq, Nat.pow_zero, Nat.mul_one, Nat.pow_add, rne_scale _ _ _ (two_pow_pos k)]
      congr 2
      simp
      congr 1
      omega
end Go.Proofs.YtifgngmebnjfkaaGreatDoor.Fp
namespace Go.Proofs.YtifgngmebnjfkaaGreatDoor.Fp
open Ieee
variable (f : Format)
def mag (r : Nat) : Nat := if r < f.binade then r else (f.binade + r % f.binade) * 2 ^ (r / f.binade - 1)
def step (r : Nat) : Nat := 2 ^ (r / f.binade - 1)
theorem step_pos (r : Nat) : 0 < step f r := two_pow_pos _
theorem mag_lt (r : Nat) (h : r < f.binade) : mag f r = r := if_pos h
theorem mag_zero : mag f 0 = 0 := if_pos (binade_pos f)
theorem mag_eq (r : Nat) : mag f r = (if r < f.binade then r else f.binade + r % f.binade) * step f r := by
  unfold mag step
  by_cases h : r < f.binade
  · rw [if_pos h, if_pos h, Nat.div_eq_of_lt h]; simp
  · rw [if_neg h, if_neg h]
theorem mag_succ (r : Nat) : mag f (r + 1) = mag f r + step f r := by
  have hB := binade_pos f
  unfold mag step
  by_cases h : r + 1 < f.binade
  · rw [if_pos h, if_pos (by omega), Nat.div_eq_of_lt (by omega)]
  · rw [if_neg h]
    by_cases h1 : r < f.binade
    · have e : r + 1 = f.binade := by omega
      rw [if_pos h1, e, Nat.mod_self, Nat.div_self hB, Nat.div_eq_of_lt h1]; simp; omega
    · rw [if_neg h1]
      have hq : 0 < r / f.binade := Nat.div_pos (by omega) hB
      have hd := Nat.div_add_mod r f.binade
      have hm := Nat.mod_lt r hB
      by_cases h2 : r % f.binade + 1 = f.binade
      · have e1 : r + 1 = f.binade * (r / f.binade + 1) := by rw [Nat.mul_add]; omega
        have e2 : (r + 1) % f.binade = 0 := by rw [e1]; exact Nat.mul_mod_right _ _
        have e3 : (r + 1) / f.binade = r / f.binade + 1 := by
          conv => lhs; rw [e1]
          exact Nat.mul_div_cancel_left _ hB
        rw [e2, e3]
        obtain ⟨q, hq'⟩ : ∃ q, r / f.binade = q + 1 := ⟨r / f.binade - 1, by omega⟩
        rw [hq']
        simp only [Nat.add_sub_cancel, Nat.add_zero]
        have : r % f.binade = f.binade - 1 := by omega
        rw [this, Nat.pow_succ]
        have hsub : f.binade + (f.binade - 1) = 2 * f.binade - 1 := by omega
        rw [hsub]
        have hp := two_pow_pos q
        have : (2 * f.binade - 1) * 2 ^ q + 2 ^ q = 2 * f.binade * 2 ^ q := by
          rw [← Nat.succ_mul]; congr 1; omega
        rw [this, Nat.mul_comm (2 ^ q) 2, ← Nat.mul_assoc, Nat.mul_comm f.binade 2]
      · have e1 : r + 1 = f.binade * (r / f.binade) + (r % f.binade + 1) := by omega
        have hlt : r % f.binade + 1 < f.binade := by omega
        have e2 : (r + 1) % f.binade = r % f.binade + 1 := by
          conv => lhs; rw [e1]
          rw [Nat.mul_add_mod, Nat.mod_eq_of_lt hlt]
        have e3 : (r + 1) / f.binade = r / f.binade := by
          conv => lhs; rw [e1]
          rw [Nat.mul_add_div hB, Nat.div_eq_of_lt hlt, Nat.add_zero]
        rw [e2, e3, ← Nat.add_assoc, Nat.succ_mul]
theorem mag_mono_lt {r r' : Nat} (h : r < r') : mag f r < mag f r' := by
  induction r' with
  | zero => omega
  | succ n ih =>
    have hs := step_pos f n
    rw [mag_succ]
    by_cases e : r = n
    · subst e; omega
    · have := ih (by omega); omega
theorem mag_mono {r r' : Nat} (h : r ≤ r') : mag f r ≤ mag f r' := by
  by_cases e : r = r'
  · subst e; exact Nat.le_refl _
  · exact Nat.le_of_lt (mag_mono_lt f (by omega))
theorem mag_lt_iff {r r' : Nat} : mag f r < mag f r' ↔ r < r' := by
  constructor
  · intro h
    by_cases e : r < r'
    · exact e
    · have := mag_mono f (show r' ≤ r by omega); omega
  · exact mag_mono_lt f
theorem mag_inj {r r' : Nat} : mag f r = mag f r' ↔ r = r' := by
  constructor
  · intro h
    rcases Nat.lt_trichotomy r r' with e | e | e
    · have := mag_mono_lt f e; omega
    · exact e
    · have := mag_mono_lt f e; omega
  · intro h; rw [h]
theorem le_mag (r : Nat) : r ≤ mag f r := by
  induction r with
  | zero => exact Nat.zero_le _
  | succ n ih => have := step_pos f n; rw [mag_succ]; omega
theorem floor_exists (m g : Nat) (hg : 0 < g) : ∃ r, mag f r * g ≤ m ∧ m < mag f (r + 1) * g := by
  have key : ∀ n, m < mag f n * g → ∃ r, mag f r * g ≤ m ∧ m < mag f (r + 1) * g := by
    intro n
    induction n with
    | zero => intro h; rw [mag_zero] at h; omega
    | succ n ih =>
      intro h
      by_cases h1 : m < mag f n * g
      · exact ih h1
      · exact ⟨n, by omega, h⟩
  refine key (m + 1) ?_
  have h1 := le_mag f (m + 1)
  have h2 : mag f (m + 1) * 1 ≤ mag f (m + 1) * g := Nat.mul_le_mul_left _ hg
  omega
theorem binade_even (hF : 1 ≤ f.fractionBits) : f.binade % 2 = 0 := by
  unfold Format.binade
  obtain ⟨k, hk⟩ : ∃ k, f.fractionBits = k + 1 := ⟨f.fractionBits - 1, by omega⟩
  rw [hk, Nat.pow_succ]; omega
theorem grid_between (hF : 1 ≤ f.fractionBits) (r s x : Nat) (hx : x < step f r * 2 ^ s) :
    grid f (mag f r * 2 ^ s + x) s = r + (if step f r * 2 ^ s < 2 * x ∨ (step f r * 2 ^ s = 2 * x ∧ r % 2 = 1) then 1 else 0) := by
  have hB := binade_pos f
  have hB2 := binade_even f hF
  have hs := two_pow_pos s
  by_cases h : r < f.binade
  · have hst : step f r = 1 := by unfold step; rw [Nat.div_eq_of_lt h]
    rw [hst, Nat.one_mul] at hx ⊢
    rw [mag_lt f r h]
    have hlt : r * 2 ^ s + x < f.binade * 2 ^ s := by
      have : (r + 1) * 2 ^ s ≤ f.binade * 2 ^ s := Nat.mul_le_mul_right _ (by omega)
      rw [Nat.succ_mul] at this; omega
    have hl : (r * 2 ^ s + x).log2 - f.fractionBits ≤ s := by
      by_cases h0 : r * 2 ^ s + x = 0
      · rw [h0]; simp
      · have : (r * 2 ^ s + x).log2 < f.fractionBits + s := by
          rw [Nat.log2_lt h0, Nat.pow_add]; exact hlt
        omega
    unfold grid
    rw [Nat.max_eq_right hl, Nat.sub_self, Nat.zero_mul, Nat.zero_add]
    unfold rne
    have e1 : (r * 2 ^ s + x) / 2 ^ s = r := by
      rw [Nat.mul_comm, Nat.mul_add_div hs, Nat.div_eq_of_lt hx, Nat.add_zero]
    have e2 : (r * 2 ^ s + x) % 2 ^ s = x := by
      rw [Nat.mul_comm, Nat.mul_add_mod, Nat.mod_eq_of_lt hx]
    rw [e1, e2]
  · have hq : 0 < r / f.binade := Nat.div_pos (by omega) hB
    have hd := Nat.div_add_mod r f.binade
    have hm := Nat.mod_lt r hB
    obtain ⟨q, hq'⟩ : ∃ q, r / f.binade = q + 1 := ⟨r / f.binade - 1, by omega⟩
    have hst : step f r = 2 ^ q := by unfold step; rw [hq']; rfl
    have hmag : mag f r = (f.binade + r % f.binade) * 2 ^ q := by rw [mag_eq, if_neg h, hst]
    generalize hc : f.binade + r % f.binade = c at hmag
    rw [hst, ← Nat.pow_add] at hx ⊢
    rw [hmag, Nat.mul_assoc, ← Nat.pow_add]
    have hp := two_pow_pos (q + s)
    have hlo : f.binade * 2 ^ (q + s) ≤ c * 2 ^ (q + s) + x := by
      have : f.binade * 2 ^ (q + s) ≤ c * 2 ^ (q + s) := Nat.mul_le_mul_right _ (by omega)
      omega
    have hhi : c * 2 ^ (q + s) + x < 2 * f.binade * 2 ^ (q + s) := by
      have : (c + 1) * 2 ^ (q + s) ≤ 2 * f.binade * 2 ^ (q + s) := Nat.mul_le_mul_right _ (by omega)
      rw [Nat.succ_mul] at this; omega
    have hl : (c * 2 ^ (q + s) + x).log2 = f.fractionBits + (q + s) := by
      have h0 : c * 2 ^ (q + s) + x ≠ 0 := by
        have : 0 < f.binade * 2 ^ (q + s) := Nat.mul_pos hB hp
        omega
      rw [Nat.log2_eq_iff h0]
      constructor
      · rw [Nat.pow_add]; exact hlo
      · have : 2 ^ (f.fractionBits + (q + s) + 1) = 2 * f.binade * 2 ^ (q + s) := by
          rw [Nat.pow_succ, Nat.pow_add]; unfold Format.binade
          rw [Nat.mul_comm _ 2, Nat.mul_assoc]
        rw [this]; exact hhi
    unfold grid
    rw [hl]
    have e0 : max (f.fractionBits + (q + s) - f.fractionBits) s = q + s := by omega
    rw [e0]
    unfold rne
    have e1 : (c * 2 ^ (q + s) + x) / 2 ^ (q + s) = c := by
      rw [Nat.mul_comm, Nat.mul_add_div hp, Nat.div_eq_of_lt hx, Nat.add_zero]
    have e2 : (c * 2 ^ (q + s) + x) % 2 ^ (q + s) = x := by
      rw [Nat.mul_comm, Nat.mul_add_mod, Nat.mod_eq_of_lt hx]
    rw [e1, e2]
    have e3 : c % 2 = r % 2 := by
      have h1 : (f.binade * (r / f.binade)) % 2 = 0 := by rw [Nat.mul_mod, hB2]; simp
      omega
    have e4 : (q + s - s) * f.binade + c = r := by
      have : q + s - s = q := by omega
      rw [this, ← hc]
      have : f.binade * (r / f.binade) = q * f.binade + f.binade := by rw [hq', Nat.mul_comm, Nat.succ_mul]
      omega
    rw [e3, ← Nat.add_assoc, e4]
theorem grid_mag (hF : 1 ≤ f.fractionBits) (r s : Nat) : grid f (mag f r * 2 ^ s) s = r := by
  have hpos : 0 < step f r * 2 ^ s := Nat.mul_pos (step_pos f r) (two_pow_pos s)
  have := grid_between f hF r s 0 hpos
  rw [Nat.add_zero] at this
  rw [this, if_neg (by omega)]; rfl
theorem grid_mono (hF : 1 ≤ f.fractionBits) (s : Nat) {m m' : Nat} (h : m ≤ m') : grid f m s ≤ grid f m' s := by
  obtain ⟨r, h1, h2⟩ := floor_exists f m (2 ^ s) (two_pow_pos s)
  obtain ⟨r', h1', h2'⟩ := floor_exists f m' (2 ^ s) (two_pow_pos s)
  have hlt : mag f r * 2 ^ s < mag f (r' + 1) * 2 ^ s := by omega
  have hrr : r < r' + 1 := (mag_lt_iff f).1 (Nat.lt_of_mul_lt_mul_right hlt)
  rw [mag_succ, Nat.add_mul] at h2 h2'
  have g := grid_between f hF r s (m - mag f r * 2 ^ s) (by omega)
  have g' := grid_between f hF r' s (m' - mag f r' * 2 ^ s) (by omega)
  rw [show mag f r * 2 ^ s + (m - mag f r * 2 ^ s) = m by omega] at g
  rw [show mag f r' * 2 ^ s + (m' - mag f r' * 2 ^ s) = m' by omega] at g'
  rw [g, g']
  by_cases e : r = r'
  · subst e
    split
    · rename_i hc
      rw [if_pos (by omega)]; omega
    · split <;> omega
  · split <;> split <;> omega
end Go.Proofs.YtifgngmebnjfkaaGreatDoor.Fp
namespace Go.Proofs.YtifgngmebnjfkaaGreatDoor.Fp
open Ieee
variable (f : Format)
def sg (w : Nat) : Bool := w / f.signWeight % 2 == 1
def rg (w : Nat) : Nat := w % f.signWeight
def un (w : Nat) : Int := if sg f w then -(mag f (rg f w) : Int) else mag f (rg f w)
def key (w : Nat) : Int := if sg f w then -(rg f w : Int) else rg f w
theorem weight_pos : 0 < f.signWeight := two_pow_pos _
theorem inf_lt : f.infRung < f.signWeight := by
  have h : 0 < 2 ^ f.exponentBits := two_pow_pos _
  have hb := binade_pos f
  have e : f.infRung + f.binade = f.signWeight := by
    unfold Format.infRung Format.signWeight
    rw [Nat.pow_add, ← Nat.succ_mul]
    exact congrArg (· * f.binade) (by omega)
  omega
theorem width_eq : 2 ^ f.width = 2 * f.signWeight := by
  unfold Format.width Format.signWeight
  rw [Nat.add_assoc, Nat.add_comm 1, Nat.pow_succ, Nat.mul_comm]
theorem sg_word (neg : Bool) (r : Nat) (h : r < f.signWeight) : sg f (f.word neg r) = neg := by
  have hp := weight_pos f
  unfold sg Format.word
  cases neg
  · simp [Nat.div_eq_of_lt h]
  · simp only [if_true]
    rw [show f.signWeight + r = f.signWeight * 1 + r by omega, Nat.mul_add_div hp, Nat.div_eq_of_lt h]; rfl
theorem rg_word (neg : Bool) (r : Nat) (h : r < f.signWeight) : rg f (f.word neg r) = r := by
  unfold rg Format.word
  cases neg
  · simp [Nat.mod_eq_of_lt h]
  · simp [Nat.mod_eq_of_lt h]
theorem word_sg_rg (w : Nat) (h : w < 2 ^ f.width) : f.word (sg f w) (rg f w) = w := by
  have hp := weight_pos f
  rw [width_eq] at h
  unfold sg rg Format.word
  by_cases h1 : w < f.signWeight
  · rw [Nat.div_eq_of_lt h1, Nat.mod_eq_of_lt h1]; rfl
  · have e : w = f.signWeight * 1 + (w - f.signWeight) := by omega
    have hlt : w - f.signWeight < f.signWeight := by omega
    have e1 : w / f.signWeight = 1 := by
      conv => lhs; rw [e]
      rw [Nat.mul_add_div hp, Nat.div_eq_of_lt hlt]
    have e2 : w % f.signWeight = w - f.signWeight := by
      conv => lhs; rw [e]
      rw [Nat.mul_add_mod, Nat.mod_eq_of_lt hlt]
    rw [e1, e2]; simp; omega
theorem read_fin (w : Nat) (h : rg f w < f.infRung) : ∃ m e, f.read w = .number (sg f w) m e ∧ f.leastPlace ≤ e ∧ m * 2 ^ (e - f.leastPlace).toNat = mag f (rg f w) := by
  unfold Format.read
  dsimp only
  have e0 : w % f.signWeight = rg f w := rfl
  rw [e0]
  by_cases h1 : rg f w < f.binade
  · rw [if_pos h1]
    exact ⟨_, _, rfl, Int.le_refl _, by rw [mag_lt f _ h1]; simp⟩
  · rw [if_neg h1, if_pos h]
    refine ⟨_, _, rfl, by omega, ?_⟩
    unfold mag
    rw [if_neg h1]
    congr 2
    omega
theorem read_inf (w : Nat) (h : rg f w = f.infRung) (hb : f.binade ≤ f.infRung) : f.read w = .infinity (sg f w) := by
  unfold Format.read
  dsimp only
  have e0 : w % f.signWeight = rg f w := rfl
  rw [e0, if_neg (by omega), if_neg (by omega), if_pos h]
  rfl
theorem read_nan (w : Nat) (h : f.infRung < rg f w) (hb : f.binade ≤ f.infRung) : f.read w = .nan (sg f w) (rg f w - f.infRung) := by
  unfold Format.read
  dsimp only
  have e0 : w % f.signWeight = rg f w := rfl
  rw [e0, if_neg (by omega), if_neg (by omega), if_neg (by omega)]
  rfl
theorem signed_units (s : Bool) (m : Nat) (e b l : Int) (hb : b ≤ e) (hl : l ≤ b) :
    signed s m (e - b).toNat * 2 ^ (b - l).toNat = if s then -((m * 2 ^ (e - l).toNat : Nat) : Int) else ((m * 2 ^ (e - l).toNat : Nat) : Int) := by
  have hpow : (e - l).toNat = (e - b).toNat + (b - l).toNat := by omega
  unfold signed
  rw [hpow, Nat.pow_add, ← Nat.mul_assoc, shiftLeft_eq]
  cases s
  · simp
  · simp [Int.neg_mul]
theorem un_of_read {w : Nat} {m : Nat} {e : Int} (h2 : m * 2 ^ (e - f.leastPlace).toNat = mag f (rg f w)) :
    un f w = if sg f w then -((m * 2 ^ (e - f.leastPlace).toNat : Nat) : Int) else ((m * 2 ^ (e - f.leastPlace).toNat : Nat) : Int) := by
  rw [h2]; rfl
theorem compare_scale (a b : Int) (k : Nat) : compare (a * 2 ^ k) (b * 2 ^ k) = compare a b := by
  have hp : (0 : Int) < 2 ^ k := by exact_mod_cast two_pow_pos k
  simp only [compare, compareOfLessAndEq]
  have e1 : (a * 2 ^ k < b * 2 ^ k) ↔ a < b := ⟨fun h => Int.lt_of_mul_lt_mul_right h (Int.le_of_lt hp), fun h => Int.mul_lt_mul_of_pos_right h hp⟩
  have e2 : (a * 2 ^ k = b * 2 ^ k) ↔ a = b := ⟨fun h => Int.eq_of_mul_eq_mul_right (by omega) h, fun h => by rw [h]⟩
  simp only [e1, e2]
theorem cmp_lt {a b : Int} (h : a < b) : compare a b = .lt := by simp [compare, compareOfLessAndEq, h]
theorem cmp_eq {a b : Int} (h : a = b) : compare a b = .eq := by subst h; simp [compare, compareOfLessAndEq]
theorem cmp_gt {a b : Int} (h : b < a) : compare a b = .gt := by
  have h1 : ¬ a < b := by omega
  have h2 : ¬ a = b := by omega
  simp [compare, compareOfLessAndEq, h1, h2]
theorem order_units (x y : Nat) (hx : rg f x < f.infRung) (hy : rg f y < f.infRung) : f.order x y = some (compare (un f x) (un f y)) := by
  obtain ⟨m, i, r1, l1, u1⟩ := read_fin f x hx
  obtain ⟨n, j, r2, l2, u2⟩ := read_fin f y hy
  unfold Format.order
  rw [r1, r2]
  show some (compare (signed (sg f x) m (i - min i j).toNat) (signed (sg f y) n (j - min i j).toNat)) = _
  rw [un_of_read f u1, un_of_read f u2]
  rw [← compare_scale _ _ (min i j - f.leastPlace).toNat, signed_units _ _ _ _ _ (by omega) (by omega), signed_units _ _ _ _ _ (by omega) (by omega)]
theorem un_lt_iff (x y : Nat) : un f x < un f y ↔ key f x < key f y := by
  have h1 := @mag_lt_iff f (rg f x) (rg f y)
  have h2 := @mag_lt_iff f (rg f y) (rg f x)
  have h3 := le_mag f (rg f x)
  have h4 := le_mag f (rg f y)
  have h5 : rg f x = 0 → mag f (rg f x) = 0 := fun h => by rw [h, mag_zero]
  have h6 : rg f y = 0 → mag f (rg f y) = 0 := fun h => by rw [h, mag_zero]
  unfold un key
  cases sg f x <;> cases sg f y <;> simp <;> omega
theorem un_eq_iff (x y : Nat) : un f x = un f y ↔ key f x = key f y := by
  have h1 := un_lt_iff f x y
  have h2 := un_lt_iff f y x
  omega
theorem order_key (hb : f.binade ≤ f.infRung) (x y : Nat) (hx : rg f x ≤ f.infRung) (hy : rg f y ≤ f.infRung) : f.order x y = some (compare (key f x) (key f y)) := by
  have hB := binade_pos f
  by_cases h1 : rg f x < f.infRung
  · by_cases h2 : rg f y < f.infRung
    · rw [order_units f x y h1 h2]
      have a := un_lt_iff f x y
      have b := un_eq_iff f x y
      simp only [compare, compareOfLessAndEq, a, b]
    · have e2 : rg f y = f.infRung := by omega
      obtain ⟨m, i, r1, l1, u1⟩ := read_fin f x h1
      unfold Format.order
      rw [r1, read_inf f y e2 hb]
      show some (if sg f y then Ordering.gt else Ordering.lt) = _
      congr 1
      unfold key
      rw [e2]
      cases sg f x <;> cases sg f y <;> first | exact (cmp_lt (by simp; omega)).symm | exact (cmp_gt (by simp; omega)).symm
  · have e1 : rg f x = f.infRung := by omega
    by_cases h2 : rg f y < f.infRung
    · obtain ⟨m, i, r1, l1, u1⟩ := read_fin f y h2
      unfold Format.order
      rw [r1, read_inf f x e1 hb]
      show some (if sg f x then Ordering.lt else Ordering.gt) = _
      congr 1
      unfold key
      rw [e1]
      cases sg f x <;> cases sg f y <;> first | exact (cmp_lt (by simp; omega)).symm | exact (cmp_gt (by simp; omega)).symm
    · have e2 : rg f y = f.infRung := by omega
      unfold Format.order
      rw [read_inf f x e1 hb, read_inf f y e2 hb]
      show some (compare (sg f y).toNat (sg f x).toNat) = _
      congr 1
      unfold key
      rw [e1, e2]
      have hpos : 0 < f.infRung := by omega
      cases sg f x <;> cases sg f y <;> first | exact (cmp_lt (by simp; omega)).symm | exact (cmp_gt (by simp; omega)).symm | exact (cmp_eq (by simp)).symm
theorem order_nan (hb : f.binade ≤ f.infRung) (x y : Nat) (h : f.infRung < rg f x ∨ f.infRung < rg f y) : f.order x y = none := by
  unfold Format.order
  rcases h with h | h
  · rw [read_nan f x h hb]; rfl
  · rw [read_nan f y h hb]
    cases f.read x <;> rfl
theorem add_fin (x y : Nat) (hx : rg f x < f.infRung) (hy : rg f y < f.infRung) :
    f.add x y = some (f.word (if un f x + un f y = 0 then sg f x && sg f y else decide (un f x + un f y < 0)) (rung f (un f x + un f y).natAbs)) := by
  obtain ⟨m, i, r1, l1, u1⟩ := read_fin f x hx
  obtain ⟨n, j, r2, l2, u2⟩ := read_fin f y hy
  unfold Format.add
  rw [r1, r2]
  show some (f.nearest _ _ _) = _
  generalize ht : signed (sg f x) m (i - min i j).toNat + signed (sg f y) n (j - min i j).toNat = t
  have hsum : un f x + un f y = t * 2 ^ (min i j - f.leastPlace).toNat := by
    rw [un_of_read f u1, un_of_read f u2, ← signed_units _ _ _ (min i j) _ (by omega) (by omega), ← signed_units _ _ _ (min i j) _ (by omega) (by omega), ← Int.add_mul, ht]
  rw [nearest_units f _ _ _ (by omega), hsum]
  have hp : (0 : Int) < 2 ^ (min i j - f.leastPlace).toNat := by exact_mod_cast two_pow_pos _
  have e1 : (t * 2 ^ (min i j - f.leastPlace).toNat = 0) ↔ t = 0 := by
    constructor
    · intro h; rcases Int.mul_eq_zero.1 h with h | h
      · exact h
      · omega
    · intro h; rw [h, Int.zero_mul]
  have e2 : (t * 2 ^ (min i j - f.leastPlace).toNat < 0) ↔ t < 0 := by
    constructor
    · intro h
      by_cases h0 : t < 0
      · exact h0
      · have := Int.mul_nonneg (show 0 ≤ t by omega) (Int.le_of_lt hp); omega
    · intro h; exact Int.mul_neg_of_neg_of_pos h hp
  have e3 : (t * 2 ^ (min i j - f.leastPlace).toNat).natAbs = t.natAbs * 2 ^ (min i j - f.leastPlace).toNat := by
    rw [Int.natAbs_mul, Int.natAbs_pow]; rfl
  simp only [e1, e2, e3]
theorem sub_fin (x y : Nat) (hx : rg f x < f.infRung) (hy : rg f y < f.infRung) :
    f.sub x y = some (f.word (if un f x - un f y = 0 then sg f x && !sg f y else decide (un f x - un f y < 0)) (rung f (un f x - un f y).natAbs)) := by
  obtain ⟨m, i, r1, l1, u1⟩ := read_fin f x hx
  obtain ⟨n, j, r2, l2, u2⟩ := read_fin f y hy
  unfold Format.sub
  rw [r1, r2]
  show some (f.nearest _ _ _) = _
  generalize ht : signed (sg f x) m (i - min i j).toNat + signed (!sg f y) n (j - min i j).toNat = t
  have hneg : signed (!sg f y) n (j - min i j).toNat = - signed (sg f y) n (j - min i j).toNat := by
    unfold signed; cases sg f y <;> simp
  have hsum : un f x - un f y = t * 2 ^ (min i j - f.leastPlace).toNat := by
    rw [un_of_read f u1, un_of_read f u2, ← signed_units _ _ _ (min i j) _ (by omega) (by omega), ← signed_units _ _ _ (min i j) _ (by omega) (by omega), ← Int.sub_mul, ← ht, hneg, Int.sub_eq_add_neg]
  rw [nearest_units f _ _ _ (by omega), hsum]
  have hp : (0 : Int) < 2 ^ (min i j - f.leastPlace).toNat := by exact_mod_cast two_pow_pos _
  have e1 : (t * 2 ^ (min i j - f.leastPlace).toNat = 0) ↔ t = 0 := by
    constructor
    · intro h; rcases Int.mul_eq_zero.1 h with h | h
      · exact h
      · omega
    · intro h; rw [h, Int.zero_mul]
  have e2 : (t * 2 ^ (min i j - f.leastPlace).toNat < 0) ↔ t < 0 := by
    constructor
    · intro h
      by_cases h0 : t < 0
      · exact h0
      · have := Int.mul_nonneg (show 0 ≤ t by omega) (Int.le_of_lt hp); omega
    · intro h; exact Int.mul_neg_of_neg_of_pos h hp
  have e3 : (t * 2 ^ (min i j - f.leastPlace).toNat).natAbs = t.natAbs * 2 ^ (min i j - f.leastPlace).toNat := by
    rw [Int.natAbs_mul, Int.natAbs_pow]; rfl
  simp only [e1, e2, e3]
def deep : Nat := (-f.leastPlace).toNat
theorem nearest_deep (neg : Bool) (m : Nat) (e : Int) (s : Nat) (he : f.leastPlace - s ≤ e) : f.nearest neg m e = f.word neg (min (grid f (m * 2 ^ (e - (f.leastPlace - s)).toNat) s) f.infRung) := by
  by_cases h : f.leastPlace ≤ e
  · rw [nearest_units f neg m e h]
    unfold rung
    have : (e - (f.leastPlace - s)).toNat = (e - f.leastPlace).toNat + s := by omega
    rw [this, Nat.pow_add, ← Nat.mul_assoc]
    have g := grid_shift f (m * 2 ^ (e - f.leastPlace).toNat) s 0
    rw [Nat.zero_add] at g
    rw [g]
  · obtain ⟨k, hk⟩ := Int.eq_ofNat_of_zero_le (show 0 ≤ f.leastPlace - e by omega)
    have he' : e = f.leastPlace - k := by omega
    rw [he', nearest_below f neg m k]
    have hks : k ≤ s := by omega
    have : (f.leastPlace - k - (f.leastPlace - s)).toNat = s - k := by omega
    rw [this]
    have g := grid_shift f m (s - k) k
    rw [show k + (s - k) = s by omega] at g
    rw [g]
theorem mul_fin (hl : f.leastPlace ≤ 0) (x y : Nat) (hx : rg f x < f.infRung) (hy : rg f y < f.infRung) :
    f.mul x y = some (f.word (sg f x ^^ sg f y) (min (grid f (mag f (rg f x) * mag f (rg f y)) (deep f)) f.infRung)) := by
  obtain ⟨m, i, r1, l1, u1⟩ := read_fin f x hx
  obtain ⟨n, j, r2, l2, u2⟩ := read_fin f y hy
  unfold Format.mul
  rw [r1, r2]
  show some (f.nearest _ _ _) = _
  have hd : ((deep f : Nat) : Int) = - f.leastPlace := by unfold deep; omega
  rw [nearest_deep f _ _ _ (deep f) (by omega), ← u1, ← u2]
  have : (i + j - (f.leastPlace - (deep f : Nat))).toNat = (i - f.leastPlace).toNat + (j - f.leastPlace).toNat := by omega
  rw [this, Nat.pow_add]
  have : m * n * (2 ^ (i - f.leastPlace).toNat * 2 ^ (j - f.leastPlace).toNat) = m * 2 ^ (i - f.leastPlace).toNat * (n * 2 ^ (j - f.leastPlace).toNat) := by
    rw [Nat.mul_mul_mul_comm]
  rw [this]
theorem ofInt_fin (hl : f.leastPlace ≤ 0) (n : Int) : f.write (.number (n < 0) n.natAbs 0) = f.word (decide (n < 0)) (rung f (n.natAbs * 2 ^ deep f)) := by
  show f.nearest _ _ _ = _
  rw [nearest_units f _ _ _ hl]
  unfold deep
  congr 3
  simp
end Go.Proofs.YtifgngmebnjfkaaGreatDoor.Fp
namespace Go.Proofs.YtifgngmebnjfkaaGreatDoor.Fp
open Ieee
theorem dB : double.binade = 4503599627370496 := by decide
theorem dS : double.signWeight = 9223372036854775808 := by decide
theorem dI : double.infRung = 9218868437227405312 := by decide
theorem dL : double.leastPlace = -1074 := by decide
theorem dD : deep double = 1074 := by decide
theorem dF : 1 ≤ double.fractionBits := by decide
theorem dBI : double.binade ≤ double.infRung := by decide
theorem dL0 : double.leastPlace ≤ 0 := by decide
theorem sB : single.binade = 8388608 := by decide
theorem sS : single.signWeight = 2147483648 := by decide
theorem sI : single.infRung = 2139095040 := by decide
theorem sL : single.leastPlace = -149 := by decide
theorem sF : 1 ≤ single.fractionBits := by decide
theorem sBI : single.binade ≤ single.infRung := by decide
def isNaN64 (b : Nat) : Bool := decide (9218868437227405312 < b % 9223372036854775808)
def isNaN32 (b : Nat) : Bool := decide (2139095040 < b % 2147483648)
theorem rg64 (b : Nat) : rg double b = b % 9223372036854775808 := by unfold rg; rw [dS]
theorem rg32 (b : Nat) : rg single b = b % 2147483648 := by unfold rg; rw [sS]
theorem sg64 (b : Nat) : sg double b = (b / 9223372036854775808 % 2 == 1) := by unfold sg; rw [dS]
theorem sg32 (b : Nat) : sg single b = (b / 2147483648 % 2 == 1) := by unfold sg; rw [sS]
theorem nan64_iff (b : Nat) : isNaN64 b = true ↔ double.infRung < rg double b := by unfold isNaN64; rw [dI, rg64]; simp
theorem nan32_iff (b : Nat) : isNaN32 b = true ↔ single.infRung < rg single b := by unfold isNaN32; rw [sI, rg32]; simp
theorem order64_nan (x y : Nat) (h : isNaN64 x = true ∨ isNaN64 y = true) : double.order x y = none :=
  order_nan double dBI x y (h.imp (nan64_iff x).1 (nan64_iff y).1)
theorem order32_nan (x y : Nat) (h : isNaN32 x = true ∨ isNaN32 y = true) : single.order x y = none :=
  order_nan single sBI x y (h.imp (nan32_iff x).1 (nan32_iff y).1)
def key64 (b : Nat) : Int := if b / 9223372036854775808 % 2 = 1 then -((b % 9223372036854775808 : Nat) : Int) else ((b % 9223372036854775808 : Nat) : Int)
def key32 (b : Nat) : Int := if b / 2147483648 % 2 = 1 then -((b % 2147483648 : Nat) : Int) else ((b % 2147483648 : Nat) : Int)
theorem key_double (b : Nat) : key double b = key64 b := by unfold key key64; rw [sg64, rg64]; simp
theorem key_single (b : Nat) : key single b = key32 b := by unfold key key32; rw [sg32, rg32]; simp
theorem order64 (x y : Nat) (hx : isNaN64 x = false) (hy : isNaN64 y = false) : double.order x y = some (compare (key64 x) (key64 y)) := by
  have h1 := nan64_iff x
  have h2 := nan64_iff y
  rw [hx] at h1; rw [hy] at h2
  simp at h1 h2
  rw [order_key double dBI x y (by omega) (by omega), key_double, key_double]
theorem order32 (x y : Nat) (hx : isNaN32 x = false) (hy : isNaN32 y = false) : single.order x y = some (compare (key32 x) (key32 y)) := by
  have h1 := nan32_iff x
  have h2 := nan32_iff y
  rw [hx] at h1; rw [hy] at h2
  simp at h1 h2
  rw [order_key single sBI x y (by omega) (by omega), key_single, key_single]
theorem order64_self (x : Nat) : (double.order x x == some .eq) = !isNaN64 x := by
  cases h : isNaN64 x
  · rw [order64 x x h h, cmp_eq rfl]; rfl
  · rw [order64_nan x x (.inl h)]; rfl
theorem order32_self (x : Nat) : (single.order x x == some .eq) = !isNaN32 x := by
  cases h : isNaN32 x
  · rw [order32 x x h h, cmp_eq rfl]; rfl
  · rw [order32_nan x x (.inl h)]; rfl
theorem eq64 (x y : Nat) (hx : isNaN64 x = false) (hy : isNaN64 y = false) : (double.order x y == some .eq) = decide (key64 x = key64 y) := by
  rw [order64 x y hx hy]
  rcases Int.lt_trichotomy (key64 x) (key64 y) with h | h | h
  · rw [cmp_lt h, decide_eq_false (by omega)]; rfl
  · rw [cmp_eq h, decide_eq_true h]; rfl
  · rw [cmp_gt h, decide_eq_false (by omega)]; rfl
theorem lt64 (x y : Nat) (hx : isNaN64 x = false) (hy : isNaN64 y = false) : (double.order x y == some .lt) = decide (key64 x < key64 y) := by
  rw [order64 x y hx hy]
  rcases Int.lt_trichotomy (key64 x) (key64 y) with h | h | h
  · rw [cmp_lt h, decide_eq_true h]; rfl
  · rw [cmp_eq h, decide_eq_false (by omega)]; rfl
  · rw [cmp_gt h, decide_eq_false (by omega)]; rfl
theorem gt64 (x y : Nat) (hx : isNaN64 x = false) (hy : isNaN64 y = false) : (double.order x y == some .gt) = decide (key64 y < key64 x) := by
  rw [order64 x y hx hy]
  rcases Int.lt_trichotomy (key64 x) (key64 y) with h | h | h
  · rw [cmp_lt h, decide_eq_false (by omega)]; rfl
  · rw [cmp_eq h, decide_eq_false (by omega)]; rfl
  · rw [cmp_gt h, decide_eq_true h]; rfl
theorem eq32 (x y : Nat) (hx : isNaN32 x = false) (hy : isNaN32 y = false) : (single.order x y == some .eq) = decide (key32 x = key32 y) := by
  rw [order32 x y hx hy]
  rcases Int.lt_trichotomy (key32 x) (key32 y) with h | h | h
  · rw [cmp_lt h, decide_eq_false (by omega)]; rfl
  · rw [cmp_eq h, decide_eq_true h]; rfl
  · rw [cmp_gt h, decide_eq_false (by omega)]; rfl
end Go.Proofs.YtifgngmebnjfkaaGreatDoor.Fp
end

section
namespace Go.Proofs.YtifgngmebnjfkaaGreatDoor.Fp
open Ieee
variable (f : Format)
def num (s : Bool) (n : Nat) : Nat := f.word s (grid f n 0)
def Rep (n : Nat) : Prop := grid f n 0 < f.infRung ∧ mag f (grid f n 0) = n
def Is (a : Nat) (s : Bool) (n : Nat) : Prop := a < 2 ^ f.width ∧ rg f a < f.infRung ∧ sg f a = s ∧ mag f (rg f a) = n
theorem grid_of_mag (hF : 1 ≤ f.fractionBits) (r : Nat) : grid f (mag f r) 0 = r := by
  have := grid_mag f hF r 0
  rwa [Nat.pow_zero, Nat.mul_one] at this
theorem rep_mag (hF : 1 ≤ f.fractionBits) {r : Nat} (h : r < f.infRung) : Rep f (mag f r) := by
  unfold Rep; rw [grid_of_mag f hF]; exact ⟨h, rfl⟩
variable {f}
theorem Is.eq {a : Nat} {s : Bool} {n : Nat} (hF : 1 ≤ f.fractionBits) (h : Is f a s n) : a = num f s n := by
  obtain ⟨h1, _, h3, h4⟩ := h
  unfold num
  rw [← h4, grid_of_mag f hF, ← h3]
  exact (word_sg_rg f a h1).symm
theorem Rep.is {n : Nat} (h : Rep f n) (s : Bool) : Is f (num f s n) s n := by
  obtain ⟨h1, h2⟩ := h
  have hl := inf_lt f
  have h3 : grid f n 0 < f.signWeight := by omega
  refine ⟨?_, by unfold num; rw [rg_word f s _ h3]; exact h1, sg_word f s _ h3, by unfold num; rw [rg_word f s _ h3]; exact h2⟩
  rw [width_eq]
  unfold num Format.word
  split <;> omega
variable (f)
theorem rep_of {n : Nat} (q j : Nat) (h : n = q * 2 ^ j) (hq : q < 2 ^ (f.fractionBits + 1)) (hn : n < mag f f.infRung) : Rep f n := by
  have key : mag f (grid f n 0) = n := by
    by_cases h0 : q = 0
    · subst h0; rw [Nat.zero_mul] at h; subst h; rw [grid_zero, mag_zero]
    · have hl : n.log2 = q.log2 + j := by rw [h]; exact log2_mul_pow q j h0
      have hqL : q.log2 < f.fractionBits + 1 := (Nat.log2_lt h0).2 hq
      have hB := binade_pos f
      have hn0 : n ≠ 0 := by rw [h]; exact Nat.mul_ne_zero h0 (Nat.ne_of_gt (two_pow_pos j))
      unfold grid
      rw [hl]
      by_cases hs : q.log2 + j ≤ f.fractionBits
      · rw [show max (q.log2 + j - f.fractionBits) 0 = 0 by omega, Nat.pow_zero, rne_one]
        simp only [Nat.sub_self, Nat.zero_mul, Nat.zero_add]
        by_cases hb : n < f.binade
        · exact mag_lt f n hb
        · have h2 : n < 2 * f.binade := by
            have := Nat.lt_log2_self (n := n)
            rw [hl] at this
            have h3 : 2 ^ (q.log2 + j + 1) ≤ 2 ^ (f.fractionBits + 1) := Nat.pow_le_pow_right (by decide) (by omega)
            rw [Nat.pow_succ _ f.fractionBits] at h3
            unfold Format.binade; omega
          have hd : n / f.binade = 1 := by
            rw [show n = f.binade * 1 + (n - f.binade) by omega, Nat.mul_add_div hB, Nat.div_eq_of_lt (by omega)]
          have hm : n % f.binade = n - f.binade := by rw [Nat.mod_eq_sub_mod (by omega), Nat.mod_eq_of_lt (by omega)]
          unfold mag
          rw [if_neg hb, hd, hm, Nat.sub_self, Nat.pow_zero]; omega
      · obtain ⟨t, ht⟩ : ∃ t, q.log2 + j - f.fractionBits = t + 1 := ⟨q.log2 + j - f.fractionBits - 1, by omega⟩
        rw [show max (q.log2 + j - f.fractionBits) 0 = t + 1 by omega, Nat.sub_zero]
        have hc : n = q * 2 ^ (j - (t + 1)) * 2 ^ (t + 1) := by rw [h, Nat.mul_assoc, ← Nat.pow_add]; congr 2; omega
        have hcl : (q * 2 ^ (j - (t + 1))).log2 = f.fractionBits := by rw [log2_mul_pow q _ h0]; omega
        have hc0 : q * 2 ^ (j - (t + 1)) ≠ 0 := Nat.mul_ne_zero h0 (Nat.ne_of_gt (two_pow_pos _))
        have c1 := Nat.log2_self_le hc0
        have c2 := Nat.lt_log2_self (n := q * 2 ^ (j - (t + 1)))
        rw [hcl] at c1 c2
        generalize q * 2 ^ (j - (t + 1)) = c at *
        rw [hc, rne_mul _ _ (two_pow_pos _)]
        rw [Nat.pow_succ] at c2
        have c1' : f.binade ≤ c := c1
        have c2' : c < 2 * f.binade := by unfold Format.binade; omega
        have hr : (t + 1) * f.binade + c = f.binade * (t + 2) + (c - f.binade) := by
          rw [Nat.mul_comm f.binade, show t + 2 = t + 1 + 1 from rfl, Nat.succ_mul (t + 1)]; omega
        rw [hr]
        have hnb : ¬ f.binade * (t + 2) + (c - f.binade) < f.binade := by
          have : f.binade * 2 ≤ f.binade * (t + 2) := Nat.mul_le_mul_left _ (by omega)
          omega
        unfold mag
        rw [if_neg hnb, Nat.mul_add_mod, Nat.mod_eq_of_lt (by omega), Nat.mul_add_div hB, Nat.div_eq_of_lt (show c - f.binade < f.binade by omega), Nat.add_zero,
          show t + 2 - 1 = t + 1 from rfl, show f.binade + (c - f.binade) = c by omega]
  refine ⟨?_, key⟩
  rw [← mag_lt_iff f, key]; exact hn
def sgap : Nat := 925
def dtop : Nat := 2098
theorem sgap_eq : sgap = 925 := rfl
theorem pow_join {a b c : Nat} (h : a + b = c) : 2 ^ a * 2 ^ b = 2 ^ c := by rw [← Nat.pow_add, h]
theorem mag_infD : mag double double.infRung = 2 ^ dtop := by
  have e : mag double double.infRung = (4503599627370496 + 9218868437227405312 % 4503599627370496) * 2 ^ (9218868437227405312 / 4503599627370496 - 1) := by
    unfold mag; rw [if_neg (by decide), dB, dI]
  obtain ⟨k, hk⟩ : ∃ k, k = 9218868437227405312 / 4503599627370496 - 1 := ⟨_, rfl⟩
  have e2 : 4503599627370496 + 9218868437227405312 % 4503599627370496 = 2 ^ 52 := by omega
  rw [← hk, e2] at e
  exact e.trans (pow_join (by unfold dtop; omega))
theorem top_aux {a b c d : Nat} (h : a + b + c ≤ d) : 2 ^ a * 2 ^ b * 2 ^ c ≤ 2 ^ d := by
  rw [← Nat.pow_add, ← Nat.pow_add]; exact Nat.pow_le_pow_right (by decide) h
theorem top_le : mag single single.infRung * 2 ^ sgap ≤ 2 ^ dtop := by
  have h : mag single single.infRung ≤ 2 ^ 200 * 2 ^ 200 := by decide +kernel
  exact Nat.le_trans (Nat.mul_le_mul_right _ h) (top_aux (by unfold sgap dtop; omega))
theorem mul_is (hl : f.leastPlace ≤ 0) {a b n m p : Nat} {s t : Bool} (ha : Is f a s n) (hb : Is f b t m) (h : n * m = p * 2 ^ deep f) (hp : Rep f p) : f.mul a b = some (num f (s ^^ t) p) := by
  obtain ⟨_, a2, a3, a4⟩ := ha
  obtain ⟨_, b2, b3, b4⟩ := hb
  rw [mul_fin f hl a b a2 b2, a3, a4, b3, b4, h]
  have g := grid_shift f p (deep f) 0
  rw [Nat.zero_add] at g
  rw [g, Nat.min_eq_left (Nat.le_of_lt hp.1)]; rfl
theorem int_is (hl : f.leastPlace ≤ 0) (n : Int) (h : Rep f (n.natAbs * 2 ^ deep f)) : f.write (.number (n < 0) n.natAbs 0) = num f (decide (n < 0)) (n.natAbs * 2 ^ deep f) := by
  rw [ofInt_fin f hl n]
  unfold rung
  rw [Nat.min_eq_left (Nat.le_of_lt h.1)]; rfl
def val (s : Bool) (n : Nat) : Int := if s then -(n : Int) else n
theorem Is.un {f : Format} {a : Nat} {s : Bool} {n : Nat} (h : Is f a s n) : un f a = val s n := by
  obtain ⟨_, _, h3, h4⟩ := h
  unfold Fp.un val; rw [h3, h4]
theorem Is.read {f : Format} {a n : Nat} {s : Bool} (h : Is f a s n) : ∃ m e, f.read a = .number s m e ∧ f.leastPlace ≤ e ∧ m * 2 ^ (e - f.leastPlace).toNat = n := by
  obtain ⟨_, h2, h3, h4⟩ := h
  obtain ⟨m, e, r1, l1, u1⟩ := read_fin f a h2
  exact ⟨m, e, by rw [r1, h3], l1, by rw [u1, h4]⟩
theorem widen_is {a n : Nat} {s : Bool} (h : Is single a s n) : double.write (single.read a) = num double s (n * 2 ^ sgap) ∧ Rep double (n * 2 ^ sgap) := by
  have hF := sF
  have hrep : Rep double (n * 2 ^ sgap) := by
    obtain ⟨_, h2, _, h4⟩ := h
    have hlt : n < mag single single.infRung := by rw [← h4]; exact mag_mono_lt single h2
    have hb : n * 2 ^ sgap < mag double double.infRung := by
      rw [mag_infD]
      have h5 : n * 2 ^ sgap < mag single single.infRung * 2 ^ sgap := Nat.mul_lt_mul_of_pos_right hlt (two_pow_pos _)
      exact Nat.lt_of_lt_of_le h5 top_le
    rw [mag_eq] at h4
    generalize hq : (if rg single a < single.binade then rg single a else single.binade + rg single a % single.binade) = q at h4
    have hq2 : q < 2 ^ 53 := by
      rw [← hq]
      have hm := Nat.mod_lt (rg single a) (binade_pos single)
      rw [sB] at *
      split
      · exact Nat.lt_trans ‹_› (by decide)
      · have : (8388608 : Nat) + 8388608 < 2 ^ 53 := by decide
        omega
    unfold step at h4
    refine rep_of double q (rg single a / single.binade - 1 + sgap) ?_ hq2 hb
    rw [← h4, Nat.mul_assoc, ← Nat.pow_add]
  refine ⟨?_, hrep⟩
  obtain ⟨m, e, r1, l1, u1⟩ := h.read
  rw [r1]
  show double.nearest s m e = _
  rw [sL] at l1 u1
  rw [nearest_units double s m e (by rw [dL]; omega), dL]
  have e1 : m * 2 ^ (e - -1074).toNat = n * 2 ^ sgap := by
    rw [← u1, Nat.mul_assoc, ← Nat.pow_add]
    have := sgap_eq
    congr 2; omega
  rw [e1]
  unfold rung
  rw [Nat.min_eq_left (Nat.le_of_lt hrep.1)]; rfl
theorem narrow_is {a n : Nat} {s : Bool} (h : Is double a s (n * 2 ^ sgap)) (hn : Rep single n) : single.write (double.read a) = num single s n := by
  obtain ⟨m, e, r1, l1, u1⟩ := h.read
  rw [r1]
  show single.nearest s m e = _
  rw [dL] at l1 u1
  rw [nearest_deep single s m e sgap (by rw [sL]; have := sgap_eq; omega), sL]
  have e1 : m * 2 ^ (e - (-149 - (sgap : Int))).toNat = n * 2 ^ sgap := by rw [← u1]; congr 2
  have g := grid_shift single n sgap 0
  rw [Nat.zero_add] at g
  rw [e1, g, Nat.min_eq_left (Nat.le_of_lt hn.1)]; rfl
end Go.Proofs.YtifgngmebnjfkaaGreatDoor.Fp
end

section
namespace Go.Proofs.YtifgngmebnjfkaaGreatDoor
open Go.RowKit
def Within (W w : World) : Prop := Below W.heap.size W w
theorem Within.refl (W : World) : Within W W := Below.refl _ _
theorem Within.trans {a b c : World} (h : Within a b) (k : Within b c) : Within a c := Below.trans h (Below.mono k h.size)
theorem Within.alloc {a w : World} (h : Within a w) (o : Obj) : Within a (w.alloc o) := Below.alloc h h.size o
theorem Within.drew {a w : World} (h : Within a w) : Within a w.drew := Below.drew h
theorem Within.drewN {a w : World} (h : Within a w) : ∀ n, Within a (w.drewN n) := fun _ => ⟨h.os, h.tape, h.output, h.size, h.block⟩
theorem Within.setCell {a w : World} (h : Within a w) {p : Addr} (hp : a.heap.size ≤ p.block) (u : Value) : Within a (w.setCell p u) := Below.setCell h hp u
theorem Within.cells {W w : World} (h : Within W w) : ∀ b o, b < W.heap.size → w.cell? ⟨b, o, none⟩ = W.cell? ⟨b, o, none⟩ := fun b o hb => h.cell (p := ⟨b, o, none⟩) hb
theorem Within.frozens {W w : World} (h : Within W w) : ∀ b o, b < W.heap.size → w.frozen? ⟨b, o, none⟩ = W.frozen? ⟨b, o, none⟩ := fun b o hb => h.frozen (p := ⟨b, o, none⟩) hb
theorem Within.sizes {W w : World} (h : Within W w) : W.heap.size ≤ w.heap.size := h.size
theorem Within.call {P : Program} {W w : World} (h : Within W w) {f : FuncId} {args : Array Value} {v : Value}
    (hc : Calls P f args w fun e w' => e = .returned v ∧ Within w w') : Calls P f args w fun e w' => e = .returned v ∧ Within W w' :=
  hc.mono fun _ _ ⟨he, hb⟩ => ⟨he, h.trans hb⟩
theorem Within.same {P : Program} {W w : World} (h : Within W w) {f : FuncId} {args : Array Value} {v : Value}
    (hc : Calls P f args w fun e w' => e = .returned v ∧ w = w') : Calls P f args w fun e w' => e = .returned v ∧ Within W w' :=
  hc.mono fun _ _ ⟨he, hb⟩ => ⟨he, hb ▸ h⟩
section
variable {P : Program} {ops : Array Oper} {Q : Act → Prop} {a : Act} {o : Oper} {rest : List Oper} {v : Value}
theorem wp_region_within {id : Nat} {Q : Exit → Act → World → Prop} {w : World} {l : List Oper} (hm : P.follows .mixedOrders = true) (hB : Region.lexB .any l.toArray = true)
    (h : wpQuiet P l.toArray (Within w) (fun a' => ∀ w', Within w w' → Q .normal a' w') l a) : (Code.region id l.toArray true).wp P Q a w :=
  wp_region_quiet (C := Within w) hm hB (Within.refl w).drew (by simpa using h)
theorem wpq_step {C : World → Prop} (hg : o.guard = none) (h1 : ∀ w, C w → o.quietAt P a C w v) (h2 : wpQuiet P ops C Q rest (a.put o.dst v)) : wpQuiet P ops C Q (o :: rest) a :=
  wpQuiet_step fun K hK => by
    rw [if_pos (by simp [Region.wanted, hg])]
    exact ⟨v, h1, hK _ h2⟩
end
theorem ret_int {k : IntKind} {a b : Int} (h : a = b) : Ending.returned (.int k a) = .returned (.int k b) := by rw [h]
theorem ret_bool {a b : Bool} (h : a = b) : Ending.returned (.bool a) = .returned (.bool b) := by rw [h]
theorem ret_dec {a b : Prop} [Decidable a] [Decidable b] (h : a ↔ b) : Ending.returned (.bool (decide a)) = .returned (.bool (decide b)) := by rw [decide_eq_decide.2 h]
theorem v_int {k : IntKind} {a b : Int} (h : a = b) : Value.int k a = .int k b := by rw [h]
theorem ret2 {a b c d : Value} (h1 : a = c) (h2 : b = d) : Ending.returned (.tuple #[a, b]) = .returned (.tuple #[c, d]) := by rw [h1, h2]
/-! bits of words, as the walk spells them -/
theorem u64_unsign (b : Nat) (hb : b < 18446744073709551616) : bits .andNot .u64 (b : Int) 9223372036854775808 = ((b % 9223372036854775808 : Nat) : Int) := by
  have h := u64_andNot_nat b 9223372036854775808 hb (by decide)
  rw [show (9223372036854775808 : Int) = ((9223372036854775808 : Nat) : Int) from rfl, h]
  rw [show 18446744073709551615 - 9223372036854775808 = 2 ^ 63 - 1 from rfl, Nat.and_two_pow_sub_one_eq_mod]
theorem u64_unsign32 (b : Nat) (hb : b < 4294967296) : bits .andNot .u64 (b : Int) 2147483648 = ((b % 2147483648 : Nat) : Int) := by
  have h := u64_andNot_nat b 2147483648 (by omega) (by decide)
  rw [show (2147483648 : Int) = ((2147483648 : Nat) : Int) from rfl, h]
  congr 1
  apply Nat.eq_of_testBit_eq
  intro i
  rw [show 18446744073709551615 - 2147483648 = 18446744071562067967 from rfl, Nat.testBit_and, show (2147483648 : Nat) = 2 ^ 31 from rfl, Nat.testBit_mod_two_pow]
  by_cases h1 : i < 32
  · have k : ∀ j, j < 32 → Nat.testBit 18446744071562067967 j = decide (j < 31) := by decide
    rw [k i h1, Bool.and_comm]
  · have : b.testBit i = false := Nat.testBit_lt_two_pow (Nat.lt_of_lt_of_le hb (by rw [show (4294967296 : Nat) = 2 ^ 32 from rfl]; exact Nat.pow_le_pow_right (by decide) (by omega)))
    rw [this]; simp
theorem u64_mask (k : Nat) (hk : k ≤ 64) (b : Nat) (hb : b < 18446744073709551616) : bits .and .u64 (b : Int) ((2 ^ k - 1 : Nat) : Int) = ((b % 2 ^ k : Nat) : Int) := by
  have hp : 2 ^ k ≤ 18446744073709551616 := by
    rw [show (18446744073709551616 : Nat) = 2 ^ 64 from rfl]; exact Nat.pow_le_pow_right (by decide) hk
  have h0 : 0 < 2 ^ k := Nat.two_pow_pos k
  rw [u64_and_nat b _ hb (by omega), Nat.and_two_pow_sub_one_eq_mod]
theorem u64_join (i : Nat) (a b : Nat) (ha : a < 18446744073709551616) (hb : b < 18446744073709551616) (h1 : a % 2 ^ i = 0) (h2 : b < 2 ^ i) : bits .or .u64 (a : Int) (b : Int) = ((a + b : Nat) : Int) := by
  rw [u64_or_nat a b ha hb, nat_join i a b h1 h2]
end Go.Proofs.YtifgngmebnjfkaaGreatDoor
end

section
namespace Go.Proofs.YtifgngmebnjfkaaGreatDoor
open Go.RowKit
@[go_sem] theorem mx_bits64 (a : Nat) (w : World) : (callFunc 84 #[.float .f64 a]).run Tryz.prog w = .ok (.value (.int .u64 a)) w := by kernel_rfl
@[go_sem] theorem mx_from64 (a : Int) (w : World) : (callFunc 46 #[.int .u64 a]).run Tryz.prog w = .ok (.value (.float .f64 a.toNat)) w := by kernel_rfl
theorem key_pos {r : Nat} (h : r < 9223372036854775808) : Fp.key64 r = r := by unfold Fp.key64; rw [if_neg (by omega), Nat.mod_eq_of_lt h]
theorem notnan {r : Nat} (h : r % 9223372036854775808 ≤ 9218868437227405312) : Fp.isNaN64 r = false := decide_eq_false (by omega)
theorem lt_small {r : Nat} (h : r < 9218868437227405312) : (FloatKind.f64.format.order r 4503599627370496 == some .lt) = decide (r < 4503599627370496) := by
  show (Ieee.double.order r 4503599627370496 == some .lt) = _
  rw [Fp.lt64 _ _ (notnan (by omega)) (notnan (by decide)), key_pos (by omega), key_pos (by decide)]
  exact decide_eq_decide.2 (by omega)
theorem eq_zero {r : Nat} (h : r % 9223372036854775808 ≤ 9218868437227405312) : (FloatKind.f64.format.order r 0 == some .eq) = decide (r % 9223372036854775808 = 0) := by
  show (Ieee.double.order r 0 == some .eq) = _
  rw [Fp.eq64 _ _ (notnan h) (notnan (by decide))]
  unfold Fp.key64
  refine decide_eq_decide.2 ?_
  split <;> omega
theorem gt_max {r : Nat} (h : r < 9223372036854775808) : (FloatKind.f64.format.order r 9218868437227405311 == some .gt) = decide (r = 9218868437227405312) := by
  show (Ieee.double.order r 9218868437227405311 == some .gt) = _
  by_cases hn : r ≤ 9218868437227405312
  · rw [Fp.gt64 _ _ (notnan (by omega)) (notnan (by decide)), key_pos h, key_pos (by decide)]
    exact decide_eq_decide.2 (by omega)
  · rw [Fp.order64_nan _ _ (.inl (decide_eq_true (by omega))), decide_eq_false (by omega)]; rfl
theorem ne_self {a : Nat} : (FloatKind.f64.format.order a a != some .eq) = decide (9218868437227405312 < a % 9223372036854775808) := by
  show (!(Ieee.double.order a a == some .eq)) = _
  rw [Fp.order64_self]; unfold Fp.isNaN64; simp
set_option maxRecDepth 100000 in
set_option maxHeartbeats 600000 in
theorem m_abs (a : Nat) (ha : a < 18446744073709551616) (w : World) : Calls Tryz.prog 88 #[.float .f64 a] w fun e w' => e = .returned (.float .f64 (a % 9223372036854775808)) ∧ w = w' := by
  have h := u64_unsign a ha
  generalize a % 9223372036854775808 = m at *
  clear ha
  go_enter Tryz.func88, Tryz.ntmps88
  go_wp2
  go_ret
  exact ⟨rfl, rfl⟩
set_option maxRecDepth 100000 in
set_option maxHeartbeats 600000 in
theorem m_signbit (a : Nat) (ha : a < 18446744073709551616) (w : World) : Calls Tryz.prog 79 #[.float .f64 a] w fun e w' => e = .returned (.bool (decide (9223372036854775808 ≤ a))) ∧ w = w' := by
  have h2 : decide (wrap64 (a : Int) < 0) = decide (9223372036854775808 ≤ a) := decide_eq_decide.2 (by unfold wrap64; omega)
  rw [← h2]
  clear ha h2
  go_enter Tryz.func79, Tryz.ntmps79
  go_wp2
  go_ret
  exact ⟨rfl, rfl⟩
set_option maxRecDepth 100000 in
set_option maxHeartbeats 600000 in
theorem m_isinf (a : Nat) (ha : a < 18446744073709551616) (w : World) : Calls Tryz.prog 86 #[.float .f64 a, .int .i64 0] w fun e w' => e = .returned (.bool (decide (a % 9223372036854775808 = 9218868437227405312))) ∧ w = w' := by
  have HA := Lib.hid (fun w => m_abs a ha w)
  have h := gt_max (r := a % 9223372036854775808) (by omega)
  rw [← h]
  generalize a % 9223372036854775808 = m at *
  clear ha h
  go_enter Tryz.func86, Tryz.ntmps86
  go_wp2_with fail
  refine (HA.out _).mono ?_; rintro e1 w1 ⟨rfl, rfl⟩
  go_wp2
  go_ret
  exact ⟨rfl, rfl⟩
set_option maxRecDepth 100000 in
set_option maxHeartbeats 600000 in
theorem m_isnan (a : Nat) (w : World) : Calls Tryz.prog 128 #[.float .f64 a] w fun e w' => e = .returned (.bool (decide (9218868437227405312 < a % 9223372036854775808))) ∧ w = w' := by
  have h := ne_self (a := a)
  rw [← h]
  clear h
  go_enter Tryz.func128, Tryz.ntmps128
  go_wp2
  go_ret
  exact ⟨rfl, rfl⟩
set_option maxRecDepth 100000 in
set_option maxHeartbeats 600000 in
theorem m_norm_high (r : Nat) (h : 4503599627370496 ≤ r) (h2 : r < 9218868437227405312) (w : World) : Calls Tryz.prog 129 #[.float .f64 r] w fun e w' => e = .returned (.tuple #[.float .f64 r, .int .i64 0]) ∧ w = w' := by
  have HA := Lib.hid (fun w => m_abs r (by omega) w)
  rw [Nat.mod_eq_of_lt (show r < 9223372036854775808 by omega)] at HA
  have hl := lt_small h2
  rw [decide_eq_false (by omega)] at hl
  clear h h2
  go_enter Tryz.func129, Tryz.ntmps129
  go_wp2_with fail
  refine (HA.out _).mono ?_; rintro e1 w1 ⟨rfl, rfl⟩
  go_wp2
  go_ret2
  exact ⟨rfl, rfl⟩
set_option maxRecDepth 100000 in
set_option maxHeartbeats 600000 in
theorem m_norm_low (r z : Nat) (h2 : r < 4503599627370496) (hz : Ieee.double.mul r 4841369599423283200 = some z) (w : World) : Calls Tryz.prog 129 #[.float .f64 r] w fun e w' => e = .returned (.tuple #[.float .f64 z, .int .i64 (-52)]) ∧ w = w' := by
  have HA := Lib.hid (fun w => m_abs r (by omega) w)
  rw [Nat.mod_eq_of_lt (show r < 9223372036854775808 by omega)] at HA
  have hl := lt_small (r := r) (by omega)
  rw [decide_eq_true h2] at hl
  have hm := fun t P w => run_float_arith (P := P) w .mul t .f64 _ _ _ hz
  clear h2
  go_enter Tryz.func129, Tryz.ntmps129
  go_wp2_with fail
  refine (HA.out _).mono ?_; rintro e1 w1 ⟨rfl, rfl⟩
  go_wp2
  go_ret2
  exact ⟨rfl, rfl⟩
theorem field_of (z : Nat) (h : z < 9218868437227405312) : bits .and .u64 ((z / 4503599627370496 : Nat) : Int) 2047 = ((z / 4503599627370496 : Nat) : Int) := by
  have := u64_mask 11 (by decide) (z / 4503599627370496) (by omega)
  rw [show ((2 ^ 11 - 1 : Nat) : Int) = 2047 from rfl] at this
  rw [this, Nat.mod_eq_of_lt (by omega)]
theorem field_of_i (z : Nat) (h : z < 9218868437227405312) : bits .and .i64 ((z / 4503599627370496 : Nat) : Int) 2047 = ((z / 4503599627370496 : Nat) : Int) := by
  obtain ⟨q, hq⟩ : ∃ q, z / 4503599627370496 = q := ⟨_, rfl⟩
  have hl : q < 2048 := by omega
  rw [hq]
  have : ∀ n : Fin 2048, bits .and .i64 ((n.val : Nat) : Int) 2047 = ((n.val : Nat) : Int) := by decide +kernel
  exact this ⟨q, hl⟩
theorem frac_of (z : Nat) (h : z < 9218868437227405312) : bits .andNot .u64 (z : Int) 9218868437227405312 = ((z % 4503599627370496 : Nat) : Int) := by
  rw [show (9218868437227405312 : Int) = ((9218868437227405312 : Nat) : Int) from rfl, u64_andNot_nat z 9218868437227405312 (by omega) (by decide)]
  congr 1
  apply Nat.eq_of_testBit_eq
  intro i
  rw [show 18446744073709551615 - 9218868437227405312 = 2 ^ 63 + (2 ^ 52 - 1) by decide, show (4503599627370496 : Nat) = 2 ^ 52 by decide, Nat.testBit_and, Nat.testBit_mod_two_pow]
  by_cases h1 : i < 63
  · have k : ∀ j, j < 63 → Nat.testBit (2 ^ 63 + (2 ^ 52 - 1)) j = decide (j < 52) := by decide +kernel
    rw [k i h1, Bool.and_comm]
  · have : z.testBit i = false := Nat.testBit_lt_two_pow (Nat.lt_of_lt_of_le h (Nat.le_trans (show 9218868437227405312 ≤ 2 ^ 63 by decide) (Nat.pow_le_pow_right (by decide) (by omega))))
    rw [this]; simp
theorem join_of (q x : Nat) (hq : q < 2048) (hx : x < 4503599627370496) : bits .or .u64 (x : Int) ((q * 4503599627370496 : Nat) : Int) = ((q * 4503599627370496 + x : Nat) : Int) := by
  rw [u64_or_nat x (q * 4503599627370496) (by omega) (by omega), Nat.or_comm, nat_join 52 (q * 4503599627370496) x (by omega) hx]
set_option maxRecDepth 100000 in
set_option maxHeartbeats 600000 in
theorem m_frexp_high (z : Nat) (h : 4503599627370496 ≤ z) (hz : z < 9218868437227405312) (w : World) : Calls Tryz.prog 120 #[.float .f64 z] w fun e w' => e = .returned (.tuple #[.float .f64 (4602678819172646912 + z % 4503599627370496), .int .i64 (((z / 4503599627370496 : Nat) : Int) - 1022)]) ∧ w = w' := by
  have HI := Lib.hid (fun w => m_isinf z (by omega) w)
  have HN := Lib.hid (fun w => m_isnan z w)
  rw [decide_eq_false (by omega)] at HI HN
  have hz0 := eq_zero (r := z) (by omega)
  rw [decide_eq_false (by omega)] at hz0
  have NO := Lib.hid (fun w => m_norm_high z h (by omega) w)
  have f1 := field_of z hz
  have f2 := frac_of z hz
  have f3 := join_of 1022 (z % 4503599627370496) (by decide) (Nat.mod_lt _ (by decide))
  rw [show ((1022 * 4503599627370496 + z % 4503599627370496 : Nat)) = 4602678819172646912 + z % 4503599627370496 by omega, show ((1022 * 4503599627370496 : Nat) : Int) = 4602678819172646912 from rfl] at f3
  have s1 : ((z : Int) / 4503599627370496) = ((z / 4503599627370496 : Nat) : Int) := by omega
  have g1 : IntKind.i64.wrap (((z / 4503599627370496 : Nat) : Int) - 1023) = ((z / 4503599627370496 : Nat) : Int) - 1023 := by rw [IntKind.wrap_i64]; omega
  have g2 : IntKind.i64.wrap (((z / 4503599627370496 : Nat) : Int) - 1023 + 1) = ((z / 4503599627370496 : Nat) : Int) - 1023 + 1 := by rw [IntKind.wrap_i64]; omega
  have g3 : IntKind.i64.wrap ((0 : Int) + (((z / 4503599627370496 : Nat) : Int) - 1023 + 1)) = ((z / 4503599627370496 : Nat) : Int) - 1022 := by rw [IntKind.wrap_i64]; omega
  have g4 : IntKind.i64.wrap ((z / 4503599627370496 : Nat) : Int) = ((z / 4503599627370496 : Nat) : Int) := by rw [IntKind.wrap_i64]; omega
  generalize z / 4503599627370496 = q at *
  obtain ⟨y, hy⟩ : ∃ y, 4602678819172646912 + z % 4503599627370496 = y := ⟨_, rfl⟩
  rw [hy] at f3 ⊢
  generalize z % 4503599627370496 = x at *
  have HZ := Lib.hid hz
  clear hz hy h
  go_enter Tryz.func120, Tryz.ntmps120
  go_wp2_with fail
  refine (HI.out _).mono ?_; rintro e1 w1 ⟨rfl, rfl⟩
  go_wp2_with fail
  refine (HN.out _).mono ?_; rintro e2 w2 ⟨rfl, rfl⟩
  go_wp2_with fail
  refine (NO.out _).mono ?_; rintro e3 w3 ⟨rfl, rfl⟩
  go_wp2
  go_ret2
  exact ⟨ret2 rfl (v_int (by omega)), rfl⟩
set_option maxRecDepth 100000 in
set_option maxHeartbeats 600000 in
theorem m_frexp_low (r z : Nat) (h : 0 < r) (h2 : r < 4503599627370496) (hm : Ieee.double.mul r 4841369599423283200 = some z) (hz : z < 9218868437227405312) (w : World) : Calls Tryz.prog 120 #[.float .f64 r] w fun e w' => e = .returned (.tuple #[.float .f64 (4602678819172646912 + z % 4503599627370496), .int .i64 (((z / 4503599627370496 : Nat) : Int) - 1074)]) ∧ w = w' := by
  have HI := Lib.hid (fun w => m_isinf r (by omega) w)
  have HN := Lib.hid (fun w => m_isnan r w)
  rw [decide_eq_false (by omega)] at HI HN
  have hz0 := eq_zero (r := r) (by omega)
  rw [decide_eq_false (by omega)] at hz0
  have NO := Lib.hid (fun w => m_norm_low r z h2 hm w)
  have f1 := field_of z hz
  have f2 := frac_of z hz
  have f3 := join_of 1022 (z % 4503599627370496) (by decide) (Nat.mod_lt _ (by decide))
  rw [show ((1022 * 4503599627370496 + z % 4503599627370496 : Nat)) = 4602678819172646912 + z % 4503599627370496 by omega, show ((1022 * 4503599627370496 : Nat) : Int) = 4602678819172646912 from rfl] at f3
  have s1 : ((z : Int) / 4503599627370496) = ((z / 4503599627370496 : Nat) : Int) := by omega
  have g1 : IntKind.i64.wrap (((z / 4503599627370496 : Nat) : Int) - 1023) = ((z / 4503599627370496 : Nat) : Int) - 1023 := by rw [IntKind.wrap_i64]; omega
  have g2 : IntKind.i64.wrap (((z / 4503599627370496 : Nat) : Int) - 1023 + 1) = ((z / 4503599627370496 : Nat) : Int) - 1023 + 1 := by rw [IntKind.wrap_i64]; omega
  have g3 : IntKind.i64.wrap ((-52 : Int) + (((z / 4503599627370496 : Nat) : Int) - 1023 + 1)) = ((z / 4503599627370496 : Nat) : Int) - 1074 := by rw [IntKind.wrap_i64]; omega
  have g4 : IntKind.i64.wrap ((z / 4503599627370496 : Nat) : Int) = ((z / 4503599627370496 : Nat) : Int) := by rw [IntKind.wrap_i64]; omega
  generalize z / 4503599627370496 = q at *
  obtain ⟨y, hy⟩ : ∃ y, 4602678819172646912 + z % 4503599627370496 = y := ⟨_, rfl⟩
  rw [hy] at f3 ⊢
  generalize z % 4503599627370496 = x at *
  have HZ := Lib.hid hz
  clear hz hy h h2 hm
  go_enter Tryz.func120, Tryz.ntmps120
  go_wp2_with fail
  refine (HI.out _).mono ?_; rintro e1 w1 ⟨rfl, rfl⟩
  go_wp2_with fail
  refine (HN.out _).mono ?_; rintro e2 w2 ⟨rfl, rfl⟩
  go_wp2_with fail
  refine (NO.out _).mono ?_; rintro e3 w3 ⟨rfl, rfl⟩
  go_wp2
  go_ret2
  exact ⟨ret2 rfl (v_int (by omega)), rfl⟩
end Go.Proofs.YtifgngmebnjfkaaGreatDoor
end

section
namespace Go.Proofs.YtifgngmebnjfkaaGreatDoor
open Go.RowKit
set_option maxRecDepth 100000 in
set_option maxHeartbeats 600000 in
theorem m_ldexp_norm (z n : Nat) (k : Int) (h : 4503599627370496 ≤ z) (hz : z < 9218868437227405312) (hn : (n : Int) = k + (z / 4503599627370496 : Nat)) (h1 : 1 ≤ n) (h2 : n ≤ 2046) (hm : Ieee.double.mul 4607182418800017408 (n * 4503599627370496 + z % 4503599627370496) = some (n * 4503599627370496 + z % 4503599627370496)) (w : World) : Calls Tryz.prog 100 #[.float .f64 z, .int .i64 k] w fun e w' => e = .returned (.float .f64 (n * 4503599627370496 + z % 4503599627370496)) ∧ w = w' := by
  have HI := Lib.hid (fun w => m_isinf z (by omega) w)
  have HN := Lib.hid (fun w => m_isnan z w)
  rw [decide_eq_false (by omega)] at HI HN
  have hz0 := eq_zero (r := z) (by omega)
  rw [decide_eq_false (by omega)] at hz0
  have NO := Lib.hid (fun w => m_norm_high z h hz w)
  have f1 := field_of_i z hz
  have f2 := frac_of z hz
  have f3 := join_of n (z % 4503599627370496) (by omega) (Nat.mod_lt _ (by decide))
  have s1 : ((z : Int) / 4503599627370496) = ((z / 4503599627370496 : Nat) : Int) := by omega
  have tq : z / 4503599627370496 < 2047 := by omega
  have lq : 0 < z / 4503599627370496 := by omega
  generalize z / 4503599627370496 = q at *
  have kl : -3000 ≤ k := by omega
  have ku : k ≤ 3000 := by omega
  obtain ⟨y, hy⟩ : ∃ y, n * 4503599627370496 + z % 4503599627370496 = y := ⟨_, rfl⟩
  have hnl : n < 2047 := by omega
  have gs : IntKind.u64.wrap ((n : Int) * 4503599627370496) = ((n * 4503599627370496 : Nat) : Int) := by rw [IntKind.wrap_u64]; omega
  have gn : IntKind.u64.wrap (n : Int) = (n : Int) := by rw [IntKind.wrap_u64]; omega
  have d1 : decide (k + ((q : Int) - 1023) < -1075) = false := decide_eq_false (by omega)
  have d2 : decide (k + ((q : Int) - 1023) > 1023) = false := decide_eq_false (by omega)
  have d3 : decide (k + ((q : Int) - 1023) < -1022) = false := decide_eq_false (by omega)
  have g5 : k + ((q : Int) - 1023) + 1023 = (n : Int) := by omega
  rw [hy]
  rw [hy] at f3 hm
  generalize z % 4503599627370496 = x at *
  generalize n * 4503599627370496 = nb at *
  have hf := fun t P w => run_float_arith (P := P) w .mul t .f64 _ _ _ hm
  clear hm hy hn h1 h2 h hz
  go_enter Tryz.func100, Tryz.ntmps100
  go_wp2_with fail
  refine (HI.out _).mono ?_; rintro e1 w1 ⟨rfl, rfl⟩
  go_wp2_with fail
  refine (HN.out _).mono ?_; rintro e2 w2 ⟨rfl, rfl⟩
  go_wp2_with fail
  refine (NO.out _).mono ?_; rintro e3 w3 ⟨rfl, rfl⟩
  go_wp2
  go_ret
  exact ⟨rfl, rfl⟩
set_option maxRecDepth 100000 in
set_option maxHeartbeats 600000 in
theorem m_ldexp_sub (z n r : Nat) (k : Int) (h : 4503599627370496 ≤ z) (hz : z < 9218868437227405312) (hn : (n : Int) = k + (z / 4503599627370496 : Nat) + 53) (h1 : 1 ≤ n) (h2 : n ≤ 53) (hm : Ieee.double.mul 4368491638549381120 (n * 4503599627370496 + z % 4503599627370496) = some r) (w : World) : Calls Tryz.prog 100 #[.float .f64 z, .int .i64 k] w fun e w' => e = .returned (.float .f64 r) ∧ w = w' := by
  have HI := Lib.hid (fun w => m_isinf z (by omega) w)
  have HN := Lib.hid (fun w => m_isnan z w)
  rw [decide_eq_false (by omega)] at HI HN
  have hz0 := eq_zero (r := z) (by omega)
  rw [decide_eq_false (by omega)] at hz0
  have NO := Lib.hid (fun w => m_norm_high z h hz w)
  have f1 := field_of_i z hz
  have f2 := frac_of z hz
  have f3 := join_of n (z % 4503599627370496) (by omega) (Nat.mod_lt _ (by decide))
  have s1 : ((z : Int) / 4503599627370496) = ((z / 4503599627370496 : Nat) : Int) := by omega
  have tq : z / 4503599627370496 < 2047 := by omega
  have lq : 0 < z / 4503599627370496 := by omega
  generalize z / 4503599627370496 = q at *
  have kl : -3000 ≤ k := by omega
  have ku : k ≤ 3000 := by omega
  obtain ⟨y, hy⟩ : ∃ y, n * 4503599627370496 + z % 4503599627370496 = y := ⟨_, rfl⟩
  have hnl : n < 2047 := by omega
  have gs : IntKind.u64.wrap ((n : Int) * 4503599627370496) = ((n * 4503599627370496 : Nat) : Int) := by rw [IntKind.wrap_u64]; omega
  have gn : IntKind.u64.wrap (n : Int) = (n : Int) := by rw [IntKind.wrap_u64]; omega
  have d1 : decide (k + ((q : Int) - 1023) < -1075) = false := decide_eq_false (by omega)
  have d2 : decide (k + ((q : Int) - 1023) > 1023) = false := decide_eq_false (by omega)
  have d3 : decide (k + ((q : Int) - 1023) < -1022) = true := decide_eq_true (by omega)
  have g5 : k + ((q : Int) - 1023) + 53 + 1023 = (n : Int) := by omega
  rw [hy] at f3 hm
  generalize z % 4503599627370496 = x at *
  generalize n * 4503599627370496 = nb at *
  have hf := fun t P w => run_float_arith (P := P) w .mul t .f64 _ _ _ hm
  clear hm hy hn h1 h2 h hz
  go_enter Tryz.func100, Tryz.ntmps100
  go_wp2_with fail
  refine (HI.out _).mono ?_; rintro e1 w1 ⟨rfl, rfl⟩
  go_wp2_with fail
  refine (HN.out _).mono ?_; rintro e2 w2 ⟨rfl, rfl⟩
  go_wp2_with fail
  refine (NO.out _).mono ?_; rintro e3 w3 ⟨rfl, rfl⟩
  go_wp2
  go_ret
  exact ⟨rfl, rfl⟩
set_option maxRecDepth 100000 in
set_option maxHeartbeats 600000 in
theorem m_ldexp_zero (k : Int) (w : World) : Calls Tryz.prog 100 #[.float .f64 0, .int .i64 k] w fun e w' => e = .returned (.float .f64 0) ∧ w = w' := by
  have hz0 := eq_zero (r := 0) (by decide)
  rw [decide_eq_true (by rfl)] at hz0
  go_enter Tryz.func100, Tryz.ntmps100
  go_wp2
  go_ret
  exact ⟨rfl, rfl⟩
theorem m_ldexp {z k : _} {r : Nat} (H : ∀ w, Calls Tryz.prog 100 #[.float .f64 z, .int .i64 k] w fun e w' => e = .returned (.float .f64 r) ∧ w = w') (w : World) : Calls Tryz.prog 58 #[.float .f64 z, .int .i64 k] w fun e w' => e = .returned (.float .f64 r) ∧ w = w' := by
  have HH := Lib.hid H
  clear H
  go_enter Tryz.func58, Tryz.ntmps58
  go_wp2_with fail
  refine (HH.out _).mono ?_; rintro e1 w1 ⟨rfl, rfl⟩
  go_wp2
  go_ret
  exact ⟨rfl, rfl⟩
theorem m_frexp {z : Nat} {r : Nat} {k : Int} (H : ∀ w, Calls Tryz.prog 120 #[.float .f64 z] w fun e w' => e = .returned (.tuple #[.float .f64 r, .int .i64 k]) ∧ w = w') (w : World) : Calls Tryz.prog 87 #[.float .f64 z] w fun e w' => e = .returned (.tuple #[.float .f64 r, .int .i64 k]) ∧ w = w' := by
  have HH := Lib.hid H
  clear H
  go_enter Tryz.func87, Tryz.ntmps87
  go_wp2_with fail
  refine (HH.out _).mono ?_; rintro e1 w1 ⟨rfl, rfl⟩
  go_wp2
  go_ret2
  exact ⟨rfl, rfl⟩
/-! in amounts -/
def top53 (n : Nat) : Nat := if n.log2 ≤ 52 then n * 2 ^ (52 - n.log2) else n / 2 ^ (n.log2 - 52)
theorem top53_eq {n : Nat} (_h0 : n ≠ 0) {c k : Nat} (hc1 : 4503599627370496 ≤ c) (hc2 : c < 9007199254740992) (h : n = c * 2 ^ k) : top53 n = c ∧ n.log2 = 52 + k := by
  have hL : n.log2 = 52 + k := by
    rw [h, Fp.log2_mul_pow c k (by omega)]
    have : c.log2 = 52 := by
      rw [Nat.log2_eq_iff (by omega)]
      exact ⟨hc1, hc2⟩
    omega
  refine ⟨?_, hL⟩
  unfold top53
  rw [hL]
  by_cases h1 : k = 0
  · subst h1
    rw [if_pos (by omega), h]; simp
  · rw [if_neg (by omega), show 52 + k - 52 = k by omega, h, Nat.mul_div_cancel _ (Nat.two_pow_pos k)]
theorem top53_low {n : Nat} (h0 : n ≠ 0) (h : n < 9007199254740992) : 4503599627370496 ≤ top53 n ∧ top53 n < 9007199254740992 ∧ top53 n = n * 2 ^ (52 - n.log2) ∧ n.log2 ≤ 52 := by
  have hL : n.log2 < 53 := (Nat.log2_lt h0).2 h
  have h1 := Nat.log2_self_le h0
  have h2 := Nat.lt_log2_self (n := n)
  have e : top53 n = n * 2 ^ (52 - n.log2) := by unfold top53; rw [if_pos (by omega)]
  rw [e]
  have e1 : 2 ^ n.log2 * 2 ^ (52 - n.log2) = 4503599627370496 := by rw [← Nat.pow_add, show n.log2 + (52 - n.log2) = 52 by omega]
  have e2 : 2 ^ (n.log2 + 1) * 2 ^ (52 - n.log2) = 9007199254740992 := by rw [← Nat.pow_add, show n.log2 + 1 + (52 - n.log2) = 53 by omega]
  have hp := Nat.two_pow_pos (52 - n.log2)
  refine ⟨?_, ?_, rfl, by omega⟩
  · rw [← e1]; exact Nat.mul_le_mul_right _ h1
  · rw [← e2]; exact (Nat.mul_lt_mul_right hp).2 h2
theorem rung_high {r : Nat} (h : 4503599627370496 ≤ r) : Fp.mag Ieee.double r = (4503599627370496 + r % 4503599627370496) * 2 ^ (r / 4503599627370496 - 1) := by
  unfold Fp.mag
  rw [Fp.dB, if_neg (by omega)]
theorem high_top {r n : Nat} (h : 4503599627370496 ≤ r) (hm : Fp.mag Ieee.double r = n) : top53 n = 4503599627370496 + r % 4503599627370496 ∧ (n.log2 : Int) = (r / 4503599627370496 : Nat) + 51 ∧ n ≠ 0 := by
  have e := rung_high h
  rw [hm] at e
  have h0 : n ≠ 0 := by rw [e]; exact Nat.mul_ne_zero (by omega) (Nat.ne_of_gt (Nat.two_pow_pos _))
  obtain ⟨h1, h2⟩ := top53_eq h0 (by omega) (by omega) e
  exact ⟨h1, by omega, h0⟩
theorem rung_of_top {n r : Nat} (hr : Fp.mag Ieee.double r = n) (c j : Nat) (hc1 : 4503599627370496 ≤ c) (hc2 : c < 9007199254740992) (h : n = c * 2 ^ j) : r = (j + 1) * 4503599627370496 + (c - 4503599627370496) := by
  have e : Fp.mag Ieee.double ((j + 1) * 4503599627370496 + (c - 4503599627370496)) = n := by
    rw [rung_high (by omega), h]
    have e1 : ((j + 1) * 4503599627370496 + (c - 4503599627370496)) % 4503599627370496 = c - 4503599627370496 := by omega
    have e2 : ((j + 1) * 4503599627370496 + (c - 4503599627370496)) / 4503599627370496 = j + 1 := by omega
    rw [e1, e2, show 4503599627370496 + (c - 4503599627370496) = c by omega, Nat.add_sub_cancel]
  exact (Fp.mag_inj Ieee.double).1 (hr.trans e.symm)
theorem mag_low {r : Nat} (h : r < 4503599627370496) : Fp.mag Ieee.double r = r := Fp.mag_lt Ieee.double r (by rw [Fp.dB]; exact h)
theorem is_pos {r n : Nat} (h : r < 9218868437227405312) (hm : Fp.mag Ieee.double r = n) : Fp.Is Ieee.double r false n := by
  have hr : Fp.rg Ieee.double r = r := by rw [Fp.rg64, Nat.mod_eq_of_lt (by omega)]
  refine ⟨Nat.lt_trans h (by decide), by rw [hr, Fp.dI]; exact h, ?_, by rw [hr, hm]⟩
  rw [Fp.sg64, Nat.div_eq_of_lt (by omega)]; rfl
theorem num_pos {n : Nat} : Fp.num Ieee.double false n = Fp.grid Ieee.double n 0 := rfl
theorem pos_rung {r n : Nat} (hm : Fp.mag Ieee.double r = n) : Fp.num Ieee.double false n = r := by
  rw [num_pos, ← hm, Fp.grid_of_mag Ieee.double Fp.dF]
theorem rep_lt {n : Nat} (h : Fp.Rep Ieee.double n) : Fp.num Ieee.double false n < 9218868437227405312 ∧ Fp.mag Ieee.double (Fp.num Ieee.double false n) = n := by
  obtain ⟨h1, h2⟩ := h
  rw [Fp.dI] at h1
  exact ⟨h1, h2⟩
theorem one_is : Fp.mag Ieee.double 4607182418800017408 = 2 ^ Fp.deep Ieee.double := by decide +kernel
theorem up_is : Fp.mag Ieee.double 4841369599423283200 = 2 ^ 52 * 2 ^ Fp.deep Ieee.double := by decide +kernel
theorem down_is : Fp.mag Ieee.double 4368491638549381120 * 2 ^ 53 = 2 ^ Fp.deep Ieee.double := by decide +kernel
theorem mul_pos {a b p r : Nat} (ha : a < 9218868437227405312) (hb : b < 9218868437227405312) (hr : r < 9218868437227405312) (hp : Fp.mag Ieee.double r = p) (h : Fp.mag Ieee.double a * Fp.mag Ieee.double b = p * 2 ^ Fp.deep Ieee.double) : Ieee.double.mul a b = some r := by
  have h1 := Fp.mul_is Ieee.double Fp.dL0 (is_pos ha rfl) (is_pos hb rfl) h (hp ▸ Fp.rep_mag Ieee.double Fp.dF (by rw [Fp.dI]; exact hr))
  rw [h1]
  exact congrArg some (pos_rung hp)
theorem one_mul {r : Nat} (h : r < 9218868437227405312) : Ieee.double.mul 4607182418800017408 r = some r :=
  mul_pos (by decide) h h rfl (by rw [one_is, Nat.mul_comm])
theorem frexp_is (r n : Nat) (h0 : 0 < r) (h : r < 9218868437227405312) (hm : Fp.mag Ieee.double r = n) (w : World) :
    Calls Tryz.prog 87 #[.float .f64 r] w fun e w' => e = .returned (.tuple #[.float .f64 (4598175219545276416 + top53 n), .int .i64 ((n.log2 : Int) - 1073)]) ∧ w = w' := by
  by_cases hh : 4503599627370496 ≤ r
  · obtain ⟨t1, t2, _⟩ := high_top hh hm
    have := m_frexp (fun w => m_frexp_high r hh h w) w
    rwa [show 4602678819172646912 + r % 4503599627370496 = 4598175219545276416 + top53 n by omega, show ((r / 4503599627370496 : Nat) : Int) - 1022 = (n.log2 : Int) - 1073 by omega] at this
  · have hrn : n = r := by rw [← hm]; exact mag_low (by omega)
    subst hrn
    obtain ⟨l1, l2, l3, l4⟩ := top53_low (n := n) (by omega) (by omega)
    have hrep : Fp.Rep Ieee.double (n * 2 ^ 52) := by
      refine Fp.rep_of Ieee.double n 52 rfl (Nat.lt_of_lt_of_le (Nat.lt_of_not_le hh) (by decide)) ?_
      rw [Fp.mag_infD]
      have e1 : n * 2 ^ 52 < 2 ^ 52 * 2 ^ 52 := Nat.mul_lt_mul_of_pos_right (Nat.lt_of_not_le hh) (by decide)
      have e2 : (2 : Nat) ^ 52 * 2 ^ 52 ≤ 2 ^ Fp.dtop := by rw [← Nat.pow_add]; exact Nat.pow_le_pow_right (by decide) (by unfold Fp.dtop; omega)
      omega
    obtain ⟨z1, z2⟩ := rep_lt hrep
    generalize Fp.num Ieee.double false (n * 2 ^ 52) = z at *
    have hmul : Ieee.double.mul n 4841369599423283200 = some z := mul_pos h (by decide) z1 z2 (by rw [hm, up_is, Nat.mul_assoc])
    have hz := rung_of_top z2 (top53 n) n.log2 l1 l2 (by rw [l3, Nat.mul_assoc, ← Nat.pow_add, show 52 - n.log2 + n.log2 = 52 by omega])
    have := m_frexp (fun w => m_frexp_low n z h0 (by omega) hmul z1 w) w
    rwa [show 4602678819172646912 + z % 4503599627370496 = 4598175219545276416 + top53 n by omega, show ((z / 4503599627370496 : Nat) : Int) - 1074 = (n.log2 : Int) - 1073 by omega] at this
theorem ldexp_is (z n n' : Nat) (k : Int) (h : 4503599627370496 ≤ z) (hz : z < 9218868437227405312) (hm : Fp.mag Ieee.double z = n) (hn' : Fp.Rep Ieee.double n') (h0 : n' ≠ 0)
    (up : 0 ≤ k → n' = n * 2 ^ k.toNat) (down : k < 0 → n' * 2 ^ (-k).toNat = n) (w : World) : Calls Tryz.prog 58 #[.float .f64 z, .int .i64 k] w fun e w' => e = .returned (.float .f64 (Fp.num Ieee.double false n')) ∧ w = w' := by
  obtain ⟨t1, t2, t3⟩ := high_top h hm
  obtain ⟨r1, r2⟩ := rep_lt hn'
  generalize Fp.num Ieee.double false n' = r at *
  have hn := rung_high h
  rw [hm] at hn
  generalize hq : z / 4503599627370496 = q at *
  have hq0 : 1 ≤ q ∧ q ≤ 2046 := by omega
  obtain ⟨c, hc⟩ : ∃ c, 4503599627370496 + z % 4503599627370496 = c := ⟨_, rfl⟩
  rw [hc] at hn t1
  have hc1 : 4503599627370496 ≤ c ∧ c < 9007199254740992 := by omega
  have hl' : (n'.log2 : Int) = n.log2 + k := by
    by_cases hk : 0 ≤ k
    · rw [up hk, Fp.log2_mul_pow n _ t3]; omega
    · have e := down (by omega)
      have := Fp.log2_mul_pow n' (-k).toNat h0
      rw [e] at this; omega
  have key : ∀ j : Nat, (j : Int) = (q : Int) - 1 + k → n' = c * 2 ^ j := fun j hj => by
    by_cases hk : 0 ≤ k
    · rw [up hk, hn, Nat.mul_assoc, ← Nat.pow_add]; congr 2; omega
    · have e := down (by omega)
      rw [hn, show q - 1 = j + (-k).toNat by omega, Nat.pow_add, ← Nat.mul_assoc] at e
      exact Nat.eq_of_mul_eq_mul_right (Nat.two_pow_pos _) e
  by_cases hbig : 52 ≤ n'.log2
  · obtain ⟨j, hj⟩ : ∃ j : Nat, (j : Int) = (q : Int) - 1 + k := ⟨((q : Int) - 1 + k).toNat, by omega⟩
    have hr := rung_of_top r2 c j hc1.1 hc1.2 (key j hj)
    have H := m_ldexp (fun w => m_ldexp_norm z (j + 1) k h hz (by omega) (by omega) (by omega) (by rw [show z % 4503599627370496 = c - 4503599627370496 by omega, ← hr]; exact one_mul r1) w) w
    rwa [show z % 4503599627370496 = c - 4503599627370496 by omega, ← hr] at H
  · have hlow : n' < 4503599627370496 := by
      have h1 := Nat.lt_log2_self (n := n')
      have h2 : 2 ^ (n'.log2 + 1) ≤ 2 ^ 52 := Nat.pow_le_pow_right (by decide) (by omega)
      have h3 : (2 : Nat) ^ 52 = 4503599627370496 := rfl
      omega
    obtain ⟨j, hj⟩ : ∃ j : Nat, (j : Int) = (q : Int) + 52 + k := ⟨((q : Int) + 52 + k).toNat, by omega⟩
    have hy : Fp.mag Ieee.double ((j + 1) * 4503599627370496 + z % 4503599627370496) = c * 2 ^ j := by
      rw [rung_high (by omega)]
      have e1 : ((j + 1) * 4503599627370496 + z % 4503599627370496) % 4503599627370496 = z % 4503599627370496 := by omega
      have e2 : ((j + 1) * 4503599627370496 + z % 4503599627370496) / 4503599627370496 = j + 1 := by omega
      rw [e1, e2, hc, Nat.add_sub_cancel]
    have e3 : c * 2 ^ j = n' * 2 ^ 53 := by
      by_cases hk : 0 ≤ k
      · exfalso; rw [up hk, hn] at hlow
        have : 1 * 1 ≤ 2 ^ (q - 1) * 2 ^ k.toNat := Nat.mul_le_mul (Nat.two_pow_pos _) (Nat.two_pow_pos _)
        have h4 : c * 1 ≤ c * (2 ^ (q - 1) * 2 ^ k.toNat) := Nat.mul_le_mul_left _ (by omega)
        rw [← Nat.mul_assoc] at h4; omega
      · have e := down (by omega)
        have h5 : (c * 2 ^ j) * 2 ^ (q - 1) = n' * 2 ^ 53 * 2 ^ (q - 1) := by
          rw [Nat.mul_right_comm, ← hn, ← e, Nat.mul_assoc, Nat.mul_assoc, ← Nat.pow_add, ← Nat.pow_add]; congr 2; omega
        exact Nat.eq_of_mul_eq_mul_right (Nat.two_pow_pos _) h5
    have hmul : Ieee.double.mul 4368491638549381120 ((j + 1) * 4503599627370496 + z % 4503599627370496) = some r :=
      mul_pos (by decide) (by omega) r1 r2 (by rw [hy, e3, Nat.mul_comm, Nat.mul_assoc, Nat.mul_comm (2 ^ 53), down_is])
    exact m_ldexp (fun w => m_ldexp_sub z (j + 1) r k h hz (by omega) (by omega) (by omega) hmul w) w
end Go.Proofs.YtifgngmebnjfkaaGreatDoor
end

section
namespace Go.Proofs.YtifgngmebnjfkaaGreatDoor
open Go.RowKit
theorem len8_size : Lib.len8tab.size = 256 := by decide +kernel
theorem len8_all : ∀ n : Fin 256, (Lib.len8tab[n.val]'(by rw [len8_size]; exact n.isLt)).toNat = Lib.bitLen n.val := by decide +kernel
theorem len8_at (n : Nat) (h : n < Lib.len8tab.size) : (Lib.len8tab[n]).toNat = Lib.bitLen n := len8_all ⟨n, by rw [len8_size] at h; exact h⟩
theorem len_end (s x : Nat) (hs : s ≤ 56) (h : 2 ^ s ≤ x) (hx : x < 2 ^ (s + 8)) : wrap64 ((s : Int) + wrap64 ((Lib.bitLen (x / 2 ^ s) : Nat) : Int)) = ((Lib.bitLen x : Nat) : Int) := by
  have hp := Nat.two_pow_pos s
  have h64 : x < 2 ^ 64 := Nat.lt_of_lt_of_le hx (Nat.pow_le_pow_right (by decide) (by omega))
  have e := Lib.bitLen_shift s x h h64
  have hq : x / 2 ^ s < 256 := by
    rw [Nat.div_lt_iff_lt_mul hp]
    have : 2 ^ (s + 8) = 256 * 2 ^ s := by rw [Nat.pow_add, Nat.mul_comm]
    omega
  have l := Lib.bitLen_le8 ⟨x / 2 ^ s, hq⟩
  simp only at l
  rw [e]
  generalize Lib.bitLen (x / 2 ^ s) = r at *
  rw [IntWalk.wrap64_in (r : Int) (by constructor <;> omega), IntWalk.wrap64_in _ (by constructor <;> omega)]
  simp
theorem len_e56 (x : Nat) (h : 72057594037927936 ≤ x) (hx : x < 18446744073709551616) : wrap64 (56 + wrap64 ((Lib.bitLen (x / 72057594037927936) : Nat) : Int)) = ((Lib.bitLen x : Nat) : Int) := len_end 56 x (by decide) h hx
theorem len_e48 (x : Nat) (h : 281474976710656 ≤ x) (hx : x < 72057594037927936) : wrap64 (48 + wrap64 ((Lib.bitLen (x / 281474976710656) : Nat) : Int)) = ((Lib.bitLen x : Nat) : Int) := len_end 48 x (by decide) h hx
theorem len_e40 (x : Nat) (h : 1099511627776 ≤ x) (hx : x < 281474976710656) : wrap64 (40 + wrap64 ((Lib.bitLen (x / 1099511627776) : Nat) : Int)) = ((Lib.bitLen x : Nat) : Int) := len_end 40 x (by decide) h hx
theorem len_e32 (x : Nat) (h : 4294967296 ≤ x) (hx : x < 1099511627776) : wrap64 (32 + wrap64 ((Lib.bitLen (x / 4294967296) : Nat) : Int)) = ((Lib.bitLen x : Nat) : Int) := len_end 32 x (by decide) h hx
theorem len_e24 (x : Nat) (h : 16777216 ≤ x) (hx : x < 4294967296) : wrap64 (24 + wrap64 ((Lib.bitLen (x / 16777216) : Nat) : Int)) = ((Lib.bitLen x : Nat) : Int) := len_end 24 x (by decide) h hx
theorem len_e16 (x : Nat) (h : 65536 ≤ x) (hx : x < 16777216) : wrap64 (16 + wrap64 ((Lib.bitLen (x / 65536) : Nat) : Int)) = ((Lib.bitLen x : Nat) : Int) := len_end 16 x (by decide) h hx
theorem len_e8 (x : Nat) (h : 256 ≤ x) (hx : x < 65536) : wrap64 (8 + wrap64 ((Lib.bitLen (x / 256) : Nat) : Int)) = ((Lib.bitLen x : Nat) : Int) := len_end 8 x (by decide) h hx
theorem len_e0 (x : Nat) (hx : x < 256) : wrap64 (0 + wrap64 ((Lib.bitLen x : Nat) : Int)) = ((Lib.bitLen x : Nat) : Int) := by
  have l := Lib.bitLen_le8 ⟨x, hx⟩
  simp only at l
  generalize Lib.bitLen x = r at *
  rw [IntWalk.wrap64_in (r : Int) (by constructor <;> omega), IntWalk.wrap64_in _ (by constructor <;> omega)]
  simp
set_option maxHeartbeats 1000000 in
set_option maxRecDepth 100000 in
theorem bits_len64' (x : Int) (w : World) (h0 : 0 ≤ x) (h1 : x ≤ 18446744073709551615) :
    Calls Tryz.prog 109 #[.int .u64 x] w fun e w' => e = .returned (.int .i64 (Lib.bitLen x.toNat)) ∧ w = w' := by
  have hsz := len8_size
  go_enter Tryz.func109, Tryz.ntmps109
  go_wp2
  all_goals (go_ret; refine ⟨ret_int ?_, rfl⟩)
  all_goals simp only [len8_at]
  · rw [← len_e56 x.toNat (by omega) (by omega), show (x / 4294967296 / 65536 / 256).toNat = x.toNat / 72057594037927936 by omega]
  · rw [← len_e48 x.toNat (by omega) (by omega), show (x / 4294967296 / 65536).toNat = x.toNat / 281474976710656 by omega]
  · rw [← len_e40 x.toNat (by omega) (by omega), show (x / 4294967296 / 256).toNat = x.toNat / 1099511627776 by omega]
  · rw [← len_e32 x.toNat (by omega) (by omega), show (x / 4294967296).toNat = x.toNat / 4294967296 by omega]
  · rw [← len_e24 x.toNat (by omega) (by omega), show (x / 65536 / 256).toNat = x.toNat / 16777216 by omega]
  · rw [← len_e16 x.toNat (by omega) (by omega), show (x / 65536).toNat = x.toNat / 65536 by omega]
  · rw [← len_e8 x.toNat (by omega) (by omega), show (x / 256).toNat = x.toNat / 256 by omega]
  · have := len_e0 x.toNat (by omega); simpa using this
theorem bits_len64 (x : Nat) (hx : x < 18446744073709551616) (w : World) :
    Calls Tryz.prog 109 #[.int .u64 x] w fun e w' => e = .returned (.int .i64 (Lib.bitLen x)) ∧ w = w' := by
  have := bits_len64' (x : Int) w (by omega) (by omega)
  rwa [Int.toNat_natCast] at this
theorem bitLen_of (k x : Nat) (hk : k < 64) (h1 : 2 ^ k ≤ x) (h2 : x < 2 ^ (k + 1)) : Lib.bitLen x = k + 1 := by
  have h64 : x < 2 ^ 64 := Nat.lt_of_lt_of_le h2 (Nat.pow_le_pow_right (by decide) (by omega))
  rw [Lib.bitLen_shift k x h1 h64]
  have hp := Nat.two_pow_pos k
  have e : x / 2 ^ k = 1 := by
    have a : 1 ≤ x / 2 ^ k := (Nat.le_div_iff_mul_le hp).2 (by omega)
    have b : x / 2 ^ k < 2 := (Nat.div_lt_iff_lt_mul hp).2 (by rw [Nat.pow_succ] at h2; omega)
    omega
  rw [e]; rfl
theorem bitLen_log2 (x : Nat) (h : x ≠ 0) (hx : x < 18446744073709551616) : Lib.bitLen x = x.log2 + 1 :=
  bitLen_of _ x ((Nat.log2_lt h).2 (by simpa using hx)) (Nat.log2_self_le h) Nat.lt_log2_self
end Go.Proofs.YtifgngmebnjfkaaGreatDoor
end

section
namespace Go.Proofs.YtifgngmebnjfkaaGreatDoor
open Go.RowKit
set_option maxRecDepth 100000 in
set_option maxHeartbeats 600000 in
theorem drop_left (neg : Bool) (m k y : Nat) (e mode : Int) (hk : k ≤ 63) (hs : IntKind.u64.wrap ((m : Int) * 2 ^ k) = (y : Int)) (w : World) : Calls Tryz.prog 44 #[.agg #[.bool neg, .int .u64 m, .int .i64 e], .int .i64 (-(k : Int)), .int .i64 mode] w fun e' w' => e' = .returned (.tuple #[.int .u64 y, .bool false]) ∧ Within w w' := by
  have d : decide (-(k : Int) ≤ 0) = true := decide_eq_true (by omega)
  have g : IntKind.i64.wrap (- -(k : Int)) = (k : Int) := by rw [IntKind.wrap_i64]; omega
  have g' : - -(k : Int) = (k : Int) := by omega
  have g2 : IntKind.u64.wrap (k : Int) = (k : Int) := by rw [IntKind.wrap_u64]; omega
  go_enter Tryz.func44, Tryz.ntmps44
  go_wp2
  go_ret2
  exact ⟨rfl, (by repeat (with_reducible first | exact Within.refl _ | assumption | refine Within.alloc ?_ _ | refine Within.drew ?_ | refine Within.setCell ?_ (by first | (simp; done) | (simp; omega)) _ | refine Within.trans ?_ (by assumption)))⟩
set_option maxRecDepth 100000 in
set_option maxHeartbeats 600000 in
theorem drop_none (neg : Bool) (m s t q q1 p mid rest : Nat) (e : Int) (hq1 : q1 = q + 1) (h1 : 1 ≤ s) (h2 : s ≤ 64) (ht : s = t + 1) (hm : m < 18446744073709551616) (hq : q ≤ 9223372036854775808) (sh1 : (m : Int) / 2 ^ s = (q : Int)) (sh2 : IntKind.u64.wrap ((q : Int) * 2 ^ s) = (p : Int)) (sh3 : IntKind.u64.wrap (2 ^ t) = (mid : Int)) (hr : (m : Int) - p = rest) (mode : Int) (h0 : rest = 0) (hmid : 0 < mid) (w : World) : Calls Tryz.prog 44 #[.agg #[.bool neg, .int .u64 m, .int .i64 e], .int .i64 (s : Int), .int .i64 mode] w fun e' w' => e' = .returned (.tuple #[.int .u64 q, .bool false]) ∧ Within w w' := by
  have d1 : decide ((s : Int) ≤ 0) = false := decide_eq_false (by omega)
  have d2 : decide ((s : Int) > 64) = false := decide_eq_false (by omega)
  have g2 : IntKind.u64.wrap (s : Int) = (s : Int) := by rw [IntKind.wrap_u64]; omega
  have g3 : (s : Int) - 1 = (t : Int) := by omega
  have g4 : IntKind.u64.wrap (t : Int) = (t : Int) := by rw [IntKind.wrap_u64]; omega
  have h3 : t ≤ 63 := by omega
  have g5 : IntKind.u64.wrap ((m : Int) - p) = (rest : Int) := by rw [IntKind.wrap_u64]; omega
  have g7 : IntKind.u64.wrap ((q : Int) + 1) = (q1 : Int) := by rw [IntKind.wrap_u64]; omega
  subst h0
  have HS := Lib.hid (And.intro ht (And.intro hm (And.intro hq hq1)))
  clear hr ht hm hq hq1
  go_enter Tryz.func44, Tryz.ntmps44
  go_wp2
  go_ret2
  exact ⟨rfl, (by repeat (with_reducible first | exact Within.refl _ | assumption | refine Within.alloc ?_ _ | refine Within.drew ?_ | refine Within.setCell ?_ (by first | (simp; done) | (simp; omega)) _ | refine Within.trans ?_ (by assumption)))⟩
set_option maxRecDepth 100000 in
set_option maxHeartbeats 600000 in
theorem drop_lt_0 (neg : Bool) (m s t q q1 p mid rest : Nat) (e : Int) (hq1 : q1 = q + 1) (h1 : 1 ≤ s) (h2 : s ≤ 64) (ht : s = t + 1) (hm : m < 18446744073709551616) (hq : q ≤ 9223372036854775808) (sh1 : (m : Int) / 2 ^ s = (q : Int)) (sh2 : IntKind.u64.wrap ((q : Int) * 2 ^ s) = (p : Int)) (sh3 : IntKind.u64.wrap (2 ^ t) = (mid : Int)) (hr : (m : Int) - p = rest) (hc : rest < mid) (h0 : ((rest : Int) == 0) = false) (w : World) : Calls Tryz.prog 44 #[.agg #[.bool neg, .int .u64 m, .int .i64 e], .int .i64 (s : Int), .int .i64 0] w fun e' w' => e' = .returned (.tuple #[.int .u64 q, .bool true]) ∧ Within w w' := by
  have d1 : decide ((s : Int) ≤ 0) = false := decide_eq_false (by omega)
  have d2 : decide ((s : Int) > 64) = false := decide_eq_false (by omega)
  have g2 : IntKind.u64.wrap (s : Int) = (s : Int) := by rw [IntKind.wrap_u64]; omega
  have g3 : (s : Int) - 1 = (t : Int) := by omega
  have g4 : IntKind.u64.wrap (t : Int) = (t : Int) := by rw [IntKind.wrap_u64]; omega
  have h3 : t ≤ 63 := by omega
  have g5 : IntKind.u64.wrap ((m : Int) - p) = (rest : Int) := by rw [IntKind.wrap_u64]; omega
  have g7 : IntKind.u64.wrap ((q : Int) + 1) = (q1 : Int) := by rw [IntKind.wrap_u64]; omega
  have c1 : rest < mid := hc
  have g8 : IntKind.u64.wrap (q1 : Int) = (q1 : Int) := by rw [IntKind.wrap_u64]; omega
  have HS := Lib.hid (And.intro ht (And.intro hm (And.intro hq hq1)))
  clear hr ht hm hq hq1
  go_enter Tryz.func44, Tryz.ntmps44
  go_wp2
  go_ret2
  exact ⟨rfl, (by repeat (with_reducible first | exact Within.refl _ | assumption | refine Within.alloc ?_ _ | refine Within.drew ?_ | refine Within.setCell ?_ (by first | (simp; done) | (simp; omega)) _ | refine Within.trans ?_ (by assumption)))⟩
set_option maxRecDepth 100000 in
set_option maxHeartbeats 600000 in
theorem drop_lt_1 (neg : Bool) (m s t q q1 p mid rest : Nat) (e : Int) (hq1 : q1 = q + 1) (h1 : 1 ≤ s) (h2 : s ≤ 64) (ht : s = t + 1) (hm : m < 18446744073709551616) (hq : q ≤ 9223372036854775808) (sh1 : (m : Int) / 2 ^ s = (q : Int)) (sh2 : IntKind.u64.wrap ((q : Int) * 2 ^ s) = (p : Int)) (sh3 : IntKind.u64.wrap (2 ^ t) = (mid : Int)) (hr : (m : Int) - p = rest) (hc : rest < mid) (h0 : ((rest : Int) == 0) = false) (w : World) : Calls Tryz.prog 44 #[.agg #[.bool neg, .int .u64 m, .int .i64 e], .int .i64 (s : Int), .int .i64 1] w fun e' w' => e' = .returned (.tuple #[.int .u64 q, .bool true]) ∧ Within w w' := by
  have d1 : decide ((s : Int) ≤ 0) = false := decide_eq_false (by omega)
  have d2 : decide ((s : Int) > 64) = false := decide_eq_false (by omega)
  have g2 : IntKind.u64.wrap (s : Int) = (s : Int) := by rw [IntKind.wrap_u64]; omega
  have g3 : (s : Int) - 1 = (t : Int) := by omega
  have g4 : IntKind.u64.wrap (t : Int) = (t : Int) := by rw [IntKind.wrap_u64]; omega
  have h3 : t ≤ 63 := by omega
  have g5 : IntKind.u64.wrap ((m : Int) - p) = (rest : Int) := by rw [IntKind.wrap_u64]; omega
  have g7 : IntKind.u64.wrap ((q : Int) + 1) = (q1 : Int) := by rw [IntKind.wrap_u64]; omega
  have c1 : rest < mid := hc
  have g8 : IntKind.u64.wrap (q1 : Int) = (q1 : Int) := by rw [IntKind.wrap_u64]; omega
  have HS := Lib.hid (And.intro ht (And.intro hm (And.intro hq hq1)))
  clear hr ht hm hq hq1
  go_enter Tryz.func44, Tryz.ntmps44
  go_wp2
  go_ret2
  exact ⟨rfl, (by repeat (with_reducible first | exact Within.refl _ | assumption | refine Within.alloc ?_ _ | refine Within.drew ?_ | refine Within.setCell ?_ (by first | (simp; done) | (simp; omega)) _ | refine Within.trans ?_ (by assumption)))⟩
set_option maxRecDepth 100000 in
set_option maxHeartbeats 600000 in
theorem drop_lt_2 (neg : Bool) (m s t q q1 p mid rest : Nat) (e : Int) (hq1 : q1 = q + 1) (h1 : 1 ≤ s) (h2 : s ≤ 64) (ht : s = t + 1) (hm : m < 18446744073709551616) (hq : q ≤ 9223372036854775808) (sh1 : (m : Int) / 2 ^ s = (q : Int)) (sh2 : IntKind.u64.wrap ((q : Int) * 2 ^ s) = (p : Int)) (sh3 : IntKind.u64.wrap (2 ^ t) = (mid : Int)) (hr : (m : Int) - p = rest) (hc : rest < mid) (h0 : ((rest : Int) == 0) = false) (w : World) : Calls Tryz.prog 44 #[.agg #[.bool neg, .int .u64 m, .int .i64 e], .int .i64 (s : Int), .int .i64 2] w fun e' w' => e' = .returned (.tuple #[.int .u64 q, .bool true]) ∧ Within w w' := by
  have d1 : decide ((s : Int) ≤ 0) = false := decide_eq_false (by omega)
  have d2 : decide ((s : Int) > 64) = false := decide_eq_false (by omega)
  have g2 : IntKind.u64.wrap (s : Int) = (s : Int) := by rw [IntKind.wrap_u64]; omega
  have g3 : (s : Int) - 1 = (t : Int) := by omega
  have g4 : IntKind.u64.wrap (t : Int) = (t : Int) := by rw [IntKind.wrap_u64]; omega
  have h3 : t ≤ 63 := by omega
  have g5 : IntKind.u64.wrap ((m : Int) - p) = (rest : Int) := by rw [IntKind.wrap_u64]; omega
  have g7 : IntKind.u64.wrap ((q : Int) + 1) = (q1 : Int) := by rw [IntKind.wrap_u64]; omega
  have c1 : rest < mid := hc
  have g8 : IntKind.u64.wrap (q1 : Int) = (q1 : Int) := by rw [IntKind.wrap_u64]; omega
  have HS := Lib.hid (And.intro ht (And.intro hm (And.intro hq hq1)))
  clear hr ht hm hq hq1
  go_enter Tryz.func44, Tryz.ntmps44
  go_wp2
  go_ret2
  exact ⟨rfl, (by repeat (with_reducible first | exact Within.refl _ | assumption | refine Within.alloc ?_ _ | refine Within.drew ?_ | refine Within.setCell ?_ (by first | (simp; done) | (simp; omega)) _ | refine Within.trans ?_ (by assumption)))⟩
set_option maxRecDepth 100000 in
set_option maxHeartbeats 600000 in
theorem drop_lt_3n (m s t q q1 p mid rest : Nat) (e : Int) (hq1 : q1 = q + 1) (h1 : 1 ≤ s) (h2 : s ≤ 64) (ht : s = t + 1) (hm : m < 18446744073709551616) (hq : q ≤ 9223372036854775808) (sh1 : (m : Int) / 2 ^ s = (q : Int)) (sh2 : IntKind.u64.wrap ((q : Int) * 2 ^ s) = (p : Int)) (sh3 : IntKind.u64.wrap (2 ^ t) = (mid : Int)) (hr : (m : Int) - p = rest) (hc : rest < mid) (h0 : ((rest : Int) == 0) = false) (w : World) : Calls Tryz.prog 44 #[.agg #[.bool true, .int .u64 m, .int .i64 e], .int .i64 (s : Int), .int .i64 3] w fun e' w' => e' = .returned (.tuple #[.int .u64 q, .bool true]) ∧ Within w w' := by
  have d1 : decide ((s : Int) ≤ 0) = false := decide_eq_false (by omega)
  have d2 : decide ((s : Int) > 64) = false := decide_eq_false (by omega)
  have g2 : IntKind.u64.wrap (s : Int) = (s : Int) := by rw [IntKind.wrap_u64]; omega
  have g3 : (s : Int) - 1 = (t : Int) := by omega
  have g4 : IntKind.u64.wrap (t : Int) = (t : Int) := by rw [IntKind.wrap_u64]; omega
  have h3 : t ≤ 63 := by omega
  have g5 : IntKind.u64.wrap ((m : Int) - p) = (rest : Int) := by rw [IntKind.wrap_u64]; omega
  have g7 : IntKind.u64.wrap ((q : Int) + 1) = (q1 : Int) := by rw [IntKind.wrap_u64]; omega
  have c1 : rest < mid := hc
  have g8 : IntKind.u64.wrap (q1 : Int) = (q1 : Int) := by rw [IntKind.wrap_u64]; omega
  have HS := Lib.hid (And.intro ht (And.intro hm (And.intro hq hq1)))
  clear hr ht hm hq hq1
  go_enter Tryz.func44, Tryz.ntmps44
  go_wp2
  go_ret2
  exact ⟨rfl, (by repeat (with_reducible first | exact Within.refl _ | assumption | refine Within.alloc ?_ _ | refine Within.drew ?_ | refine Within.setCell ?_ (by first | (simp; done) | (simp; omega)) _ | refine Within.trans ?_ (by assumption)))⟩
set_option maxRecDepth 100000 in
set_option maxHeartbeats 600000 in
theorem drop_lt_3p (m s t q q1 p mid rest : Nat) (e : Int) (hq1 : q1 = q + 1) (h1 : 1 ≤ s) (h2 : s ≤ 64) (ht : s = t + 1) (hm : m < 18446744073709551616) (hq : q ≤ 9223372036854775808) (sh1 : (m : Int) / 2 ^ s = (q : Int)) (sh2 : IntKind.u64.wrap ((q : Int) * 2 ^ s) = (p : Int)) (sh3 : IntKind.u64.wrap (2 ^ t) = (mid : Int)) (hr : (m : Int) - p = rest) (hc : rest < mid) (h0 : ((rest : Int) == 0) = false) (w : World) : Calls Tryz.prog 44 #[.agg #[.bool false, .int .u64 m, .int .i64 e], .int .i64 (s : Int), .int .i64 3] w fun e' w' => e' = .returned (.tuple #[.int .u64 q1, .bool true]) ∧ Within w w' := by
  have d1 : decide ((s : Int) ≤ 0) = false := decide_eq_false (by omega)
  have d2 : decide ((s : Int) > 64) = false := decide_eq_false (by omega)
  have g2 : IntKind.u64.wrap (s : Int) = (s : Int) := by rw [IntKind.wrap_u64]; omega
  have g3 : (s : Int) - 1 = (t : Int) := by omega
  have g4 : IntKind.u64.wrap (t : Int) = (t : Int) := by rw [IntKind.wrap_u64]; omega
  have h3 : t ≤ 63 := by omega
  have g5 : IntKind.u64.wrap ((m : Int) - p) = (rest : Int) := by rw [IntKind.wrap_u64]; omega
  have g7 : IntKind.u64.wrap ((q : Int) + 1) = (q1 : Int) := by rw [IntKind.wrap_u64]; omega
  have c1 : rest < mid := hc
  have g8 : IntKind.u64.wrap (q1 : Int) = (q1 : Int) := by rw [IntKind.wrap_u64]; omega
  have HS := Lib.hid (And.intro ht (And.intro hm (And.intro hq hq1)))
  clear hr ht hm hq hq1
  go_enter Tryz.func44, Tryz.ntmps44
  go_wp2
  go_ret2
  exact ⟨rfl, (by repeat (with_reducible first | exact Within.refl _ | assumption | refine Within.alloc ?_ _ | refine Within.drew ?_ | refine Within.setCell ?_ (by first | (simp; done) | (simp; omega)) _ | refine Within.trans ?_ (by assumption)))⟩
set_option maxRecDepth 100000 in
set_option maxHeartbeats 600000 in
theorem drop_lt_4n (m s t q q1 p mid rest : Nat) (e : Int) (hq1 : q1 = q + 1) (h1 : 1 ≤ s) (h2 : s ≤ 64) (ht : s = t + 1) (hm : m < 18446744073709551616) (hq : q ≤ 9223372036854775808) (sh1 : (m : Int) / 2 ^ s = (q : Int)) (sh2 : IntKind.u64.wrap ((q : Int) * 2 ^ s) = (p : Int)) (sh3 : IntKind.u64.wrap (2 ^ t) = (mid : Int)) (hr : (m : Int) - p = rest) (hc : rest < mid) (h0 : ((rest : Int) == 0) = false) (w : World) : Calls Tryz.prog 44 #[.agg #[.bool true, .int .u64 m, .int .i64 e], .int .i64 (s : Int), .int .i64 4] w fun e' w' => e' = .returned (.tuple #[.int .u64 q1, .bool true]) ∧ Within w w' := by
  have d1 : decide ((s : Int) ≤ 0) = false := decide_eq_false (by omega)
  have d2 : decide ((s : Int) > 64) = false := decide_eq_false (by omega)
  have g2 : IntKind.u64.wrap (s : Int) = (s : Int) := by rw [IntKind.wrap_u64]; omega
  have g3 : (s : Int) - 1 = (t : Int) := by omega
  have g4 : IntKind.u64.wrap (t : Int) = (t : Int) := by rw [IntKind.wrap_u64]; omega
  have h3 : t ≤ 63 := by omega
  have g5 : IntKind.u64.wrap ((m : Int) - p) = (rest : Int) := by rw [IntKind.wrap_u64]; omega
  have g7 : IntKind.u64.wrap ((q : Int) + 1) = (q1 : Int) := by rw [IntKind.wrap_u64]; omega
  have c1 : rest < mid := hc
  have g8 : IntKind.u64.wrap (q1 : Int) = (q1 : Int) := by rw [IntKind.wrap_u64]; omega
  have HS := Lib.hid (And.intro ht (And.intro hm (And.intro hq hq1)))
  clear hr ht hm hq hq1
  go_enter Tryz.func44, Tryz.ntmps44
  go_wp2
  go_ret2
  exact ⟨rfl, (by repeat (with_reducible first | exact Within.refl _ | assumption | refine Within.alloc ?_ _ | refine Within.drew ?_ | refine Within.setCell ?_ (by first | (simp; done) | (simp; omega)) _ | refine Within.trans ?_ (by assumption)))⟩
set_option maxRecDepth 100000 in
set_option maxHeartbeats 600000 in
theorem drop_lt_4p (m s t q q1 p mid rest : Nat) (e : Int) (hq1 : q1 = q + 1) (h1 : 1 ≤ s) (h2 : s ≤ 64) (ht : s = t + 1) (hm : m < 18446744073709551616) (hq : q ≤ 9223372036854775808) (sh1 : (m : Int) / 2 ^ s = (q : Int)) (sh2 : IntKind.u64.wrap ((q : Int) * 2 ^ s) = (p : Int)) (sh3 : IntKind.u64.wrap (2 ^ t) = (mid : Int)) (hr : (m : Int) - p = rest) (hc : rest < mid) (h0 : ((rest : Int) == 0) = false) (w : World) : Calls Tryz.prog 44 #[.agg #[.bool false, .int .u64 m, .int .i64 e], .int .i64 (s : Int), .int .i64 4] w fun e' w' => e' = .returned (.tuple #[.int .u64 q, .bool true]) ∧ Within w w' := by
  have d1 : decide ((s : Int) ≤ 0) = false := decide_eq_false (by omega)
  have d2 : decide ((s : Int) > 64) = false := decide_eq_false (by omega)
  have g2 : IntKind.u64.wrap (s : Int) = (s : Int) := by rw [IntKind.wrap_u64]; omega
  have g3 : (s : Int) - 1 = (t : Int) := by omega
  have g4 : IntKind.u64.wrap (t : Int) = (t : Int) := by rw [IntKind.wrap_u64]; omega
  have h3 : t ≤ 63 := by omega
  have g5 : IntKind.u64.wrap ((m : Int) - p) = (rest : Int) := by rw [IntKind.wrap_u64]; omega
  have g7 : IntKind.u64.wrap ((q : Int) + 1) = (q1 : Int) := by rw [IntKind.wrap_u64]; omega
  have c1 : rest < mid := hc
  have g8 : IntKind.u64.wrap (q1 : Int) = (q1 : Int) := by rw [IntKind.wrap_u64]; omega
  have HS := Lib.hid (And.intro ht (And.intro hm (And.intro hq hq1)))
  clear hr ht hm hq hq1
  go_enter Tryz.func44, Tryz.ntmps44
  go_wp2
  go_ret2
  exact ⟨rfl, (by repeat (with_reducible first | exact Within.refl _ | assumption | refine Within.alloc ?_ _ | refine Within.drew ?_ | refine Within.setCell ?_ (by first | (simp; done) | (simp; omega)) _ | refine Within.trans ?_ (by assumption)))⟩
set_option maxRecDepth 100000 in
set_option maxHeartbeats 600000 in
theorem drop_eq_0e (neg : Bool) (m s t q q1 p mid rest : Nat) (e : Int) (hq1 : q1 = q + 1) (h1 : 1 ≤ s) (h2 : s ≤ 64) (ht : s = t + 1) (hm : m < 18446744073709551616) (hq : q ≤ 9223372036854775808) (sh1 : (m : Int) / 2 ^ s = (q : Int)) (sh2 : IntKind.u64.wrap ((q : Int) * 2 ^ s) = (p : Int)) (sh3 : IntKind.u64.wrap (2 ^ t) = (mid : Int)) (hr : (m : Int) - p = rest) (hc : mid = rest) (h0 : ((rest : Int) == 0) = false) (hp : bits .and .u64 (q : Int) 1 = 0) (w : World) : Calls Tryz.prog 44 #[.agg #[.bool neg, .int .u64 m, .int .i64 e], .int .i64 (s : Int), .int .i64 0] w fun e' w' => e' = .returned (.tuple #[.int .u64 q, .bool true]) ∧ Within w w' := by
  have d1 : decide ((s : Int) ≤ 0) = false := decide_eq_false (by omega)
  have d2 : decide ((s : Int) > 64) = false := decide_eq_false (by omega)
  have g2 : IntKind.u64.wrap (s : Int) = (s : Int) := by rw [IntKind.wrap_u64]; omega
  have g3 : (s : Int) - 1 = (t : Int) := by omega
  have g4 : IntKind.u64.wrap (t : Int) = (t : Int) := by rw [IntKind.wrap_u64]; omega
  have h3 : t ≤ 63 := by omega
  have g5 : IntKind.u64.wrap ((m : Int) - p) = (rest : Int) := by rw [IntKind.wrap_u64]; omega
  have g7 : IntKind.u64.wrap ((q : Int) + 1) = (q1 : Int) := by rw [IntKind.wrap_u64]; omega
  subst hc
  have g8 : IntKind.u64.wrap (q1 : Int) = (q1 : Int) := by rw [IntKind.wrap_u64]; omega
  have HS := Lib.hid (And.intro ht (And.intro hm (And.intro hq hq1)))
  clear hr ht hm hq hq1
  go_enter Tryz.func44, Tryz.ntmps44
  go_wp2
  go_ret2
  exact ⟨rfl, (by repeat (with_reducible first | exact Within.refl _ | assumption | refine Within.alloc ?_ _ | refine Within.drew ?_ | refine Within.setCell ?_ (by first | (simp; done) | (simp; omega)) _ | refine Within.trans ?_ (by assumption)))⟩
set_option maxRecDepth 100000 in
set_option maxHeartbeats 600000 in
theorem drop_eq_0o (neg : Bool) (m s t q q1 p mid rest : Nat) (e : Int) (hq1 : q1 = q + 1) (h1 : 1 ≤ s) (h2 : s ≤ 64) (ht : s = t + 1) (hm : m < 18446744073709551616) (hq : q ≤ 9223372036854775808) (sh1 : (m : Int) / 2 ^ s = (q : Int)) (sh2 : IntKind.u64.wrap ((q : Int) * 2 ^ s) = (p : Int)) (sh3 : IntKind.u64.wrap (2 ^ t) = (mid : Int)) (hr : (m : Int) - p = rest) (hc : mid = rest) (h0 : ((rest : Int) == 0) = false) (hp : bits .and .u64 (q : Int) 1 = 1) (w : World) : Calls Tryz.prog 44 #[.agg #[.bool neg, .int .u64 m, .int .i64 e], .int .i64 (s : Int), .int .i64 0] w fun e' w' => e' = .returned (.tuple #[.int .u64 q1, .bool true]) ∧ Within w w' := by
  have d1 : decide ((s : Int) ≤ 0) = false := decide_eq_false (by omega)
  have d2 : decide ((s : Int) > 64) = false := decide_eq_false (by omega)
  have g2 : IntKind.u64.wrap (s : Int) = (s : Int) := by rw [IntKind.wrap_u64]; omega
  have g3 : (s : Int) - 1 = (t : Int) := by omega
  have g4 : IntKind.u64.wrap (t : Int) = (t : Int) := by rw [IntKind.wrap_u64]; omega
  have h3 : t ≤ 63 := by omega
  have g5 : IntKind.u64.wrap ((m : Int) - p) = (rest : Int) := by rw [IntKind.wrap_u64]; omega
  have g7 : IntKind.u64.wrap ((q : Int) + 1) = (q1 : Int) := by rw [IntKind.wrap_u64]; omega
  subst hc
  have g8 : IntKind.u64.wrap (q1 : Int) = (q1 : Int) := by rw [IntKind.wrap_u64]; omega
  have HS := Lib.hid (And.intro ht (And.intro hm (And.intro hq hq1)))
  clear hr ht hm hq hq1
  go_enter Tryz.func44, Tryz.ntmps44
  go_wp2
  go_ret2
  exact ⟨rfl, (by repeat (with_reducible first | exact Within.refl _ | assumption | refine Within.alloc ?_ _ | refine Within.drew ?_ | refine Within.setCell ?_ (by first | (simp; done) | (simp; omega)) _ | refine Within.trans ?_ (by assumption)))⟩
set_option maxRecDepth 100000 in
set_option maxHeartbeats 600000 in
theorem drop_eq_1 (neg : Bool) (m s t q q1 p mid rest : Nat) (e : Int) (hq1 : q1 = q + 1) (h1 : 1 ≤ s) (h2 : s ≤ 64) (ht : s = t + 1) (hm : m < 18446744073709551616) (hq : q ≤ 9223372036854775808) (sh1 : (m : Int) / 2 ^ s = (q : Int)) (sh2 : IntKind.u64.wrap ((q : Int) * 2 ^ s) = (p : Int)) (sh3 : IntKind.u64.wrap (2 ^ t) = (mid : Int)) (hr : (m : Int) - p = rest) (hc : mid = rest) (h0 : ((rest : Int) == 0) = false) (w : World) : Calls Tryz.prog 44 #[.agg #[.bool neg, .int .u64 m, .int .i64 e], .int .i64 (s : Int), .int .i64 1] w fun e' w' => e' = .returned (.tuple #[.int .u64 q1, .bool true]) ∧ Within w w' := by
  have d1 : decide ((s : Int) ≤ 0) = false := decide_eq_false (by omega)
  have d2 : decide ((s : Int) > 64) = false := decide_eq_false (by omega)
  have g2 : IntKind.u64.wrap (s : Int) = (s : Int) := by rw [IntKind.wrap_u64]; omega
  have g3 : (s : Int) - 1 = (t : Int) := by omega
  have g4 : IntKind.u64.wrap (t : Int) = (t : Int) := by rw [IntKind.wrap_u64]; omega
  have h3 : t ≤ 63 := by omega
  have g5 : IntKind.u64.wrap ((m : Int) - p) = (rest : Int) := by rw [IntKind.wrap_u64]; omega
  have g7 : IntKind.u64.wrap ((q : Int) + 1) = (q1 : Int) := by rw [IntKind.wrap_u64]; omega
  subst hc
  have g8 : IntKind.u64.wrap (q1 : Int) = (q1 : Int) := by rw [IntKind.wrap_u64]; omega
  have HS := Lib.hid (And.intro ht (And.intro hm (And.intro hq hq1)))
  clear hr ht hm hq hq1
  go_enter Tryz.func44, Tryz.ntmps44
  go_wp2
  go_ret2
  exact ⟨rfl, (by repeat (with_reducible first | exact Within.refl _ | assumption | refine Within.alloc ?_ _ | refine Within.drew ?_ | refine Within.setCell ?_ (by first | (simp; done) | (simp; omega)) _ | refine Within.trans ?_ (by assumption)))⟩
set_option maxRecDepth 100000 in
set_option maxHeartbeats 600000 in
theorem drop_eq_2 (neg : Bool) (m s t q q1 p mid rest : Nat) (e : Int) (hq1 : q1 = q + 1) (h1 : 1 ≤ s) (h2 : s ≤ 64) (ht : s = t + 1) (hm : m < 18446744073709551616) (hq : q ≤ 9223372036854775808) (sh1 : (m : Int) / 2 ^ s = (q : Int)) (sh2 : IntKind.u64.wrap ((q : Int) * 2 ^ s) = (p : Int)) (sh3 : IntKind.u64.wrap (2 ^ t) = (mid : Int)) (hr : (m : Int) - p = rest) (hc : mid = rest) (h0 : ((rest : Int) == 0) = false) (w : World) : Calls Tryz.prog 44 #[.agg #[.bool neg, .int .u64 m, .int .i64 e], .int .i64 (s : Int), .int .i64 2] w fun e' w' => e' = .returned (.tuple #[.int .u64 q, .bool true]) ∧ Within w w' := by
  have d1 : decide ((s : Int) ≤ 0) = false := decide_eq_false (by omega)
  have d2 : decide ((s : Int) > 64) = false := decide_eq_false (by omega)
  have g2 : IntKind.u64.wrap (s : Int) = (s : Int) := by rw [IntKind.wrap_u64]; omega
  have g3 : (s : Int) - 1 = (t : Int) := by omega
  have g4 : IntKind.u64.wrap (t : Int) = (t : Int) := by rw [IntKind.wrap_u64]; omega
  have h3 : t ≤ 63 := by omega
  have g5 : IntKind.u64.wrap ((m : Int) - p) = (rest : Int) := by rw [IntKind.wrap_u64]; omega
  have g7 : IntKind.u64.wrap ((q : Int) + 1) = (q1 : Int) := by rw [IntKind.wrap_u64]; omega
  subst hc
  have g8 : IntKind.u64.wrap (q1 : Int) = (q1 : Int) := by rw [IntKind.wrap_u64]; omega
  have HS := Lib.hid (And.intro ht (And.intro hm (And.intro hq hq1)))
  clear hr ht hm hq hq1
  go_enter Tryz.func44, Tryz.ntmps44
  go_wp2
  go_ret2
  exact ⟨rfl, (by repeat (with_reducible first | exact Within.refl _ | assumption | refine Within.alloc ?_ _ | refine Within.drew ?_ | refine Within.setCell ?_ (by first | (simp; done) | (simp; omega)) _ | refine Within.trans ?_ (by assumption)))⟩
set_option maxRecDepth 100000 in
set_option maxHeartbeats 600000 in
theorem drop_eq_3n (m s t q q1 p mid rest : Nat) (e : Int) (hq1 : q1 = q + 1) (h1 : 1 ≤ s) (h2 : s ≤ 64) (ht : s = t + 1) (hm : m < 18446744073709551616) (hq : q ≤ 9223372036854775808) (sh1 : (m : Int) / 2 ^ s = (q : Int)) (sh2 : IntKind.u64.wrap ((q : Int) * 2 ^ s) = (p : Int)) (sh3 : IntKind.u64.wrap (2 ^ t) = (mid : Int)) (hr : (m : Int) - p = rest) (hc : mid = rest) (h0 : ((rest : Int) == 0) = false) (w : World) : Calls Tryz.prog 44 #[.agg #[.bool true, .int .u64 m, .int .i64 e], .int .i64 (s : Int), .int .i64 3] w fun e' w' => e' = .returned (.tuple #[.int .u64 q, .bool true]) ∧ Within w w' := by
  have d1 : decide ((s : Int) ≤ 0) = false := decide_eq_false (by omega)
  have d2 : decide ((s : Int) > 64) = false := decide_eq_false (by omega)
  have g2 : IntKind.u64.wrap (s : Int) = (s : Int) := by rw [IntKind.wrap_u64]; omega
  have g3 : (s : Int) - 1 = (t : Int) := by omega
  have g4 : IntKind.u64.wrap (t : Int) = (t : Int) := by rw [IntKind.wrap_u64]; omega
  have h3 : t ≤ 63 := by omega
  have g5 : IntKind.u64.wrap ((m : Int) - p) = (rest : Int) := by rw [IntKind.wrap_u64]; omega
  have g7 : IntKind.u64.wrap ((q : Int) + 1) = (q1 : Int) := by rw [IntKind.wrap_u64]; omega
  subst hc
  have g8 : IntKind.u64.wrap (q1 : Int) = (q1 : Int) := by rw [IntKind.wrap_u64]; omega
  have HS := Lib.hid (And.intro ht (And.intro hm (And.intro hq hq1)))
  clear hr ht hm hq hq1
  go_enter Tryz.func44, Tryz.ntmps44
  go_wp2
  go_ret2
  exact ⟨rfl, (by repeat (with_reducible first | exact Within.refl _ | assumption | refine Within.alloc ?_ _ | refine Within.drew ?_ | refine Within.setCell ?_ (by first | (simp; done) | (simp; omega)) _ | refine Within.trans ?_ (by assumption)))⟩
set_option maxRecDepth 100000 in
set_option maxHeartbeats 600000 in
theorem drop_eq_3p (m s t q q1 p mid rest : Nat) (e : Int) (hq1 : q1 = q + 1) (h1 : 1 ≤ s) (h2 : s ≤ 64) (ht : s = t + 1) (hm : m < 18446744073709551616) (hq : q ≤ 9223372036854775808) (sh1 : (m : Int) / 2 ^ s = (q : Int)) (sh2 : IntKind.u64.wrap ((q : Int) * 2 ^ s) = (p : Int)) (sh3 : IntKind.u64.wrap (2 ^ t) = (mid : Int)) (hr : (m : Int) - p = rest) (hc : mid = rest) (h0 : ((rest : Int) == 0) = false) (w : World) : Calls Tryz.prog 44 #[.agg #[.bool false, .int .u64 m, .int .i64 e], .int .i64 (s : Int), .int .i64 3] w fun e' w' => e' = .returned (.tuple #[.int .u64 q1, .bool true]) ∧ Within w w' := by
  have d1 : decide ((s : Int) ≤ 0) = false := decide_eq_false (by omega)
  have d2 : decide ((s : Int) > 64) = false := decide_eq_false (by omega)
  have g2 : IntKind.u64.wrap (s : Int) = (s : Int) := by rw [IntKind.wrap_u64]; omega
  have g3 : (s : Int) - 1 = (t : Int) := by omega
  have g4 : IntKind.u64.wrap (t : Int) = (t : Int) := by rw [IntKind.wrap_u64]; omega
  have h3 : t ≤ 63 := by omega
  have g5 : IntKind.u64.wrap ((m : Int) - p) = (rest : Int) := by rw [IntKind.wrap_u64]; omega
  have g7 : IntKind.u64.wrap ((q : Int) + 1) = (q1 : Int) := by rw [IntKind.wrap_u64]; omega
  subst hc
  have g8 : IntKind.u64.wrap (q1 : Int) = (q1 : Int) := by rw [IntKind.wrap_u64]; omega
  have HS := Lib.hid (And.intro ht (And.intro hm (And.intro hq hq1)))
  clear hr ht hm hq hq1
  go_enter Tryz.func44, Tryz.ntmps44
  go_wp2
  go_ret2
  exact ⟨rfl, (by repeat (with_reducible first | exact Within.refl _ | assumption | refine Within.alloc ?_ _ | refine Within.drew ?_ | refine Within.setCell ?_ (by first | (simp; done) | (simp; omega)) _ | refine Within.trans ?_ (by assumption)))⟩
set_option maxRecDepth 100000 in
set_option maxHeartbeats 600000 in
theorem drop_eq_4n (m s t q q1 p mid rest : Nat) (e : Int) (hq1 : q1 = q + 1) (h1 : 1 ≤ s) (h2 : s ≤ 64) (ht : s = t + 1) (hm : m < 18446744073709551616) (hq : q ≤ 9223372036854775808) (sh1 : (m : Int) / 2 ^ s = (q : Int)) (sh2 : IntKind.u64.wrap ((q : Int) * 2 ^ s) = (p : Int)) (sh3 : IntKind.u64.wrap (2 ^ t) = (mid : Int)) (hr : (m : Int) - p = rest) (hc : mid = rest) (h0 : ((rest : Int) == 0) = false) (w : World) : Calls Tryz.prog 44 #[.agg #[.bool true, .int .u64 m, .int .i64 e], .int .i64 (s : Int), .int .i64 4] w fun e' w' => e' = .returned (.tuple #[.int .u64 q1, .bool true]) ∧ Within w w' := by
  have d1 : decide ((s : Int) ≤ 0) = false := decide_eq_false (by omega)
  have d2 : decide ((s : Int) > 64) = false := decide_eq_false (by omega)
  have g2 : IntKind.u64.wrap (s : Int) = (s : Int) := by rw [IntKind.wrap_u64]; omega
  have g3 : (s : Int) - 1 = (t : Int) := by omega
  have g4 : IntKind.u64.wrap (t : Int) = (t : Int) := by rw [IntKind.wrap_u64]; omega
  have h3 : t ≤ 63 := by omega
  have g5 : IntKind.u64.wrap ((m : Int) - p) = (rest : Int) := by rw [IntKind.wrap_u64]; omega
  have g7 : IntKind.u64.wrap ((q : Int) + 1) = (q1 : Int) := by rw [IntKind.wrap_u64]; omega
  subst hc
  have g8 : IntKind.u64.wrap (q1 : Int) = (q1 : Int) := by rw [IntKind.wrap_u64]; omega
  have HS := Lib.hid (And.intro ht (And.intro hm (And.intro hq hq1)))
  clear hr ht hm hq hq1
  go_enter Tryz.func44, Tryz.ntmps44
  go_wp2
  go_ret2
  exact ⟨rfl, (by repeat (with_reducible first | exact Within.refl _ | assumption | refine Within.alloc ?_ _ | refine Within.drew ?_ | refine Within.setCell ?_ (by first | (simp; done) | (simp; omega)) _ | refine Within.trans ?_ (by assumption)))⟩
set_option maxRecDepth 100000 in
set_option maxHeartbeats 600000 in
theorem drop_eq_4p (m s t q q1 p mid rest : Nat) (e : Int) (hq1 : q1 = q + 1) (h1 : 1 ≤ s) (h2 : s ≤ 64) (ht : s = t + 1) (hm : m < 18446744073709551616) (hq : q ≤ 9223372036854775808) (sh1 : (m : Int) / 2 ^ s = (q : Int)) (sh2 : IntKind.u64.wrap ((q : Int) * 2 ^ s) = (p : Int)) (sh3 : IntKind.u64.wrap (2 ^ t) = (mid : Int)) (hr : (m : Int) - p = rest) (hc : mid = rest) (h0 : ((rest : Int) == 0) = false) (w : World) : Calls Tryz.prog 44 #[.agg #[.bool false, .int .u64 m, .int .i64 e], .int .i64 (s : Int), .int .i64 4] w fun e' w' => e' = .returned (.tuple #[.int .u64 q, .bool true]) ∧ Within w w' := by
  have d1 : decide ((s : Int) ≤ 0) = false := decide_eq_false (by omega)
  have d2 : decide ((s : Int) > 64) = false := decide_eq_false (by omega)
  have g2 : IntKind.u64.wrap (s : Int) = (s : Int) := by rw [IntKind.wrap_u64]; omega
  have g3 : (s : Int) - 1 = (t : Int) := by omega
  have g4 : IntKind.u64.wrap (t : Int) = (t : Int) := by rw [IntKind.wrap_u64]; omega
  have h3 : t ≤ 63 := by omega
  have g5 : IntKind.u64.wrap ((m : Int) - p) = (rest : Int) := by rw [IntKind.wrap_u64]; omega
  have g7 : IntKind.u64.wrap ((q : Int) + 1) = (q1 : Int) := by rw [IntKind.wrap_u64]; omega
  subst hc
  have g8 : IntKind.u64.wrap (q1 : Int) = (q1 : Int) := by rw [IntKind.wrap_u64]; omega
  have HS := Lib.hid (And.intro ht (And.intro hm (And.intro hq hq1)))
  clear hr ht hm hq hq1
  go_enter Tryz.func44, Tryz.ntmps44
  go_wp2
  go_ret2
  exact ⟨rfl, (by repeat (with_reducible first | exact Within.refl _ | assumption | refine Within.alloc ?_ _ | refine Within.drew ?_ | refine Within.setCell ?_ (by first | (simp; done) | (simp; omega)) _ | refine Within.trans ?_ (by assumption)))⟩
set_option maxRecDepth 100000 in
set_option maxHeartbeats 600000 in
theorem drop_gt_0 (neg : Bool) (m s t q q1 p mid rest : Nat) (e : Int) (hq1 : q1 = q + 1) (h1 : 1 ≤ s) (h2 : s ≤ 64) (ht : s = t + 1) (hm : m < 18446744073709551616) (hq : q ≤ 9223372036854775808) (sh1 : (m : Int) / 2 ^ s = (q : Int)) (sh2 : IntKind.u64.wrap ((q : Int) * 2 ^ s) = (p : Int)) (sh3 : IntKind.u64.wrap (2 ^ t) = (mid : Int)) (hr : (m : Int) - p = rest) (hc : mid < rest) (h0 : ((rest : Int) == 0) = false) (w : World) : Calls Tryz.prog 44 #[.agg #[.bool neg, .int .u64 m, .int .i64 e], .int .i64 (s : Int), .int .i64 0] w fun e' w' => e' = .returned (.tuple #[.int .u64 q1, .bool true]) ∧ Within w w' := by
  have d1 : decide ((s : Int) ≤ 0) = false := decide_eq_false (by omega)
  have d2 : decide ((s : Int) > 64) = false := decide_eq_false (by omega)
  have g2 : IntKind.u64.wrap (s : Int) = (s : Int) := by rw [IntKind.wrap_u64]; omega
  have g3 : (s : Int) - 1 = (t : Int) := by omega
  have g4 : IntKind.u64.wrap (t : Int) = (t : Int) := by rw [IntKind.wrap_u64]; omega
  have h3 : t ≤ 63 := by omega
  have g5 : IntKind.u64.wrap ((m : Int) - p) = (rest : Int) := by rw [IntKind.wrap_u64]; omega
  have g7 : IntKind.u64.wrap ((q : Int) + 1) = (q1 : Int) := by rw [IntKind.wrap_u64]; omega
  have c1 : ¬ rest < mid := by omega
  have c2 : mid < rest := hc
  have g8 : IntKind.u64.wrap (q1 : Int) = (q1 : Int) := by rw [IntKind.wrap_u64]; omega
  have HS := Lib.hid (And.intro ht (And.intro hm (And.intro hq hq1)))
  clear hr ht hm hq hq1
  go_enter Tryz.func44, Tryz.ntmps44
  go_wp2
  go_ret2
  exact ⟨rfl, (by repeat (with_reducible first | exact Within.refl _ | assumption | refine Within.alloc ?_ _ | refine Within.drew ?_ | refine Within.setCell ?_ (by first | (simp; done) | (simp; omega)) _ | refine Within.trans ?_ (by assumption)))⟩
set_option maxRecDepth 100000 in
set_option maxHeartbeats 600000 in
theorem drop_gt_1 (neg : Bool) (m s t q q1 p mid rest : Nat) (e : Int) (hq1 : q1 = q + 1) (h1 : 1 ≤ s) (h2 : s ≤ 64) (ht : s = t + 1) (hm : m < 18446744073709551616) (hq : q ≤ 9223372036854775808) (sh1 : (m : Int) / 2 ^ s = (q : Int)) (sh2 : IntKind.u64.wrap ((q : Int) * 2 ^ s) = (p : Int)) (sh3 : IntKind.u64.wrap (2 ^ t) = (mid : Int)) (hr : (m : Int) - p = rest) (hc : mid < rest) (h0 : ((rest : Int) == 0) = false) (w : World) : Calls Tryz.prog 44 #[.agg #[.bool neg, .int .u64 m, .int .i64 e], .int .i64 (s : Int), .int .i64 1] w fun e' w' => e' = .returned (.tuple #[.int .u64 q1, .bool true]) ∧ Within w w' := by
  have d1 : decide ((s : Int) ≤ 0) = false := decide_eq_false (by omega)
  have d2 : decide ((s : Int) > 64) = false := decide_eq_false (by omega)
  have g2 : IntKind.u64.wrap (s : Int) = (s : Int) := by rw [IntKind.wrap_u64]; omega
  have g3 : (s : Int) - 1 = (t : Int) := by omega
  have g4 : IntKind.u64.wrap (t : Int) = (t : Int) := by rw [IntKind.wrap_u64]; omega
  have h3 : t ≤ 63 := by omega
  have g5 : IntKind.u64.wrap ((m : Int) - p) = (rest : Int) := by rw [IntKind.wrap_u64]; omega
  have g7 : IntKind.u64.wrap ((q : Int) + 1) = (q1 : Int) := by rw [IntKind.wrap_u64]; omega
  have c1 : ¬ rest < mid := by omega
  have c2 : mid < rest := hc
  have g8 : IntKind.u64.wrap (q1 : Int) = (q1 : Int) := by rw [IntKind.wrap_u64]; omega
  have HS := Lib.hid (And.intro ht (And.intro hm (And.intro hq hq1)))
  clear hr ht hm hq hq1
  go_enter Tryz.func44, Tryz.ntmps44
  go_wp2
  go_ret2
  exact ⟨rfl, (by repeat (with_reducible first | exact Within.refl _ | assumption | refine Within.alloc ?_ _ | refine Within.drew ?_ | refine Within.setCell ?_ (by first | (simp; done) | (simp; omega)) _ | refine Within.trans ?_ (by assumption)))⟩
set_option maxRecDepth 100000 in
set_option maxHeartbeats 600000 in
theorem drop_gt_2 (neg : Bool) (m s t q q1 p mid rest : Nat) (e : Int) (hq1 : q1 = q + 1) (h1 : 1 ≤ s) (h2 : s ≤ 64) (ht : s = t + 1) (hm : m < 18446744073709551616) (hq : q ≤ 9223372036854775808) (sh1 : (m : Int) / 2 ^ s = (q : Int)) (sh2 : IntKind.u64.wrap ((q : Int) * 2 ^ s) = (p : Int)) (sh3 : IntKind.u64.wrap (2 ^ t) = (mid : Int)) (hr : (m : Int) - p = rest) (hc : mid < rest) (h0 : ((rest : Int) == 0) = false) (w : World) : Calls Tryz.prog 44 #[.agg #[.bool neg, .int .u64 m, .int .i64 e], .int .i64 (s : Int), .int .i64 2] w fun e' w' => e' = .returned (.tuple #[.int .u64 q, .bool true]) ∧ Within w w' := by
  have d1 : decide ((s : Int) ≤ 0) = false := decide_eq_false (by omega)
  have d2 : decide ((s : Int) > 64) = false := decide_eq_false (by omega)
  have g2 : IntKind.u64.wrap (s : Int) = (s : Int) := by rw [IntKind.wrap_u64]; omega
  have g3 : (s : Int) - 1 = (t : Int) := by omega
  have g4 : IntKind.u64.wrap (t : Int) = (t : Int) := by rw [IntKind.wrap_u64]; omega
  have h3 : t ≤ 63 := by omega
  have g5 : IntKind.u64.wrap ((m : Int) - p) = (rest : Int) := by rw [IntKind.wrap_u64]; omega
  have g7 : IntKind.u64.wrap ((q : Int) + 1) = (q1 : Int) := by rw [IntKind.wrap_u64]; omega
  have c1 : ¬ rest < mid := by omega
  have c2 : mid < rest := hc
  have g8 : IntKind.u64.wrap (q1 : Int) = (q1 : Int) := by rw [IntKind.wrap_u64]; omega
  have HS := Lib.hid (And.intro ht (And.intro hm (And.intro hq hq1)))
  clear hr ht hm hq hq1
  go_enter Tryz.func44, Tryz.ntmps44
  go_wp2
  go_ret2
  exact ⟨rfl, (by repeat (with_reducible first | exact Within.refl _ | assumption | refine Within.alloc ?_ _ | refine Within.drew ?_ | refine Within.setCell ?_ (by first | (simp; done) | (simp; omega)) _ | refine Within.trans ?_ (by assumption)))⟩
set_option maxRecDepth 100000 in
set_option maxHeartbeats 600000 in
theorem drop_gt_3n (m s t q q1 p mid rest : Nat) (e : Int) (hq1 : q1 = q + 1) (h1 : 1 ≤ s) (h2 : s ≤ 64) (ht : s = t + 1) (hm : m < 18446744073709551616) (hq : q ≤ 9223372036854775808) (sh1 : (m : Int) / 2 ^ s = (q : Int)) (sh2 : IntKind.u64.wrap ((q : Int) * 2 ^ s) = (p : Int)) (sh3 : IntKind.u64.wrap (2 ^ t) = (mid : Int)) (hr : (m : Int) - p = rest) (hc : mid < rest) (h0 : ((rest : Int) == 0) = false) (w : World) : Calls Tryz.prog 44 #[.agg #[.bool true, .int .u64 m, .int .i64 e], .int .i64 (s : Int), .int .i64 3] w fun e' w' => e' = .returned (.tuple #[.int .u64 q, .bool true]) ∧ Within w w' := by
  have d1 : decide ((s : Int) ≤ 0) = false := decide_eq_false (by omega)
  have d2 : decide ((s : Int) > 64) = false := decide_eq_false (by omega)
  have g2 : IntKind.u64.wrap (s : Int) = (s : Int) := by rw [IntKind.wrap_u64]; omega
  have g3 : (s : Int) - 1 = (t : Int) := by omega
  have g4 : IntKind.u64.wrap (t : Int) = (t : Int) := by rw [IntKind.wrap_u64]; omega
  have h3 : t ≤ 63 := by omega
  have g5 : IntKind.u64.wrap ((m : Int) - p) = (rest : Int) := by rw [IntKind.wrap_u64]; omega
  have g7 : IntKind.u64.wrap ((q : Int) + 1) = (q1 : Int) := by rw [IntKind.wrap_u64]; omega
  have c1 : ¬ rest < mid := by omega
  have c2 : mid < rest := hc
  have g8 : IntKind.u64.wrap (q1 : Int) = (q1 : Int) := by rw [IntKind.wrap_u64]; omega
  have HS := Lib.hid (And.intro ht (And.intro hm (And.intro hq hq1)))
  clear hr ht hm hq hq1
  go_enter Tryz.func44, Tryz.ntmps44
  go_wp2
  go_ret2
  exact ⟨rfl, (by repeat (with_reducible first | exact Within.refl _ | assumption | refine Within.alloc ?_ _ | refine Within.drew ?_ | refine Within.setCell ?_ (by first | (simp; done) | (simp; omega)) _ | refine Within.trans ?_ (by assumption)))⟩
set_option maxRecDepth 100000 in
set_option maxHeartbeats 600000 in
theorem drop_gt_3p (m s t q q1 p mid rest : Nat) (e : Int) (hq1 : q1 = q + 1) (h1 : 1 ≤ s) (h2 : s ≤ 64) (ht : s = t + 1) (hm : m < 18446744073709551616) (hq : q ≤ 9223372036854775808) (sh1 : (m : Int) / 2 ^ s = (q : Int)) (sh2 : IntKind.u64.wrap ((q : Int) * 2 ^ s) = (p : Int)) (sh3 : IntKind.u64.wrap (2 ^ t) = (mid : Int)) (hr : (m : Int) - p = rest) (hc : mid < rest) (h0 : ((rest : Int) == 0) = false) (w : World) : Calls Tryz.prog 44 #[.agg #[.bool false, .int .u64 m, .int .i64 e], .int .i64 (s : Int), .int .i64 3] w fun e' w' => e' = .returned (.tuple #[.int .u64 q1, .bool true]) ∧ Within w w' := by
  have d1 : decide ((s : Int) ≤ 0) = false := decide_eq_false (by omega)
  have d2 : decide ((s : Int) > 64) = false := decide_eq_false (by omega)
  have g2 : IntKind.u64.wrap (s : Int) = (s : Int) := by rw [IntKind.wrap_u64]; omega
  have g3 : (s : Int) - 1 = (t : Int) := by omega
  have g4 : IntKind.u64.wrap (t : Int) = (t : Int) := by rw [IntKind.wrap_u64]; omega
  have h3 : t ≤ 63 := by omega
  have g5 : IntKind.u64.wrap ((m : Int) - p) = (rest : Int) := by rw [IntKind.wrap_u64]; omega
  have g7 : IntKind.u64.wrap ((q : Int) + 1) = (q1 : Int) := by rw [IntKind.wrap_u64]; omega
  have c1 : ¬ rest < mid := by omega
  have c2 : mid < rest := hc
  have g8 : IntKind.u64.wrap (q1 : Int) = (q1 : Int) := by rw [IntKind.wrap_u64]; omega
  have HS := Lib.hid (And.intro ht (And.intro hm (And.intro hq hq1)))
  clear hr ht hm hq hq1
  go_enter Tryz.func44, Tryz.ntmps44
  go_wp2
  go_ret2
  exact ⟨rfl, (by repeat (with_reducible first | exact Within.refl _ | assumption | refine Within.alloc ?_ _ | refine Within.drew ?_ | refine Within.setCell ?_ (by first | (simp; done) | (simp; omega)) _ | refine Within.trans ?_ (by assumption)))⟩
set_option maxRecDepth 100000 in
set_option maxHeartbeats 600000 in
theorem drop_gt_4n (m s t q q1 p mid rest : Nat) (e : Int) (hq1 : q1 = q + 1) (h1 : 1 ≤ s) (h2 : s ≤ 64) (ht : s = t + 1) (hm : m < 18446744073709551616) (hq : q ≤ 9223372036854775808) (sh1 : (m : Int) / 2 ^ s = (q : Int)) (sh2 : IntKind.u64.wrap ((q : Int) * 2 ^ s) = (p : Int)) (sh3 : IntKind.u64.wrap (2 ^ t) = (mid : Int)) (hr : (m : Int) - p = rest) (hc : mid < rest) (h0 : ((rest : Int) == 0) = false) (w : World) : Calls Tryz.prog 44 #[.agg #[.bool true, .int .u64 m, .int .i64 e], .int .i64 (s : Int), .int .i64 4] w fun e' w' => e' = .returned (.tuple #[.int .u64 q1, .bool true]) ∧ Within w w' := by
  have d1 : decide ((s : Int) ≤ 0) = false := decide_eq_false (by omega)
  have d2 : decide ((s : Int) > 64) = false := decide_eq_false (by omega)
  have g2 : IntKind.u64.wrap (s : Int) = (s : Int) := by rw [IntKind.wrap_u64]; omega
  have g3 : (s : Int) - 1 = (t : Int) := by omega
  have g4 : IntKind.u64.wrap (t : Int) = (t : Int) := by rw [IntKind.wrap_u64]; omega
  have h3 : t ≤ 63 := by omega
  have g5 : IntKind.u64.wrap ((m : Int) - p) = (rest : Int) := by rw [IntKind.wrap_u64]; omega
  have g7 : IntKind.u64.wrap ((q : Int) + 1) = (q1 : Int) := by rw [IntKind.wrap_u64]; omega
  have c1 : ¬ rest < mid := by omega
  have c2 : mid < rest := hc
  have g8 : IntKind.u64.wrap (q1 : Int) = (q1 : Int) := by rw [IntKind.wrap_u64]; omega
  have HS := Lib.hid (And.intro ht (And.intro hm (And.intro hq hq1)))
  clear hr ht hm hq hq1
  go_enter Tryz.func44, Tryz.ntmps44
  go_wp2
  go_ret2
  exact ⟨rfl, (by repeat (with_reducible first | exact Within.refl _ | assumption | refine Within.alloc ?_ _ | refine Within.drew ?_ | refine Within.setCell ?_ (by first | (simp; done) | (simp; omega)) _ | refine Within.trans ?_ (by assumption)))⟩
set_option maxRecDepth 100000 in
set_option maxHeartbeats 600000 in
theorem drop_gt_4p (m s t q q1 p mid rest : Nat) (e : Int) (hq1 : q1 = q + 1) (h1 : 1 ≤ s) (h2 : s ≤ 64) (ht : s = t + 1) (hm : m < 18446744073709551616) (hq : q ≤ 9223372036854775808) (sh1 : (m : Int) / 2 ^ s = (q : Int)) (sh2 : IntKind.u64.wrap ((q : Int) * 2 ^ s) = (p : Int)) (sh3 : IntKind.u64.wrap (2 ^ t) = (mid : Int)) (hr : (m : Int) - p = rest) (hc : mid < rest) (h0 : ((rest : Int) == 0) = false) (w : World) : Calls Tryz.prog 44 #[.agg #[.bool false, .int .u64 m, .int .i64 e], .int .i64 (s : Int), .int .i64 4] w fun e' w' => e' = .returned (.tuple #[.int .u64 q, .bool true]) ∧ Within w w' := by
  have d1 : decide ((s : Int) ≤ 0) = false := decide_eq_false (by omega)
  have d2 : decide ((s : Int) > 64) = false := decide_eq_false (by omega)
  have g2 : IntKind.u64.wrap (s : Int) = (s : Int) := by rw [IntKind.wrap_u64]; omega
  have g3 : (s : Int) - 1 = (t : Int) := by omega
  have g4 : IntKind.u64.wrap (t : Int) = (t : Int) := by rw [IntKind.wrap_u64]; omega
  have h3 : t ≤ 63 := by omega
  have g5 : IntKind.u64.wrap ((m : Int) - p) = (rest : Int) := by rw [IntKind.wrap_u64]; omega
  have g7 : IntKind.u64.wrap ((q : Int) + 1) = (q1 : Int) := by rw [IntKind.wrap_u64]; omega
  have c1 : ¬ rest < mid := by omega
  have c2 : mid < rest := hc
  have g8 : IntKind.u64.wrap (q1 : Int) = (q1 : Int) := by rw [IntKind.wrap_u64]; omega
  have HS := Lib.hid (And.intro ht (And.intro hm (And.intro hq hq1)))
  clear hr ht hm hq hq1
  go_enter Tryz.func44, Tryz.ntmps44
  go_wp2
  go_ret2
  exact ⟨rfl, (by repeat (with_reducible first | exact Within.refl _ | assumption | refine Within.alloc ?_ _ | refine Within.drew ?_ | refine Within.setCell ?_ (by first | (simp; done) | (simp; omega)) _ | refine Within.trans ?_ (by assumption)))⟩
set_option maxRecDepth 100000 in
set_option maxHeartbeats 600000 in
theorem drop_far_0 (neg : Bool) (m : Nat) (s e : Int) (h1 : 64 < s) (hm : ((m : Int) == 0) = false) (w : World) : Calls Tryz.prog 44 #[.agg #[.bool neg, .int .u64 m, .int .i64 e], .int .i64 s, .int .i64 0] w fun e' w' => e' = .returned (.tuple #[.int .u64 0, .bool true]) ∧ Within w w' := by
  have d1 : decide (s ≤ 0) = false := decide_eq_false (by omega)
  have d2 : decide (s > 64) = true := decide_eq_true h1
  clear h1
  go_enter Tryz.func44, Tryz.ntmps44
  go_wp2
  go_ret2
  exact ⟨rfl, (by repeat (with_reducible first | exact Within.refl _ | assumption | refine Within.alloc ?_ _ | refine Within.drew ?_ | refine Within.setCell ?_ (by first | (simp; done) | (simp; omega)) _ | refine Within.trans ?_ (by assumption)))⟩
set_option maxRecDepth 100000 in
set_option maxHeartbeats 600000 in
theorem drop_far_1 (neg : Bool) (m : Nat) (s e : Int) (h1 : 64 < s) (hm : ((m : Int) == 0) = false) (w : World) : Calls Tryz.prog 44 #[.agg #[.bool neg, .int .u64 m, .int .i64 e], .int .i64 s, .int .i64 1] w fun e' w' => e' = .returned (.tuple #[.int .u64 0, .bool true]) ∧ Within w w' := by
  have d1 : decide (s ≤ 0) = false := decide_eq_false (by omega)
  have d2 : decide (s > 64) = true := decide_eq_true h1
  clear h1
  go_enter Tryz.func44, Tryz.ntmps44
  go_wp2
  go_ret2
  exact ⟨rfl, (by repeat (with_reducible first | exact Within.refl _ | assumption | refine Within.alloc ?_ _ | refine Within.drew ?_ | refine Within.setCell ?_ (by first | (simp; done) | (simp; omega)) _ | refine Within.trans ?_ (by assumption)))⟩
set_option maxRecDepth 100000 in
set_option maxHeartbeats 600000 in
theorem drop_far_2 (neg : Bool) (m : Nat) (s e : Int) (h1 : 64 < s) (hm : ((m : Int) == 0) = false) (w : World) : Calls Tryz.prog 44 #[.agg #[.bool neg, .int .u64 m, .int .i64 e], .int .i64 s, .int .i64 2] w fun e' w' => e' = .returned (.tuple #[.int .u64 0, .bool true]) ∧ Within w w' := by
  have d1 : decide (s ≤ 0) = false := decide_eq_false (by omega)
  have d2 : decide (s > 64) = true := decide_eq_true h1
  clear h1
  go_enter Tryz.func44, Tryz.ntmps44
  go_wp2
  go_ret2
  exact ⟨rfl, (by repeat (with_reducible first | exact Within.refl _ | assumption | refine Within.alloc ?_ _ | refine Within.drew ?_ | refine Within.setCell ?_ (by first | (simp; done) | (simp; omega)) _ | refine Within.trans ?_ (by assumption)))⟩
set_option maxRecDepth 100000 in
set_option maxHeartbeats 600000 in
theorem drop_far_3n (m : Nat) (s e : Int) (h1 : 64 < s) (hm : ((m : Int) == 0) = false) (w : World) : Calls Tryz.prog 44 #[.agg #[.bool true, .int .u64 m, .int .i64 e], .int .i64 s, .int .i64 3] w fun e' w' => e' = .returned (.tuple #[.int .u64 0, .bool true]) ∧ Within w w' := by
  have d1 : decide (s ≤ 0) = false := decide_eq_false (by omega)
  have d2 : decide (s > 64) = true := decide_eq_true h1
  clear h1
  go_enter Tryz.func44, Tryz.ntmps44
  go_wp2
  go_ret2
  exact ⟨rfl, (by repeat (with_reducible first | exact Within.refl _ | assumption | refine Within.alloc ?_ _ | refine Within.drew ?_ | refine Within.setCell ?_ (by first | (simp; done) | (simp; omega)) _ | refine Within.trans ?_ (by assumption)))⟩
set_option maxRecDepth 100000 in
set_option maxHeartbeats 600000 in
theorem drop_far_3p (m : Nat) (s e : Int) (h1 : 64 < s) (hm : ((m : Int) == 0) = false) (w : World) : Calls Tryz.prog 44 #[.agg #[.bool false, .int .u64 m, .int .i64 e], .int .i64 s, .int .i64 3] w fun e' w' => e' = .returned (.tuple #[.int .u64 1, .bool true]) ∧ Within w w' := by
  have d1 : decide (s ≤ 0) = false := decide_eq_false (by omega)
  have d2 : decide (s > 64) = true := decide_eq_true h1
  clear h1
  go_enter Tryz.func44, Tryz.ntmps44
  go_wp2
  go_ret2
  exact ⟨rfl, (by repeat (with_reducible first | exact Within.refl _ | assumption | refine Within.alloc ?_ _ | refine Within.drew ?_ | refine Within.setCell ?_ (by first | (simp; done) | (simp; omega)) _ | refine Within.trans ?_ (by assumption)))⟩
set_option maxRecDepth 100000 in
set_option maxHeartbeats 600000 in
theorem drop_far_4n (m : Nat) (s e : Int) (h1 : 64 < s) (hm : ((m : Int) == 0) = false) (w : World) : Calls Tryz.prog 44 #[.agg #[.bool true, .int .u64 m, .int .i64 e], .int .i64 s, .int .i64 4] w fun e' w' => e' = .returned (.tuple #[.int .u64 1, .bool true]) ∧ Within w w' := by
  have d1 : decide (s ≤ 0) = false := decide_eq_false (by omega)
  have d2 : decide (s > 64) = true := decide_eq_true h1
  clear h1
  go_enter Tryz.func44, Tryz.ntmps44
  go_wp2
  go_ret2
  exact ⟨rfl, (by repeat (with_reducible first | exact Within.refl _ | assumption | refine Within.alloc ?_ _ | refine Within.drew ?_ | refine Within.setCell ?_ (by first | (simp; done) | (simp; omega)) _ | refine Within.trans ?_ (by assumption)))⟩
set_option maxRecDepth 100000 in
set_option maxHeartbeats 600000 in
theorem drop_far_4p (m : Nat) (s e : Int) (h1 : 64 < s) (hm : ((m : Int) == 0) = false) (w : World) : Calls Tryz.prog 44 #[.agg #[.bool false, .int .u64 m, .int .i64 e], .int .i64 s, .int .i64 4] w fun e' w' => e' = .returned (.tuple #[.int .u64 0, .bool true]) ∧ Within w w' := by
  have d1 : decide (s ≤ 0) = false := decide_eq_false (by omega)
  have d2 : decide (s > 64) = true := decide_eq_true h1
  clear h1
  go_enter Tryz.func44, Tryz.ntmps44
  go_wp2
  go_ret2
  exact ⟨rfl, (by repeat (with_reducible first | exact Within.refl _ | assumption | refine Within.alloc ?_ _ | refine Within.drew ?_ | refine Within.setCell ?_ (by first | (simp; done) | (simp; omega)) _ | refine Within.trans ?_ (by assumption)))⟩
end Go.Proofs.YtifgngmebnjfkaaGreatDoor
end

section
namespace Go.Proofs.YtifgngmebnjfkaaGreatDoor
open Go.RowKit
def goes (m s : Nat) (neg : Bool) (mode : Int) : Bool :=
  if m % 2 ^ s = 0 then false
  else if mode = 0 then decide (2 ^ s < 2 * (m % 2 ^ s)) || (decide (2 ^ s = 2 * (m % 2 ^ s)) && decide (m / 2 ^ s % 2 = 1))
  else if mode = 1 then decide (2 ^ s ≤ 2 * (m % 2 ^ s))
  else if mode = 3 then !neg
  else if mode = 4 then neg
  else false
def cutQ (m s : Nat) (neg : Bool) (mode : Int) : Nat := m / 2 ^ s + (goes m s neg mode).toNat
theorem even_bit (q : Nat) (h : q ≤ 9223372036854775808) : bits .and .u64 (q : Int) 1 = ((q % 2 : Nat) : Int) := by
  have := u64_mask 1 (by decide) q (by omega)
  simpa using this
theorem half_pow (s : Nat) (h : 1 ≤ s) : 2 ^ s = 2 * 2 ^ (s - 1) := by
  obtain ⟨t, rfl⟩ : ∃ t, s = t + 1 := ⟨s - 1, by omega⟩
  rw [Nat.pow_succ, Nat.add_sub_cancel, Nat.mul_comm]
theorem drop_up (neg : Bool) (m k : Nat) (e mode : Int) (hk : k ≤ 63) (h : m * 2 ^ k < 18446744073709551616) (w : World) : Calls Tryz.prog 44 #[.agg #[.bool neg, .int .u64 m, .int .i64 e], .int .i64 (-(k : Int)), .int .i64 mode] w fun e' w' => e' = .returned (.tuple #[.int .u64 (m * 2 ^ k : Nat), .bool false]) ∧ Within w w' :=
  drop_left neg m k (m * 2 ^ k) e mode hk (by
    have e1 : (m : Int) * 2 ^ k = ((m * 2 ^ k : Nat) : Int) := by simp
    rw [e1, IntKind.wrap_u64]; omega) w
theorem drop_down (neg : Bool) (m s : Nat) (e mode : Int) (hm : m < 18446744073709551616) (h0 : m ≠ 0) (hs : 1 ≤ s) (hmode : 0 ≤ mode ∧ mode ≤ 4) (w : World) : Calls Tryz.prog 44 #[.agg #[.bool neg, .int .u64 m, .int .i64 e], .int .i64 (s : Int), .int .i64 mode] w fun e' w' => e' = .returned (.tuple #[.int .u64 (cutQ m s neg mode : Nat), .bool (decide (m % 2 ^ s ≠ 0))]) ∧ Within w w' := by
  have hmod : mode = 0 ∨ mode = 1 ∨ mode = 2 ∨ mode = 3 ∨ mode = 4 := by omega
  by_cases hfar : 64 < s
  · have hp : 18446744073709551616 * 2 ≤ 2 ^ s := by
      have : 2 ^ 65 ≤ 2 ^ s := Nat.pow_le_pow_right (by decide) (by omega)
      exact this
    have hr : m % 2 ^ s = m := Nat.mod_eq_of_lt (by omega)
    have hq : m / 2 ^ s = 0 := Nat.div_eq_of_lt (by omega)
    have hz : ((m : Int) == 0) = false := by rw [beq_eq_false_iff_ne]; omega
    unfold cutQ goes
    rw [hr, hq, if_neg h0, decide_eq_true h0]
    rcases hmod with rfl | rfl | rfl | rfl | rfl
    · rw [if_pos rfl, decide_eq_false (show ¬ 2 ^ s < 2 * m by omega), decide_eq_false (show ¬ 2 ^ s = 2 * m by omega)]
      exact drop_far_0 neg m s e (by omega) hz w
    · rw [if_neg (by decide), if_pos rfl, decide_eq_false (show ¬ 2 ^ s ≤ 2 * m by omega)]
      exact drop_far_1 neg m s e (by omega) hz w
    · exact drop_far_2 neg m s e (by omega) hz w
    · cases neg
      · exact drop_far_3p m s e (by omega) hz w
      · exact drop_far_3n m s e (by omega) hz w
    · cases neg
      · exact drop_far_4p m s e (by omega) hz w
      · exact drop_far_4n m s e (by omega) hz w
  have hp0 := Nat.two_pow_pos s
  have hdm := Nat.div_add_mod m (2 ^ s)
  have hrl := Nat.mod_lt m hp0
  have hhp := half_pow s hs
  have hq : m / 2 ^ s ≤ 9223372036854775808 := by
    have : 2 ≤ 2 ^ s := by have := Nat.pow_le_pow_right (n := 2) (by decide) hs; omega
    have h1 : m / 2 ^ s * 2 ≤ m / 2 ^ s * 2 ^ s := Nat.mul_le_mul_left _ this
    have h2 : m / 2 ^ s * 2 ^ s ≤ m := Nat.div_mul_le_self _ _
    omega
  have hms : 2 ^ (s - 1) ≤ 9223372036854775808 := Nat.pow_le_pow_right (n := 2) (by decide) (show s - 1 ≤ 63 by omega)
  have sh1 : (m : Int) / 2 ^ s = ((m / 2 ^ s : Nat) : Int) := by simp
  have hpq : m / 2 ^ s * 2 ^ s ≤ m := Nat.div_mul_le_self _ _
  have sh2 : IntKind.u64.wrap (((m / 2 ^ s : Nat) : Int) * 2 ^ s) = ((m / 2 ^ s * 2 ^ s : Nat) : Int) := by
    have e1 : ((m / 2 ^ s : Nat) : Int) * 2 ^ s = ((m / 2 ^ s * 2 ^ s : Nat) : Int) := by simp
    rw [e1, IntKind.wrap_u64]; omega
  have sh3 : IntKind.u64.wrap (2 ^ (s - 1)) = ((2 ^ (s - 1) : Nat) : Int) := by
    have e1 : (2 : Int) ^ (s - 1) = ((2 ^ (s - 1) : Nat) : Int) := by simp
    rw [e1, IntKind.wrap_u64]; omega
  have hr : (m : Int) - ((m / 2 ^ s * 2 ^ s : Nat) : Int) = ((m % 2 ^ s : Nat) : Int) := by
    have hdm' : m / 2 ^ s * 2 ^ s + m % 2 ^ s = m := by rw [Nat.mul_comm]; exact hdm
    clear sh1 sh2 sh3 hdm hhp hms
    generalize m / 2 ^ s * 2 ^ s = z at *
    generalize m % 2 ^ s = y at *
    omega
  have hpar := even_bit _ hq
  unfold cutQ goes
  have hmid := Nat.two_pow_pos (s - 1)
  rw [hhp] at *
  generalize 2 ^ (s - 1) = mid at *
  generalize m / (2 * mid) * (2 * mid) = p at *
  generalize m / (2 * mid) = q at *
  generalize m % (2 * mid) = r at *
  clear hdm hpq
  by_cases hr0 : r = 0
  · rw [if_pos hr0, decide_eq_false (by omega)]
    exact drop_none neg m s (s - 1) q _ p mid r e rfl hs (by omega) (by omega) hm hq sh1 sh2 sh3 hr mode hr0 hmid w
  have hz : ((r : Int) == 0) = false := by rw [beq_eq_false_iff_ne]; omega
  rw [if_neg hr0, decide_eq_true hr0]
  rcases Nat.lt_trichotomy r mid with hc | hc | hc
  · rcases hmod with rfl | rfl | rfl | rfl | rfl
    · rw [if_pos rfl, decide_eq_false (show ¬ 2 * mid < 2 * r by omega), decide_eq_false (show ¬ 2 * mid = 2 * r by omega)]
      exact drop_lt_0 neg m s (s - 1) q _ p mid r e rfl hs (by omega) (by omega) hm hq sh1 sh2 sh3 hr hc hz w
    · rw [if_neg (by decide), if_pos rfl, decide_eq_false (show ¬ 2 * mid ≤ 2 * r by omega)]
      exact drop_lt_1 neg m s (s - 1) q _ p mid r e rfl hs (by omega) (by omega) hm hq sh1 sh2 sh3 hr hc hz w
    · exact drop_lt_2 neg m s (s - 1) q _ p mid r e rfl hs (by omega) (by omega) hm hq sh1 sh2 sh3 hr hc hz w
    · cases neg
      · exact drop_lt_3p m s (s - 1) q _ p mid r e rfl hs (by omega) (by omega) hm hq sh1 sh2 sh3 hr hc hz w
      · exact drop_lt_3n m s (s - 1) q _ p mid r e rfl hs (by omega) (by omega) hm hq sh1 sh2 sh3 hr hc hz w
    · cases neg
      · exact drop_lt_4p m s (s - 1) q _ p mid r e rfl hs (by omega) (by omega) hm hq sh1 sh2 sh3 hr hc hz w
      · exact drop_lt_4n m s (s - 1) q _ p mid r e rfl hs (by omega) (by omega) hm hq sh1 sh2 sh3 hr hc hz w
  · rcases hmod with rfl | rfl | rfl | rfl | rfl
    · rw [if_pos rfl, decide_eq_false (show ¬ 2 * mid < 2 * r by omega), decide_eq_true (show 2 * mid = 2 * r by omega)]
      rcases Nat.mod_two_eq_zero_or_one q with hq2 | hq2
      · rw [hq2] at hpar ⊢
        exact drop_eq_0e neg m s (s - 1) q _ p mid r e rfl hs (by omega) (by omega) hm hq sh1 sh2 sh3 hr hc.symm hz hpar w
      · rw [hq2] at hpar ⊢
        exact drop_eq_0o neg m s (s - 1) q _ p mid r e rfl hs (by omega) (by omega) hm hq sh1 sh2 sh3 hr hc.symm hz hpar w
    · rw [if_neg (by decide), if_pos rfl, decide_eq_true (show 2 * mid ≤ 2 * r by omega)]
      exact drop_eq_1 neg m s (s - 1) q _ p mid r e rfl hs (by omega) (by omega) hm hq sh1 sh2 sh3 hr hc.symm hz w
    · exact drop_eq_2 neg m s (s - 1) q _ p mid r e rfl hs (by omega) (by omega) hm hq sh1 sh2 sh3 hr hc.symm hz w
    · cases neg
      · exact drop_eq_3p m s (s - 1) q _ p mid r e rfl hs (by omega) (by omega) hm hq sh1 sh2 sh3 hr hc.symm hz w
      · exact drop_eq_3n m s (s - 1) q _ p mid r e rfl hs (by omega) (by omega) hm hq sh1 sh2 sh3 hr hc.symm hz w
    · cases neg
      · exact drop_eq_4p m s (s - 1) q _ p mid r e rfl hs (by omega) (by omega) hm hq sh1 sh2 sh3 hr hc.symm hz w
      · exact drop_eq_4n m s (s - 1) q _ p mid r e rfl hs (by omega) (by omega) hm hq sh1 sh2 sh3 hr hc.symm hz w
  · rcases hmod with rfl | rfl | rfl | rfl | rfl
    · rw [if_pos rfl, decide_eq_true (show 2 * mid < 2 * r by omega)]
      exact drop_gt_0 neg m s (s - 1) q _ p mid r e rfl hs (by omega) (by omega) hm hq sh1 sh2 sh3 hr hc hz w
    · rw [if_neg (by decide), if_pos rfl, decide_eq_true (show 2 * mid ≤ 2 * r by omega)]
      exact drop_gt_1 neg m s (s - 1) q _ p mid r e rfl hs (by omega) (by omega) hm hq sh1 sh2 sh3 hr hc hz w
    · exact drop_gt_2 neg m s (s - 1) q _ p mid r e rfl hs (by omega) (by omega) hm hq sh1 sh2 sh3 hr hc hz w
    · cases neg
      · exact drop_gt_3p m s (s - 1) q _ p mid r e rfl hs (by omega) (by omega) hm hq sh1 sh2 sh3 hr hc hz w
      · exact drop_gt_3n m s (s - 1) q _ p mid r e rfl hs (by omega) (by omega) hm hq sh1 sh2 sh3 hr hc hz w
    · cases neg
      · exact drop_gt_4p m s (s - 1) q _ p mid r e rfl hs (by omega) (by omega) hm hq sh1 sh2 sh3 hr hc hz w
      · exact drop_gt_4n m s (s - 1) q _ p mid r e rfl hs (by omega) (by omega) hm hq sh1 sh2 sh3 hr hc hz w
theorem neg_pos {a : Nat} (ha : a < 9223372036854775808) : Go.Op.negFloat .f64 a = a + 9223372036854775808 := by
  show a ^^^ 2 ^ 63 = _
  have := Nat.two_pow_add_eq_or_of_lt (i := 63) (b := a) ha 1
  rw [Nat.mul_one] at this
  rw [show a + 9223372036854775808 = 2 ^ 63 + a by omega, this, Nat.xor_comm]
  apply Nat.eq_of_testBit_eq
  intro i
  rw [Nat.testBit_xor, Nat.testBit_or, Nat.testBit_two_pow]
  by_cases hi : 63 = i
  · subst hi
    rw [Nat.testBit_lt_two_pow ha]; simp
  · simp [hi]
@[go_sem] theorem mx_neg64 (P : Program) (w : World) (a : Nat) : (Op.unary UnOp.neg (Value.float .f64 a)).run P w = .ok (.float .f64 (Go.Op.negFloat .f64 a)) w := rfl
set_option maxRecDepth 100000 in
set_option maxHeartbeats 600000 in
theorem signed_true (a : Nat) (ha : a < 9223372036854775808) (w : World) : Calls Tryz.prog 45 #[.float .f64 a, .bool true] w fun e w' => e = .returned (.float .f64 (a + 9223372036854775808)) ∧ w = w' := by
  have h := neg_pos ha
  generalize a + 9223372036854775808 = s at *
  clear ha
  go_enter Tryz.func45, Tryz.ntmps45
  go_wp2
  go_ret
  exact ⟨rfl, rfl⟩
set_option maxRecDepth 100000 in
set_option maxHeartbeats 600000 in
theorem signed_false (a : Nat) (w : World) : Calls Tryz.prog 45 #[.float .f64 a, .bool false] w fun e w' => e = .returned (.float .f64 (a)) ∧ w = w' := by
  go_enter Tryz.func45, Tryz.ntmps45
  go_wp2
  go_ret
  exact ⟨rfl, rfl⟩
end Go.Proofs.YtifgngmebnjfkaaGreatDoor
end
