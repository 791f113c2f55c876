/- Rounding rises (no program in sight). -/
import Derived.Test.YtifgngmebnjfkaaDoorCvp2
namespace Go.Proofs.YtifgngmebnjfkaaDoor

theorem goes_mono {m m' s : Nat} (neg : Bool) (mode : Int) (hq : m / 2 ^ s = m' / 2 ^ s) (h : m % 2 ^ s ≤ m' % 2 ^ s) : (goes m s neg mode).toNat ≤ (goes m' s neg mode).toNat := by
  unfold goes
  rw [hq]
  generalize m % 2 ^ s = r at *
  generalize m' % 2 ^ s = r' at *
  generalize m' / 2 ^ s = q
  generalize 2 ^ s = p
  by_cases h0 : r = 0
  · rw [if_pos h0]; exact Nat.zero_le _
  · rw [if_neg h0, if_neg (show ¬ r' = 0 by omega)]
    by_cases m0 : mode = 0
    · rw [if_pos m0, if_pos m0]
      by_cases h1 : p < 2 * r
      · rw [decide_eq_true (show p < 2 * r' by omega), decide_eq_true h1]; simp
      · rw [decide_eq_false h1]
        by_cases h2 : p = 2 * r
        · by_cases h3 : p < 2 * r'
          · rw [decide_eq_true h3]; simp [Bool.toNat_le]
          · rw [decide_eq_false h3, decide_eq_true h2, decide_eq_true (show p = 2 * r' by omega)]; exact Nat.le_refl _
        · rw [decide_eq_false h2]; simp
    rw [if_neg m0, if_neg m0]
    by_cases m1 : mode = 1
    · rw [if_pos m1, if_pos m1]
      by_cases h1 : p ≤ 2 * r
      · rw [decide_eq_true h1, decide_eq_true (show p ≤ 2 * r' by omega)]; exact Nat.le_refl _
      · rw [decide_eq_false h1]; exact Nat.zero_le _
    · rw [if_neg m1, if_neg m1]; exact Nat.le_refl _
theorem cutQ_mono {m m' : Nat} (s : Nat) (neg : Bool) (mode : Int) (h : m ≤ m') : cutQ m s neg mode ≤ cutQ m' s neg mode := by
  unfold cutQ
  have hd := Nat.div_le_div_right (c := 2 ^ s) h
  have b : (goes m s neg mode).toNat ≤ 1 := Bool.toNat_le _
  by_cases hq : m / 2 ^ s = m' / 2 ^ s
  · have h1 := Nat.div_add_mod m (2 ^ s)
    have h2 := Nat.div_add_mod m' (2 ^ s)
    rw [hq] at h1
    have := goes_mono neg mode hq (show m % 2 ^ s ≤ m' % 2 ^ s by omega)
    omega
  · omega
theorem cutQ_scale (m s j : Nat) (neg : Bool) (mode : Int) : cutQ (m * 2 ^ j) (s + j) neg mode = cutQ m s neg mode := by
  unfold cutQ goes
  have hj := Nat.two_pow_pos j
  have e1 : m * 2 ^ j / 2 ^ (s + j) = m / 2 ^ s := by rw [Nat.pow_add, Nat.mul_div_mul_right _ _ hj]
  have e2 : m * 2 ^ j % 2 ^ (s + j) = m % 2 ^ s * 2 ^ j := by rw [Nat.pow_add, Nat.mul_mod_mul_right]
  rw [e1, e2, Nat.pow_add]
  generalize m % 2 ^ s = r
  generalize m / 2 ^ s = q
  generalize 2 ^ s = p
  generalize 2 ^ j = t at *
  have c0 : (r * t = 0) ↔ r = 0 := by
    constructor
    · intro h; rcases Nat.mul_eq_zero.1 h with h | h
      · exact h
      · omega
    · intro h; rw [h, Nat.zero_mul]
  have c1 : (p * t < 2 * (r * t)) ↔ p < 2 * r := by rw [← Nat.mul_assoc]; exact Nat.mul_lt_mul_right hj
  have c2 : (p * t = 2 * (r * t)) ↔ p = 2 * r := by rw [← Nat.mul_assoc]; exact ⟨fun h => Nat.eq_of_mul_eq_mul_right hj h, fun h => by rw [h]⟩
  have c3 : (p * t ≤ 2 * (r * t)) ↔ p ≤ 2 * r := by rw [← Nat.mul_assoc]; exact Nat.mul_le_mul_right_iff hj
  simp only [c0, c1, c2, c3]
theorem cutQ_zero (m : Nat) (neg : Bool) (mode : Int) : cutQ m 0 neg mode = m := by
  unfold cutQ goes
  rw [if_pos (by rw [Nat.pow_zero, Nat.mod_one]), Nat.pow_zero, Nat.div_one]; rfl

/-- what is kept, reckoned from fine units -/
theorem rQ_fine (D lo : Int) (neg : Bool) (m : Nat) (e mode : Int) (J : Nat) (h1 : 0 ≤ e + J) (h2 : 0 ≤ rK D lo m e + J) :
    rQ D lo neg m e mode = cutQ (m * 2 ^ (e + J).toNat) (rK D lo m e + J).toNat neg mode := by
  unfold rQ
  generalize rK D lo m e = k at *
  split
  · have e1 : m * 2 ^ (e + J).toNat = m * 2 ^ (-(k - e)).toNat * 2 ^ (k + J).toNat := by
      rw [Nat.mul_assoc, ← Nat.pow_add]; congr 2; omega
    have := cutQ_scale (m * 2 ^ (-(k - e)).toNat) 0 (k + J).toNat neg mode
    rw [Nat.zero_add, cutQ_zero] at this
    rw [e1, this]
  · have := cutQ_scale m (k - e).toNat (e + J).toNat neg mode
    rw [← this]; congr 1; omega

/-- of 53 digits each: the greater number doesn't come to less -/
theorem rAmt_mono {D : Nat} {lo : Int} (hD1 : 1 ≤ D) (hD : D ≤ 53) (hlo : -1074 ≤ lo) (neg : Bool) {m m' : Nat} {e e' : Int} (mode : Int) (hm : 4503599627370496 ≤ m) (hm2 : m < 9007199254740992) (hm' : 4503599627370496 ≤ m') (hm2' : m' < 9007199254740992)
    (h : e < e' ∨ (e = e' ∧ m ≤ m')) : rAmt D lo neg m e mode ≤ rAmt D lo neg m' e' mode := by
  have b1 := bitLen_of 52 m (by decide) hm hm2
  have b2 := bitLen_of 52 m' (by decide) hm' hm2'
  have k1 : rK D lo m e = max (e + 53 - D) lo := by unfold rK; rw [b1]; omega
  have k2 : rK D lo m' e' = max (e' + 53 - D) lo := by unfold rK; rw [b2]; omega
  have hq := (rQ_le (D := D) (lo := lo) neg e mode (m := m) (by omega) (by omega) hD).1
  obtain ⟨J, hJ⟩ : ∃ J : Nat, J = (max (-e) 0).toNat + (max (-e') 0).toNat + 2000 := ⟨_, rfl⟩
  have hU : m * 2 ^ (e + J).toNat ≤ m' * 2 ^ (e' + J).toNat := by
    rcases h with h | ⟨h, h'⟩
    · have e1 : 2 ^ (e' + J).toNat = 2 ^ (e + J).toNat * 2 * 2 ^ (e' - e - 1).toNat := by
        rw [← Nat.pow_succ, ← Nat.pow_add]; congr 1; omega
      have p0 := Nat.two_pow_pos (e' - e - 1).toNat
      rw [e1, ← Nat.mul_assoc]
      have a1 : m * 2 ^ (e + J).toNat ≤ m' * 2 * 2 ^ (e + J).toNat := Nat.mul_le_mul_right _ (by omega)
      have a2 : m' * (2 ^ (e + J).toNat * 2) * 1 ≤ m' * (2 ^ (e + J).toNat * 2) * 2 ^ (e' - e - 1).toNat := Nat.mul_le_mul_left _ p0
      have a3 : m' * 2 * 2 ^ (e + J).toNat = m' * (2 ^ (e + J).toNat * 2) := by rw [Nat.mul_assoc, Nat.mul_comm 2]
      omega
    · subst h
      exact Nat.mul_le_mul_right _ h'
  have f1 := rQ_fine D lo neg m e mode J (by omega) (by rw [k1]; omega)
  have f2 := rQ_fine D lo neg m' e' mode J (by omega) (by rw [k2]; omega)
  unfold rAmt
  by_cases hk : rK D lo m e = rK D lo m' e'
  · rw [f1, f2, hk]
    exact Nat.mul_le_mul_right _ (cutQ_mono _ neg mode hU)
  · have hlt : rK D lo m e < rK D lo m' e' := by rw [k1, k2] at hk ⊢; omega
    have hk' : rK D lo m' e' = e' + 53 - D := by rw [k1, k2] at hlt; rw [k2]; omega
    have hlow : 2 ^ (D - 1) ≤ rQ D lo neg m' e' mode := by
      rw [f2, hk']
      unfold cutQ
      have : 2 ^ (D - 1) ≤ m' * 2 ^ (e' + J).toNat / 2 ^ (e' + 53 - D + J).toNat := by
        rw [Nat.le_div_iff_mul_le (Nat.two_pow_pos _), ← Nat.pow_add]
        have a1 : 2 ^ (D - 1 + (e' + 53 - D + J).toNat) = 2 ^ 52 * 2 ^ (e' + J).toNat := by rw [← Nat.pow_add]; congr 1; omega
        rw [a1]
        exact Nat.mul_le_mul_right _ hm'
      omega
    have hl1 : lo ≤ rK D lo m e := by rw [k1]; omega
    calc rQ D lo neg m e mode * 2 ^ (rK D lo m e + 1074).toNat ≤ 2 ^ D * 2 ^ (rK D lo m e + 1074).toNat := Nat.mul_le_mul_right _ hq
      _ = 2 ^ (D + (rK D lo m e + 1074).toNat) := by rw [Nat.pow_add]
      _ ≤ 2 ^ (D - 1 + (rK D lo m' e' + 1074).toNat) := Nat.pow_le_pow_right (by decide) (by omega)
      _ = 2 ^ (D - 1) * 2 ^ (rK D lo m' e' + 1074).toNat := by rw [Nat.pow_add]
      _ ≤ rQ D lo neg m' e' mode * 2 ^ (rK D lo m' e' + 1074).toNat := Nat.mul_le_mul_right _ hlow

theorem rQ_pos {D : Nat} {lo : Int} (neg : Bool) {m : Nat} (e mode : Int) (h0 : m ≠ 0) (hm : m < 18446744073709551616) (hD : 1 ≤ D) (h : lo < rK D lo m e) : rQ D lo neg m e mode ≠ 0 := by
  have hb := bl_bounds h0 hm
  have hk : rK D lo m e = max (e + (Lib.bitLen m : Nat) - D) lo := rfl
  unfold rQ
  generalize rK D lo m e = k at *
  generalize Lib.bitLen m = L at *
  split
  · exact Nat.mul_ne_zero h0 (Nat.ne_of_gt (Nat.two_pow_pos _))
  · unfold cutQ
    have : 1 ≤ m / 2 ^ (k - e).toNat := by
      rw [Nat.le_div_iff_mul_le (Nat.two_pow_pos _), Nat.one_mul]
      exact Nat.le_trans (Nat.pow_le_pow_right (by decide) (by omega)) hb.1
    omega
/-- too great is what has an amount from 2^(most+1) on -/
theorem over_iff {D : Nat} {lo most : Int} (neg : Bool) {m : Nat} (e mode : Int) (h0 : m ≠ 0) (hm : m < 18446744073709551616) (hD1 : 1 ≤ D) (hD : D ≤ 53) (hlo : -1074 ≤ lo) (hmost : lo ≤ most) :
    rOver D lo most neg m e mode = true ↔ 2 ^ (most + 1 + 1074).toNat ≤ rAmt D lo neg m e mode := by
  have hq := (rQ_le (D := D) (lo := lo) neg e mode h0 hm hD).1
  have hk : lo ≤ rK D lo m e := by unfold rK; omega
  have hov : rOver D lo most neg m e mode = decide (most + 1 < rK D lo m e + (Lib.bitLen (rQ D lo neg m e mode) : Nat)) := rfl
  unfold rAmt
  rw [hov, decide_eq_true_iff]
  have hpos := rQ_pos (D := D) (lo := lo) neg e mode h0 hm hD1
  generalize rQ D lo neg m e mode = q at *
  generalize rK D lo m e = k at *
  have hq64 : q < 18446744073709551616 := by
    have : 2 ^ D ≤ 2 ^ 53 := Nat.pow_le_pow_right (by decide) hD
    have e1 : (2 : Nat) ^ 53 = 9007199254740992 := by decide
    omega
  by_cases hq0 : q = 0
  · subst hq0
    have e0 : Lib.bitLen 0 = 0 := rfl
    rw [e0, Nat.zero_mul]
    have := Nat.two_pow_pos (most + 1 + 1074).toNat
    have hkl : k ≤ lo := by
      by_cases hlt : lo < k
      · exact absurd rfl (hpos hlt)
      · omega
    exact ⟨fun h => by omega, fun h => by omega⟩
  · rw [bitLen_log2 q hq0 hq64]
    have l1 := Nat.log2_self_le hq0
    have l2 := Nat.lt_log2_self (n := q)
    constructor
    · intro h
      have a1 : 2 ^ q.log2 * 2 ^ (k + 1074).toNat ≤ q * 2 ^ (k + 1074).toNat := Nat.mul_le_mul_right _ l1
      rw [← Nat.pow_add] at a1
      exact Nat.le_trans (Nat.pow_le_pow_right (by decide) (by omega)) a1
    · intro h
      have a1 : q * 2 ^ (k + 1074).toNat < 2 ^ (q.log2 + 1) * 2 ^ (k + 1074).toNat := Nat.mul_lt_mul_of_pos_right l2 (Nat.two_pow_pos _)
      rw [← Nat.pow_add] at a1
      have := (Nat.pow_lt_pow_iff_right (by decide)).1 (Nat.lt_of_le_of_lt h a1)
      omega
end Go.Proofs.YtifgngmebnjfkaaDoor
