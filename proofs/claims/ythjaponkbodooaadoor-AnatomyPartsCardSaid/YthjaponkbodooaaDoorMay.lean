/- Which parts a number has and a single has; a number's amount of its parts; wider and narrower without loss (no program in sight). -/
import Derived.Test.YthjaponkbodooaaDoorMadeS
import Derived.Test.YthjaponkbodooaaDoorScale
import Derived.Test.YthjaponkbodooaaDoorBack
import Derived.Test.YthjaponkbodooaaDoorNum
namespace Go.Proofs.YthjaponkbodooaaDoor

def mayD (m : Nat) (e : Int) : Bool := decide (Lib.bitLen m ≤ 53) && decide (-1074 ≤ e) && decide (e ≤ 1024 - (Lib.bitLen m : Nat))
def mayS (m : Nat) (e : Int) : Bool := decide (Lib.bitLen m ≤ 24) && decide (-149 ≤ e) && decide (e ≤ 128 - (Lib.bitLen m : Nat))

theorem oddM_lt64 {mant : Nat} (hm : mant < 18446744073709551616) : oddM mant < 18446744073709551616 := by unfold oddM; exact Nat.lt_of_le_of_lt (Nat.div_le_self _ _) hm

theorem madeED_may (mant : Nat) (e : Int) (h0 : mant ≠ 0) (hm : mant < 18446744073709551616) : madeED mant e = if mayD (oddM mant) (oddE mant e) then 0 else 10 := by
  obtain ⟨m, ho, hs, hk⟩ := odd_split h0 hm
  have hL := len_bounds (x := oddM mant) (by omega) (oddM_lt64 hm)
  have hd : downD mant e = min (53 - Lib.bitLen (oddM mant)) (oddE mant e - -1074).toNat := rfl
  have ht : topD mant e = oddM mant * 2 ^ downD mant e := rfl
  have hfd : fieldD mant e = if topD mant e < 4503599627370496 then 0 else oddE mant e - downD mant e + 1075 := rfl
  have hE : oddE mant e = e + (Lib.ctz 64 mant : Nat) := rfl
  unfold madeED badD mayD
  rw [if_neg h0]
  generalize Lib.bitLen (oddM mant) = L at *
  generalize oddE mant e = E at *
  generalize downD mant e = d at *
  generalize topD mant e = T at *
  generalize fieldD mant e = f at *
  generalize oddM mant = o at *
  by_cases hbad : 2150 < e ∨ e < -2150 ∨ 53 < L ∨ E < -1074
  · rw [if_pos (by simp only [Bool.or_eq_true, decide_eq_true_eq]; omega), if_neg (by simp only [Bool.and_eq_true, decide_eq_true_eq]; omega)]
  rw [if_neg (by simp only [Bool.or_eq_true, decide_eq_true_eq]; omega)]
  have hT : T < 9007199254740992 := by
    have h1 : o * 2 ^ d < 2 ^ L * 2 ^ d := Nat.mul_lt_mul_of_pos_right hL.2.1 (Nat.two_pow_pos d)
    rw [← Nat.pow_add] at h1
    have h2 : 2 ^ (L + d) ≤ 2 ^ 53 := Nat.pow_le_pow_right (by decide) (by omega)
    have h3 : (2:Nat) ^ 53 = 9007199254740992 := rfl
    omega
  have hTl : d = 53 - L → 4503599627370496 ≤ T := fun hd' => by
    have h1 : 2 ^ (L - 1) * 2 ^ d ≤ o * 2 ^ d := Nat.mul_le_mul_right _ hL.1
    rw [← Nat.pow_add, show L - 1 + d = 52 by omega, ← ht] at h1
    have h3 : (2:Nat) ^ 52 = 4503599627370496 := rfl
    omega
  have hTs : L + d ≤ 52 → T < 4503599627370496 := fun hd' => by
    have h1 : o * 2 ^ d < 2 ^ L * 2 ^ d := Nat.mul_lt_mul_of_pos_right hL.2.1 (Nat.two_pow_pos d)
    rw [← Nat.pow_add] at h1
    have h2 : 2 ^ (L + d) ≤ 2 ^ 52 := Nat.pow_le_pow_right (by decide) (by omega)
    have h3 : (2:Nat) ^ 52 = 4503599627370496 := rfl
    omega
  by_cases hlow : T < 4503599627370496
  · rw [if_pos hlow] at hfd
    rw [if_neg (by omega), if_pos (by simp only [Bool.and_eq_true, decide_eq_true_eq]; by_cases hdl : d = 53 - L; (have := hTl hdl; omega); omega)]
    unfold joinED; rw [if_neg (by omega)]
  · rw [if_neg hlow] at hfd
    have hdl : d = 53 - L := by
      by_cases h : L + d ≤ 52
      · have := hTs h; omega
      · omega
    by_cases hf : 2047 ≤ f
    · rw [if_pos hf, if_neg (by simp only [Bool.and_eq_true, decide_eq_true_eq]; omega)]
    · rw [if_neg hf, if_pos (by simp only [Bool.and_eq_true, decide_eq_true_eq]; omega)]
      unfold joinED; rw [if_neg (by omega)]

theorem madeES_may (mant : Nat) (e : Int) (h0 : mant ≠ 0) (hm : mant < 18446744073709551616) : madeES mant e = if mayS (oddM mant) (oddE mant e) then 0 else 10 := by
  obtain ⟨m, ho, hs, hk⟩ := odd_split h0 hm
  have hL := len_bounds (x := oddM mant) (by omega) (oddM_lt64 hm)
  have hd : downS mant e = min (24 - Lib.bitLen (oddM mant)) (oddE mant e - -149).toNat := rfl
  have ht : topS mant e = oddM mant * 2 ^ downS mant e := rfl
  have hfd : fieldS mant e = if topS mant e < 8388608 then 0 else oddE mant e - downS mant e + 150 := rfl
  have hE : oddE mant e = e + (Lib.ctz 64 mant : Nat) := rfl
  unfold madeES badS mayS
  rw [if_neg h0]
  generalize Lib.bitLen (oddM mant) = L at *
  generalize oddE mant e = E at *
  generalize downS mant e = d at *
  generalize topS mant e = T at *
  generalize fieldS mant e = f at *
  generalize oddM mant = o at *
  by_cases hbad : 300 < e ∨ e < -300 ∨ 24 < L ∨ E < -149
  · rw [if_pos (by simp only [Bool.or_eq_true, decide_eq_true_eq]; omega), if_neg (by simp only [Bool.and_eq_true, decide_eq_true_eq]; omega)]
  rw [if_neg (by simp only [Bool.or_eq_true, decide_eq_true_eq]; omega)]
  have hT : T < 16777216 := by
    have h1 : o * 2 ^ d < 2 ^ L * 2 ^ d := Nat.mul_lt_mul_of_pos_right hL.2.1 (Nat.two_pow_pos d)
    rw [← Nat.pow_add] at h1
    have h2 : 2 ^ (L + d) ≤ 2 ^ 24 := Nat.pow_le_pow_right (by decide) (by omega)
    have h3 : (2:Nat) ^ 24 = 16777216 := rfl
    omega
  have hTl : d = 24 - L → 8388608 ≤ T := fun hd' => by
    have h1 : 2 ^ (L - 1) * 2 ^ d ≤ o * 2 ^ d := Nat.mul_le_mul_right _ hL.1
    rw [← Nat.pow_add, show L - 1 + d = 23 by omega, ← ht] at h1
    have h3 : (2:Nat) ^ 23 = 8388608 := rfl
    omega
  have hTs : L + d ≤ 23 → T < 8388608 := fun hd' => by
    have h1 : o * 2 ^ d < 2 ^ L * 2 ^ d := Nat.mul_lt_mul_of_pos_right hL.2.1 (Nat.two_pow_pos d)
    rw [← Nat.pow_add] at h1
    have h2 : 2 ^ (L + d) ≤ 2 ^ 23 := Nat.pow_le_pow_right (by decide) (by omega)
    have h3 : (2:Nat) ^ 23 = 8388608 := rfl
    omega
  by_cases hlow : T < 8388608
  · rw [if_pos hlow] at hfd
    rw [if_neg (by omega), if_pos (by simp only [Bool.and_eq_true, decide_eq_true_eq]; by_cases hdl : d = 24 - L; (have := hTl hdl; omega); omega)]
    unfold joinES; rw [if_neg (by omega)]
  · rw [if_neg hlow] at hfd
    have hdl : d = 24 - L := by
      by_cases h : L + d ≤ 23
      · have := hTs h; omega
      · omega
    by_cases hf : 255 ≤ f
    · rw [if_pos hf, if_neg (by simp only [Bool.and_eq_true, decide_eq_true_eq]; omega)]
    · rw [if_neg hf, if_pos (by simp only [Bool.and_eq_true, decide_eq_true_eq]; omega)]
      unfold joinES; rw [if_neg (by omega)]

/-- a finite number's amount, by its mantissa and the exponent of its last digit -/
theorem magD_mant {a : Nat} (hf : a % 9223372036854775808 < 9218868437227405312) :
    Fp.mag Ieee.double (a % 9223372036854775808) = mantD a * 2 ^ (lowD a + 1074).toNat ∧ expD a < 2047 ∧ nanD a = false := by
  have hn : nanD a = false := decide_eq_false (by omega)
  have hc := canonD_id hn
  have hE : expD a = a % 9223372036854775808 / 4503599627370496 := by unfold expD; rw [hc]; omega
  have hF : fracD a = a % 9223372036854775808 % 4503599627370496 := by unfold fracD; rw [hc]; omega
  refine ⟨?_, by rw [hE]; omega, hn⟩
  unfold mantD lowD
  rw [hE, hF]
  generalize a % 9223372036854775808 = r at *
  unfold Fp.mag
  rw [Fp.dB]
  by_cases h : r < 4503599627370496
  · rw [if_pos h, if_pos (by omega), if_pos (by omega)]
    rw [show (((1 : Nat) : Int) - 1075 + 1074).toNat = 0 by omega, Nat.pow_zero, Nat.mul_one, Nat.mod_eq_of_lt h]
  · rw [if_neg h, if_neg (by omega), if_neg (by omega), Nat.add_comm]
    congr 2
    omega

theorem magS_mant {a : Nat} (hf : a % 2147483648 < 2139095040) :
    Fp.mag Ieee.single (a % 2147483648) = mantS a * 2 ^ (lowS a + 149).toNat ∧ expS a < 255 ∧ nanS a = false := by
  have hn : nanS a = false := decide_eq_false (by omega)
  have hc := canonS_id hn
  have hE : expS a = a % 2147483648 / 8388608 := by unfold expS; rw [hc]; omega
  have hF : fracS a = a % 2147483648 % 8388608 := by unfold fracS; rw [hc]; omega
  refine ⟨?_, by rw [hE]; omega, hn⟩
  unfold mantS lowS
  rw [hE, hF]
  generalize a % 2147483648 = r at *
  unfold Fp.mag
  rw [Fp.sB]
  by_cases h : r < 8388608
  · rw [if_pos h, if_pos (by omega), if_pos (by omega)]
    rw [show (((1 : Nat) : Int) - 150 + 149).toNat = 0 by omega, Nat.pow_zero, Nat.mul_one, Nat.mod_eq_of_lt h]
  · rw [if_neg h, if_neg (by omega), if_neg (by omega), Nat.add_comm]
    congr 2
    omega

/-- a finite number's amount, by its parts -/
theorem magD_parts {a : Nat} (hf : a % 9223372036854775808 < 9218868437227405312) :
    Fp.mag Ieee.double (a % 9223372036854775808) = pMantD a * 2 ^ (pExpD a + 1074).toNat ∧ pErrD a = 0 ∧ (pMantD a ≠ 0 → -1074 ≤ pExpD a) ∧ (pMantD a = 0 ↔ a % 9223372036854775808 = 0) := by
  obtain ⟨h1, h2, h3⟩ := magD_mant hf
  have he : pErrD a = 0 := by unfold pErrD; rw [if_neg (by omega)]
  have hz : Fp.mag Ieee.double (a % 9223372036854775808) = 0 ↔ a % 9223372036854775808 = 0 := by
    have := Fp.mag_inj Ieee.double (r := a % 9223372036854775808) (r' := 0)
    rwa [Fp.mag_zero] at this
  by_cases h0 : mantD a = 0
  · have p1 : pMantD a = 0 := by unfold pMantD; rw [if_neg (by omega), h0]; exact Nat.zero_div _
    rw [h0, Nat.zero_mul] at h1
    rw [p1, Nat.zero_mul]
    exact ⟨h1, he, fun h => absurd rfl h, ⟨fun _ => hz.1 h1, fun _ => rfl⟩⟩
  · have hM := mantD_lt a
    obtain ⟨m, ho, hs, hk⟩ := odd_split h0 (by omega)
    have p1 : pMantD a = oddM (mantD a) := by unfold pMantD oddM; rw [if_neg (by omega)]
    have p2 : pExpD a = lowD a + (Lib.ctz 64 (mantD a) : Nat) := by unfold pExpD; rw [if_neg (by omega)]
    have hl : -1074 ≤ lowD a := by unfold lowD; split <;> omega
    rw [p1, p2, ho]
    refine ⟨?_, he, fun _ => by omega, ⟨fun h => by omega, fun h => ?_⟩⟩
    · rw [h1]
      conv => lhs; rw [hs]
      rw [show (lowD a + (Lib.ctz 64 (mantD a) : Nat) + 1074).toNat = Lib.ctz 64 (mantD a) + (lowD a + 1074).toNat by omega, Nat.pow_add, Nat.mul_comm (2 ^ Lib.ctz 64 (mantD a)) (2 * m + 1), Nat.mul_assoc]
    · have h4 := hz.2 h
      rw [h1] at h4
      have := Nat.two_pow_pos (lowD a + 1074).toNat
      rcases Nat.mul_eq_zero.1 h4 with h5 | h5 <;> omega

theorem magS_parts {a : Nat} (hf : a % 2147483648 < 2139095040) :
    Fp.mag Ieee.single (a % 2147483648) = pMantS a * 2 ^ (pExpS a + 149).toNat ∧ pErrS a = 0 ∧ (pMantS a ≠ 0 → -149 ≤ pExpS a) ∧ (pMantS a = 0 ↔ a % 2147483648 = 0) := by
  obtain ⟨h1, h2, h3⟩ := magS_mant hf
  have he : pErrS a = 0 := by unfold pErrS; rw [if_neg (by omega)]
  have hz : Fp.mag Ieee.single (a % 2147483648) = 0 ↔ a % 2147483648 = 0 := by
    have := Fp.mag_inj Ieee.single (r := a % 2147483648) (r' := 0)
    rwa [Fp.mag_zero] at this
  by_cases h0 : mantS a = 0
  · have p1 : pMantS a = 0 := by unfold pMantS; rw [if_neg (by omega), h0]; exact Nat.zero_div _
    rw [h0, Nat.zero_mul] at h1
    rw [p1, Nat.zero_mul]
    exact ⟨h1, he, fun h => absurd rfl h, ⟨fun _ => hz.1 h1, fun _ => rfl⟩⟩
  · have hM := mantS_lt a
    obtain ⟨m, ho, hs, hk⟩ := odd_split h0 (by omega)
    have p1 : pMantS a = oddM (mantS a) := by unfold pMantS oddM; rw [if_neg (by omega)]
    have p2 : pExpS a = lowS a + (Lib.ctz 64 (mantS a) : Nat) := by unfold pExpS; rw [if_neg (by omega)]
    have hl : -149 ≤ lowS a := by unfold lowS; split <;> omega
    rw [p1, p2, ho]
    refine ⟨?_, he, fun _ => by omega, ⟨fun h => by omega, fun h => ?_⟩⟩
    · rw [h1]
      conv => lhs; rw [hs]
      rw [show (lowS a + (Lib.ctz 64 (mantS a) : Nat) + 149).toNat = Lib.ctz 64 (mantS a) + (lowS a + 149).toNat by omega, Nat.pow_add, Nat.mul_comm (2 ^ Lib.ctz 64 (mantS a)) (2 * m + 1), Nat.mul_assoc]
    · have h4 := hz.2 h
      rw [h1] at h4
      have := Nat.two_pow_pos (lowS a + 149).toNat
      rcases Nat.mul_eq_zero.1 h4 with h5 | h5 <;> omega

/-- the parts of a number that isn't 0 are odd, and they may be -/
theorem parts_may {a : Nat} (ha : a < 18446744073709551616) (he : pErrD a = 0) (h0 : pMantD a ≠ 0) :
    oddM (pMantD a) = pMantD a ∧ oddE (pMantD a) (pExpD a) = pExpD a ∧ mayD (pMantD a) (pExpD a) = true := by
  obtain ⟨_, h2, _, h4, h5⟩ := parts_made a ha he
  have ho : pMantD a % 2 = 1 := by omega
  obtain ⟨m, hm⟩ : ∃ m, pMantD a = 2 * m + 1 := ⟨pMantD a / 2, by omega⟩
  have O := odd_of_odd m (by omega)
  rw [← hm] at O
  refine ⟨O.1, O.2 _, ?_⟩
  rw [madeED_may _ _ h0 h5, O.1, O.2] at h2
  cases hb : mayD (pMantD a) (pExpD a)
  · rw [hb] at h2; simp at h2
  · rfl

/-- the number of odd parts that may be: its word, its amount -/
theorem word_parts (neg : Bool) {M : Nat} {E : Int} (h1 : M % 2 = 1) (hM : M < 18446744073709551616) (h2 : mayD M E = true) :
    madeD neg M E < 18446744073709551616 ∧ madeD neg M E % 9223372036854775808 < 9218868437227405312 ∧ negD (madeD neg M E) = neg ∧ madeED M E = 0 ∧
    Fp.mag Ieee.double (madeD neg M E % 9223372036854775808) = M * 2 ^ (E + 1074).toNat ∧ -1074 ≤ E ∧ pMantD (madeD neg M E) = M ∧ pExpD (madeD neg M E) = E ∧ pNegD (madeD neg M E) = neg ∧ pErrD (madeD neg M E) = 0 := by
  obtain ⟨m, hm⟩ : ∃ m, M = 2 * m + 1 := ⟨M / 2, by omega⟩
  have O := odd_of_odd m (by omega)
  rw [← hm] at O
  have hE := madeED_may M E (by omega) hM
  rw [O.1, O.2, h2, if_pos rfl] at hE
  obtain ⟨a1, a2, a3, a4, a5, a6, _⟩ := made_parts neg M E (by omega) hM hE
  rw [O.1] at a5
  rw [O.2] at a6
  have hfin : madeD neg M E % 9223372036854775808 < 9218868437227405312 := by
    have h7 : expD (madeD neg M E) ≠ 2047 := fun h => by unfold pErrD at a3; rw [if_pos h] at a3; omega
    have hr := nanD_false a2
    unfold expD at h7; rw [canonD_id a2] at h7; omega
  obtain ⟨p1, _, p3, _⟩ := magD_parts hfin
  rw [a5, a6] at p1
  rw [a5, a6] at p3
  exact ⟨a1, hfin, by rw [← fin_neg a3, a4], hE, p1, p3 (by omega), a5, a6, a4, a3⟩

theorem word_partsS (neg : Bool) {M : Nat} {E : Int} (h1 : M % 2 = 1) (hM : M < 18446744073709551616) (h2 : mayS M E = true) :
    madeS neg M E < 4294967296 ∧ madeS neg M E % 2147483648 < 2139095040 ∧ negS (madeS neg M E) = neg ∧ madeES M E = 0 ∧
    Fp.mag Ieee.single (madeS neg M E % 2147483648) = M * 2 ^ (E + 149).toNat ∧ -149 ≤ E ∧ pMantS (madeS neg M E) = M ∧ pExpS (madeS neg M E) = E ∧ pNegS (madeS neg M E) = neg ∧ pErrS (madeS neg M E) = 0 := by
  obtain ⟨m, hm⟩ : ∃ m, M = 2 * m + 1 := ⟨M / 2, by omega⟩
  have O := odd_of_odd m (by omega)
  rw [← hm] at O
  have hE := madeES_may M E (by omega) hM
  rw [O.1, O.2, h2, if_pos rfl] at hE
  obtain ⟨a1, a2, a3, a4, a5, a6, _⟩ := made_partsS neg M E (by omega) hM hE
  rw [O.1] at a5
  rw [O.2] at a6
  have h7 : expS (madeS neg M E) ≠ 255 := fun h => by unfold pErrS at a3; rw [if_pos h] at a3; omega
  have hfin : madeS neg M E % 2147483648 < 2139095040 := by
    have hr := nanS_false a2
    unfold expS at h7; rw [canonS_id a2] at h7; omega
  obtain ⟨p1, _, p3, _⟩ := magS_parts hfin
  rw [a5, a6] at p1
  rw [a5, a6] at p3
  exact ⟨a1, hfin, by have : pNegS (madeS neg M E) = negS (madeS neg M E) := by unfold pNegS; rw [if_neg h7]
                      rw [← this, a4], hE, p1, p3 (by omega), a5, a6, a4, a3⟩

/-- what may be with 24 digits may be with 53 -/
theorem may_wide {M : Nat} {E : Int} (h : mayS M E = true) : mayD M E = true := by
  unfold mayS at h; unfold mayD
  simp only [Bool.and_eq_true, decide_eq_true_eq] at h ⊢
  omega

theorem negD_div {a : Nat} (ha : a < 18446744073709551616) (hn : nanD a = false) : negD a = Fp.sg Ieee.double a := by
  unfold negD; rw [canonD_id hn, Fp.sg64]
  by_cases h : 9223372036854775808 ≤ a
  · rw [decide_eq_true h, show a / 9223372036854775808 = 1 by omega]; rfl
  · rw [decide_eq_false h, show a / 9223372036854775808 = 0 by omega]; rfl
theorem negS_div {a : Nat} (ha : a < 4294967296) (hn : nanS a = false) : negS a = Fp.sg Ieee.single a := by
  unfold negS; rw [canonS_id hn, Fp.sg32]
  by_cases h : 2147483648 ≤ a
  · rw [decide_eq_true h, show a / 2147483648 = 1 by omega]; rfl
  · rw [decide_eq_false h, show a / 2147483648 = 0 by omega]; rfl
theorem word_of {a : Nat} (ha : a < 18446744073709551616) (hn : nanD a = false) : Ieee.double.word (negD a) (a % 9223372036854775808) = a := by
  have h := Fp.word_sg_rg Ieee.double a ha
  rwa [← negD_div ha hn, Fp.rg64] at h
theorem word_ofS {a : Nat} (ha : a < 4294967296) (hn : nanS a = false) : Ieee.single.word (negS a) (a % 2147483648) = a := by
  have h := Fp.word_sg_rg Ieee.single a ha
  rwa [← negS_div ha hn, Fp.rg32] at h

/-- a finite single as a number -/
def wideS (b : Nat) : Nat := if pMantS b = 0 then (if negS b then 9223372036854775808 else 0) else madeD (negS b) (pMantS b) (pExpS b)

theorem parts_mayS {a : Nat} (hf : a % 2147483648 < 2139095040) (h0 : pMantS a ≠ 0) : pMantS a % 2 = 1 ∧ pMantS a < 18446744073709551616 ∧ mayS (pMantS a) (pExpS a) = true := by
  obtain ⟨h1, h2, h3⟩ := magS_mant hf
  have hM := mantS_lt a
  have hm0 : mantS a ≠ 0 := fun h => h0 (by unfold pMantS; rw [if_neg (by omega), h]; exact Nat.zero_div _)
  obtain ⟨m, ho, hs, hk⟩ := odd_split hm0 (by omega)
  have p1 : pMantS a = oddM (mantS a) := by unfold pMantS oddM; rw [if_neg (by omega)]
  have p2 : pExpS a = lowS a + (Lib.ctz 64 (mantS a) : Nat) := by unfold pExpS; rw [if_neg (by omega)]
  have hle : pMantS a ≤ mantS a := by rw [p1]; unfold oddM; exact Nat.div_le_self _ _
  refine ⟨by omega, by omega, ?_⟩
  have hb : 2 ^ Lib.ctz 64 (mantS a) * pMantS a < 16777216 := by rw [p1, ho, ← hs]; omega
  have hl : -149 ≤ lowS a ∧ lowS a ≤ 104 := by unfold lowS; split <;> omega
  have hL := len_bounds (x := pMantS a) h0 (by omega)
  unfold mayS
  rw [p2]
  generalize Lib.bitLen (pMantS a) = L at *
  generalize Lib.ctz 64 (mantS a) = k at *
  have h4 : 2 ^ (L - 1 + k) < 2 ^ 24 := by
    rw [Nat.pow_add, Nat.mul_comm]
    exact Nat.lt_of_le_of_lt (Nat.mul_le_mul_left _ hL.1) hb
  have h5 := (Nat.pow_lt_pow_iff_right (by decide)).1 h4
  simp only [Bool.and_eq_true, decide_eq_true_eq]
  omega

theorem wide_fin {b : Nat} (hb : b < 4294967296) (hf : b % 2147483648 < 2139095040) :
    wideS b < 18446744073709551616 ∧ wideS b % 9223372036854775808 < 9218868437227405312 ∧ negD (wideS b) = negS b ∧
    Fp.mag Ieee.double (wideS b % 9223372036854775808) = Fp.mag Ieee.single (b % 2147483648) * 2 ^ Fp.sgap ∧
    pMantD (wideS b) = pMantS b ∧ pExpD (wideS b) = pExpS b ∧ pNegD (wideS b) = pNegS b ∧ pErrD (wideS b) = 0 := by
  obtain ⟨m1, m2, m3, m4⟩ := magS_parts hf
  obtain ⟨_, q2, _⟩ := magS_mant hf
  have hng : pNegS b = negS b := by unfold pNegS; rw [if_neg (by omega)]
  unfold wideS
  by_cases h0 : pMantS b = 0
  · rw [if_pos h0]
    have hm : mantS b = 0 := by
      have h5 := m1
      rw [h0, Nat.zero_mul, (magS_mant hf).1] at h5
      have := Nat.two_pow_pos (lowS b + 149).toNat
      rcases Nat.mul_eq_zero.1 h5 with h6 | h6 <;> omega
    have he : pExpS b = 0 := by unfold pExpS; rw [if_pos (.inr hm)]
    have Z := zero_parts (negS b)
    rw [h0, he, m4.1 h0, Fp.mag_zero, Nat.zero_mul, hng]
    refine ⟨by split <;> decide, by split <;> decide, by cases negS b <;> decide, ?_, Z.2.1, Z.2.2.1, Z.1, Z.2.2.2⟩
    have e0 : (if negS b = true then 9223372036854775808 else 0) % 9223372036854775808 = 0 := by split <;> rfl
    rw [e0, Fp.mag_zero]
  · rw [if_neg h0]
    obtain ⟨o1, o2, o3⟩ := parts_mayS hf h0
    obtain ⟨w1, w2, w3, _, w5, _, w7, w8, w9, w10⟩ := word_parts (negS b) o1 o2 (may_wide o3)
    refine ⟨w1, w2, w3, ?_, w7, w8, by rw [w9, hng], w10⟩
    have := m3 h0
    have hg := Fp.sgap_eq
    rw [w5, m1, Nat.mul_assoc, ← Nat.pow_add]
    congr 2; omega

/-- the conversion of a finite single to a number -/
theorem widen_fin {b : Nat} (hb : b < 4294967296) (hf : b % 2147483648 < 2139095040) : Ieee.double.write (Ieee.single.read b) = wideS b := by
  obtain ⟨m, e, r1, l1, u1⟩ := Fp.read_fin Ieee.single b (by rw [Fp.rg32, Fp.sI]; exact hf)
  obtain ⟨w1, w2, w3, w4, _⟩ := wide_fin hb hf
  obtain ⟨_, _, hn⟩ := magS_mant hf
  rw [r1]
  show Ieee.double.nearest _ m e = _
  rw [Fp.rg32, Fp.sL] at u1
  rw [Fp.sL] at l1
  rw [Fp.nearest_units Ieee.double _ m e (by rw [Fp.dL]; omega), Fp.dL]
  have e1 : m * 2 ^ (e - -1074).toNat = Fp.mag Ieee.double (wideS b % 9223372036854775808) := by
    have hg := Fp.sgap_eq
    rw [w4, ← u1, Nat.mul_assoc, ← Nat.pow_add]
    congr 2; omega
  rw [e1, Fp.rung_mag Ieee.double Fp.dF _ (by rw [Fp.dI]; omega), ← negS_div hb hn, ← w3]
  exact word_of w1 (decide_eq_false (by omega))

/-- the conversion of a number to a single that it is -/
theorem narrow_fin {a s : Nat} (ha : a < 18446744073709551616) (hf : a % 9223372036854775808 < 9218868437227405312) (hs : s < 4294967296) (hsf : s % 2147483648 < 2139095040)
    (hneg : negS s = negD a) (hm : Fp.mag Ieee.double (a % 9223372036854775808) = Fp.mag Ieee.single (s % 2147483648) * 2 ^ Fp.sgap) : Ieee.single.write (Ieee.double.read a) = s := by
  obtain ⟨m, e, r1, l1, u1⟩ := Fp.read_fin Ieee.double a (by rw [Fp.rg64, Fp.dI]; exact hf)
  have hn : nanD a = false := decide_eq_false (by omega)
  have hns : nanS s = false := decide_eq_false (by omega)
  rw [r1]
  show Ieee.single.nearest _ m e = _
  rw [Fp.rg64, Fp.dL] at u1
  rw [Fp.dL] at l1
  rw [Fp.nearest_deep Ieee.single _ m e Fp.sgap (by rw [Fp.sL]; have := Fp.sgap_eq; omega), Fp.sL]
  have e1 : m * 2 ^ (e - (-149 - (Fp.sgap : Int))).toNat = Fp.mag Ieee.single (s % 2147483648) * 2 ^ Fp.sgap := by
    rw [← hm, ← u1]; congr 2
  rw [e1, Fp.grid_mag Ieee.single Fp.sF, Fp.sI, Nat.min_eq_left (by omega), ← negD_div ha hn, ← hneg]
  exact word_ofS hs hns

end Go.Proofs.YthjaponkbodooaaDoor
