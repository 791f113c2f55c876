/- Parts of numbers and numbers of parts, there and back (no program in sight). -/
import Derived.Test.YthjaponkbodooaaDoorPlaces
namespace Go.Proofs.YthjaponkbodooaaDoor

theorem odd_split {x : Nat} (h : x ≠ 0) (hx : x < 18446744073709551616) : ∃ m, oddM x = 2 * m + 1 ∧ x = 2 ^ Lib.ctz 64 x * (2 * m + 1) ∧ Lib.ctz 64 x < 64 := by
  obtain ⟨m, h1, h2⟩ := ctz_split x h hx
  refine ⟨m, ?_, h1, h2⟩
  unfold oddM
  have hp := Nat.two_pow_pos (Lib.ctz 64 x)
  generalize Lib.ctz 64 x = k at *
  rw [h1, Nat.mul_div_cancel_left _ hp]

theorem len_bounds {x : Nat} (h : x ≠ 0) (hx : x < 18446744073709551616) : 2 ^ (Lib.bitLen x - 1) ≤ x ∧ x < 2 ^ Lib.bitLen x ∧ 1 ≤ Lib.bitLen x := by
  rw [bitLen_log2 x h hx]
  exact ⟨Nat.log2_self_le h, Nat.lt_log2_self, by omega⟩

/-- the fields of a number that was joined -/
theorem join_fields (neg : Bool) (q fr : Nat) (hq : q < 2047) (hf : fr < 4503599627370496) :
    joinD neg q fr = bitsOfD neg q fr ∧ joinED q fr = 0 ∧ bitsOfD neg q fr < 18446744073709551616 ∧ nanD (bitsOfD neg q fr) = false ∧ expD (bitsOfD neg q fr) = q ∧ fracD (bitsOfD neg q fr) = fr ∧ negD (bitsOfD neg q fr) = neg := by
  have hn : nanD (bitsOfD neg q fr) = false := by
    unfold bitsOfD; cases neg
    · exact decide_eq_false (by simp; omega)
    · exact decide_eq_false (by simp; omega)
  have hc := canonD_id hn
  refine ⟨?_, ?_, ?_, hn, ?_, ?_, ?_⟩
  · unfold joinD; rw [if_neg (by omega), Int.toNat_natCast, hc]
  · unfold joinED; rw [if_neg (by omega)]
  · unfold bitsOfD; cases neg
    · simp; omega
    · simp; omega
  · unfold expD; rw [hc]; unfold bitsOfD; cases neg
    · simp; omega
    · simp; omega
  · unfold fracD; rw [hc]; unfold bitsOfD; cases neg
    · simp; omega
    · simp; omega
  · unfold negD; rw [hc]; unfold bitsOfD; cases neg
    · exact decide_eq_false (by simp; omega)
    · exact decide_eq_true (by simp)

/-- the parts of a number of which exponent and mantissa are known -/
theorem parts_of {n M : Nat} {m d : Nat} (he : expD n < 2047) (hM : mantD n = M) (hs : M = 2 ^ d * (2 * m + 1)) (hx : M < 18446744073709551616) :
    pMantD n = 2 * m + 1 ∧ pExpD n = lowD n + d ∧ pNegD n = negD n ∧ pErrD n = 0 := by
  have hk : Lib.ctz 64 M = d := ctz_eq hs hx
  have hp := Nat.two_pow_pos d
  have h0 : mantD n ≠ 0 := by
    rw [hM, hs]
    exact Nat.mul_ne_zero (by omega) (by omega)
  refine ⟨?_, ?_, ?_, ?_⟩
  · unfold pMantD; rw [if_neg (by omega), hM, hk, hs, Nat.mul_div_cancel_left _ hp]
  · unfold pExpD; rw [if_neg (by omega), hM, hk]
  · unfold pNegD; rw [if_neg (by omega)]
  · unfold pErrD; rw [if_neg (by omega)]

theorem made_parts (neg : Bool) (mant : Nat) (e : Int) (h0 : mant ≠ 0) (hm : mant < 18446744073709551616) (he : madeED mant e = 0) :
    madeD neg mant e < 18446744073709551616 ∧ nanD (madeD neg mant e) = false ∧ pErrD (madeD neg mant e) = 0 ∧ pNegD (madeD neg mant e) = neg ∧
    pMantD (madeD neg mant e) = oddM mant ∧ pExpD (madeD neg mant e) = oddE mant e ∧ -2150 ≤ e ∧ e ≤ 2150 := by
  unfold madeED at he
  rw [if_neg h0] at he
  cases hb : badD mant e
  · rw [hb, if_neg (by simp)] at he
    by_cases hf : 2047 ≤ fieldD mant e
    · rw [if_pos hf] at he; omega
    unfold madeD
    rw [if_neg h0, hb, if_neg (by simp), if_neg hf]
    obtain ⟨m, ho, hs, hk⟩ := odd_split h0 hm
    unfold badD at hb
    simp only [Bool.or_eq_false_iff, decide_eq_false_iff_not] at hb
    obtain ⟨⟨⟨b1, b2⟩, b3⟩, b4⟩ := hb
    have hoM : oddM mant < 18446744073709551616 := by unfold oddM; exact Nat.lt_of_le_of_lt (Nat.div_le_self _ _) hm
    have hL := len_bounds (x := oddM mant) (by omega) hoM
    have hd : downD mant e = min (53 - Lib.bitLen (oddM mant)) (oddE mant e - -1074).toNat := rfl
    have ht : topD mant e = oddM mant * 2 ^ downD mant e := rfl
    have hfd : fieldD mant e = if topD mant e < 4503599627370496 then 0 else oddE mant e - downD mant e + 1075 := rfl
    generalize Lib.bitLen (oddM mant) = L at *
    generalize oddE mant e = E at *
    generalize downD mant e = d at *
    generalize topD mant e = T at *
    generalize fieldD mant e = f at *
    rw [ho] at ht hL
    rw [ho]
    have hT : T < 9007199254740992 := by
      have h1 : (2 * m + 1) * 2 ^ d < 2 ^ L * 2 ^ d := Nat.mul_lt_mul_of_pos_right hL.2.1 (Nat.two_pow_pos d)
      rw [← Nat.pow_add] at h1
      have h2 : 2 ^ (L + d) ≤ 2 ^ 53 := Nat.pow_le_pow_right (by decide) (by omega)
      have h3 : (2:Nat) ^ 53 = 9007199254740992 := rfl
      omega
    have hTs : T = 2 ^ d * (2 * m + 1) := by rw [ht, Nat.mul_comm]
    by_cases hlow : T < 4503599627370496
    · rw [if_pos hlow] at hfd
      have hdE : (d : Int) = E + 1074 := by
        by_cases h : 53 - L ≤ (E - -1074).toNat
        · have hd' : d = 53 - L := by omega
          have h1 : 2 ^ (L - 1) * 2 ^ d ≤ (2 * m + 1) * 2 ^ d := Nat.mul_le_mul_right _ hL.1
          rw [← Nat.pow_add, show L - 1 + d = 52 by omega, ← ht] at h1
          have h3 : (2:Nat) ^ 52 = 4503599627370496 := rfl
          omega
        · omega
      have J := join_fields neg 0 T (by omega) hlow
      rw [hfd, Nat.mod_eq_of_lt hlow]
      have J0 : joinD neg 0 T = bitsOfD neg 0 T := J.1
      rw [J0]
      generalize bitsOfD neg 0 T = n at *
      obtain ⟨_, _, j3, j4, j5, j6, j7⟩ := J
      have hM : mantD n = T := by unfold mantD; rw [if_pos j5, j6]
      have hlw : lowD n = -1074 := by unfold lowD; rw [if_pos j5]; rfl
      obtain ⟨p1, p2, p3, p4⟩ := parts_of (n := n) (by omega) hM hTs (by omega)
      exact ⟨j3, j4, p4, by rw [p3, j7], p1, by rw [p2, hlw]; omega, by omega, by omega⟩
    · rw [if_neg hlow] at hfd
      obtain ⟨q, hq⟩ : ∃ q : Nat, f = q := ⟨f.toNat, by omega⟩
      subst hq
      have J := join_fields neg q (T % 4503599627370496) (by omega) (by omega)
      rw [J.1]
      generalize bitsOfD neg q (T % 4503599627370496) = n at *
      obtain ⟨_, _, j3, j4, j5, j6, j7⟩ := J
      have hM : mantD n = T := by unfold mantD; rw [if_neg (by omega), j6]; omega
      have hlw : lowD n = (q : Int) - 1075 := by unfold lowD; rw [if_neg (by omega), j5]
      obtain ⟨p1, p2, p3, p4⟩ := parts_of (n := n) (by omega) hM hTs (by omega)
      exact ⟨j3, j4, p4, by rw [p3, j7], p1, by rw [p2, hlw]; omega, by omega, by omega⟩
  · rw [hb, if_pos rfl] at he; omega

/-- where no number has the parts, nought is answered -/
theorem made_err (neg : Bool) (mant : Nat) (e : Int) (he : madeED mant e ≠ 0) : madeD neg mant e = 0 ∧ mant ≠ 0 := by
  unfold madeED at he
  unfold madeD
  by_cases h0 : mant = 0
  · rw [if_pos h0] at he; exact absurd rfl he
  rw [if_neg h0] at he ⊢
  refine ⟨?_, h0⟩
  split
  · rfl
  · rename_i hb
    rw [if_neg hb] at he
    split
    · rfl
    · rename_i hf
      rw [if_neg hf] at he
      unfold joinED at he; unfold joinD
      split at he
      · rename_i h; rw [if_pos h]
      · exact absurd rfl he

theorem made_zero (neg : Bool) (e : Int) : madeD neg 0 e = (if neg then 9223372036854775808 else 0) ∧ madeED 0 e = 0 := by
  unfold madeD madeED
  rw [if_pos rfl, if_pos rfl]
  cases neg <;> decide

theorem odd_of_odd (m : Nat) (h : 2 * m + 1 < 18446744073709551616) : oddM (2 * m + 1) = 2 * m + 1 ∧ ∀ e, oddE (2 * m + 1) e = e := by
  have hk : Lib.ctz 64 (2 * m + 1) = 0 := ctz_eq (m := m) (by rw [Nat.pow_zero, Nat.one_mul]) h
  unfold oddM oddE
  rw [hk]
  exact ⟨by rw [Nat.pow_zero, Nat.div_one], fun e => by simp⟩

/-- the number of a number's parts -/
theorem parts_made (a : Nat) (ha : a < 18446744073709551616) (he : pErrD a = 0) :
    madeD (pNegD a) (pMantD a) (pExpD a) = a ∧ madeED (pMantD a) (pExpD a) = 0 ∧ nanD a = false ∧ ((pMantD a = 0 ∧ pExpD a = 0) ∨ pMantD a % 2 = 1) ∧ pMantD a < 18446744073709551616 := by
  have h7 : expD a ≠ 2047 := fun h => by unfold pErrD at he; rw [if_pos h] at he; omega
  have hn : nanD a = false := by
    cases hn : nanD a
    · rfl
    · exact absurd (show expD a = 2047 by unfold expD; rw [canonD_nan hn]) h7
  have hc := canonD_id hn
  have hN : pNegD a = negD a := by unfold pNegD; rw [if_neg h7]
  have hr := nanD_false hn
  have hE : expD a < 2047 := by unfold expD at h7 ⊢; rw [hc] at h7 ⊢; omega
  have hbits : bitsOfD (negD a) (expD a) (fracD a) = a := by
    unfold bitsOfD negD expD fracD; rw [hc]
    by_cases hs : 9223372036854775808 ≤ a
    · rw [decide_eq_true hs, if_pos rfl]; omega
    · rw [decide_eq_false hs, if_neg (by simp)]; omega
  have hfr : fracD a < 4503599627370496 := Nat.mod_lt _ (by decide)
  have J := join_fields (negD a) (expD a) (fracD a) hE hfr
  rw [hbits] at J
  by_cases hM0 : mantD a = 0
  · have hx0 : expD a = 0 ∧ fracD a = 0 := by unfold mantD at hM0; split at hM0 <;> omega
    have p1 : pMantD a = 0 := by unfold pMantD; rw [if_neg h7, hM0]; exact Nat.zero_div _
    have p2 : pExpD a = 0 := by unfold pExpD; rw [if_pos (.inr hM0)]
    rw [hN, p1, p2]
    have Z := made_zero (negD a) 0
    refine ⟨?_, Z.2, hn, .inl ⟨rfl, rfl⟩, by decide⟩
    unfold madeD
    rw [if_pos rfl]
    have J1 := J.1
    rw [hx0.1, hx0.2] at J1
    exact J1
  · have hMl : mantD a < 9007199254740992 := by unfold mantD; split <;> omega
    obtain ⟨m, _, hs, hk⟩ := odd_split hM0 (by omega)
    have hlow : lowD a = ((if expD a = 0 then 1 else expD a : Nat) : Int) - 1075 := rfl
    generalize hd : Lib.ctz 64 (mantD a) = d at *
    obtain ⟨p1, p2, _, _⟩ := parts_of (n := a) hE rfl hs (by omega)
    have hol : 2 * m + 1 < 9007199254740992 := by
      have h1 : 1 * (2 * m + 1) ≤ 2 ^ d * (2 * m + 1) := Nat.mul_le_mul_right _ (Nat.two_pow_pos d)
      omega
    obtain ⟨o1, o2⟩ := odd_of_odd m (by omega)
    have hL := len_bounds (x := 2 * m + 1) (by omega) (by omega)
    have hb3 : Lib.bitLen (2 * m + 1) = Lib.bitLen (oddM (2 * m + 1)) := by rw [o1]
    rw [hN, p1, p2]
    generalize hLL : Lib.bitLen (2 * m + 1) = L at *
    have hLd : L - 1 + d < 53 := by
      have h1 : 2 ^ (L - 1) * 2 ^ d ≤ (2 * m + 1) * 2 ^ d := Nat.mul_le_mul_right _ hL.1
      rw [← Nat.pow_add, Nat.mul_comm (2 * m + 1), ← hs] at h1
      have h2 : 2 ^ (L - 1 + d) < 2 ^ 53 := Nat.lt_of_le_of_lt h1 hMl
      exact (Nat.pow_lt_pow_iff_right (by decide)).1 h2
    have hxr : (1 : Int) ≤ ((if expD a = 0 then 1 else expD a : Nat) : Int) ∧ ((if expD a = 0 then 1 else expD a : Nat) : Int) ≤ 2046 := by split <;> omega
    have hbad : badD (2 * m + 1) (lowD a + d) = false := by
      unfold badD
      rw [← hb3, o2]
      simp only [Bool.or_eq_false_iff, decide_eq_false_iff_not]
      omega
    have hdn : downD (2 * m + 1) (lowD a + d) = d := by
      unfold downD
      rw [← hb3, o2]
      by_cases hx : expD a = 0
      · rw [hlow, if_pos hx]; omega
      · have hLd2 : 53 ≤ L + d := by
          have h1 : (2 * m + 1) * 2 ^ d < 2 ^ L * 2 ^ d := Nat.mul_lt_mul_of_pos_right hL.2.1 (Nat.two_pow_pos d)
          rw [← Nat.pow_add, Nat.mul_comm (2 * m + 1), ← hs] at h1
          have h2 : 2 ^ 52 ≤ mantD a := by unfold mantD; rw [if_neg hx]; show 4503599627370496 ≤ _; omega
          have h3 : 2 ^ 52 < 2 ^ (L + d) := Nat.lt_of_le_of_lt h2 h1
          have := (Nat.pow_lt_pow_iff_right (by decide)).1 h3
          omega
        rw [hlow, if_neg hx]; omega
    have htp : topD (2 * m + 1) (lowD a + d) = mantD a := by unfold topD; rw [hdn, o1, Nat.mul_comm, ← hs]
    have hfd : fieldD (2 * m + 1) (lowD a + d) = expD a := by
      unfold fieldD
      rw [htp, hdn, o2]
      by_cases hx : expD a = 0
      · rw [if_pos (by unfold mantD; rw [if_pos hx]; exact hfr), hx]; rfl
      · rw [if_neg (by unfold mantD; rw [if_neg hx]; omega), hlow, if_neg hx]; omega
    have htm : mantD a % 4503599627370496 = fracD a := by unfold mantD; split <;> omega
    refine ⟨?_, ?_, hn, .inr (by omega), by omega⟩
    · unfold madeD
      rw [if_neg (by omega), hbad, if_neg (by simp), hfd, if_neg (by omega), htp, htm]
      exact J.1
    · unfold madeED
      rw [if_neg (by omega), hbad, if_neg (by simp), hfd, if_neg (by omega), htp, htm]
      exact J.2.1

end Go.Proofs.YthjaponkbodooaaDoor
