/- Parts of singles and singles of parts (no program in sight). -/
import Derived.Test.YthjaponkbodooaaDoorMade
namespace Go.Proofs.YthjaponkbodooaaDoor

/-- the fields of a number that was joined -/
theorem join_fieldsS (neg : Bool) (q fr : Nat) (hq : q < 255) (hf : fr < 8388608) :
    joinS neg q fr = bitsOfS neg q fr ∧ joinES q fr = 0 ∧ bitsOfS neg q fr < 4294967296 ∧ nanS (bitsOfS neg q fr) = false ∧ expS (bitsOfS neg q fr) = q ∧ fracS (bitsOfS neg q fr) = fr ∧ negS (bitsOfS neg q fr) = neg := by
  have hn : nanS (bitsOfS neg q fr) = false := by
    unfold bitsOfS; cases neg
    · exact decide_eq_false (by simp; omega)
    · exact decide_eq_false (by simp; omega)
  have hc := canonS_id hn
  refine ⟨?_, ?_, ?_, hn, ?_, ?_, ?_⟩
  · unfold joinS; rw [if_neg (by omega), Int.toNat_natCast, hc]
  · unfold joinES; rw [if_neg (by omega)]
  · unfold bitsOfS; cases neg
    · simp; omega
    · simp; omega
  · unfold expS; rw [hc]; unfold bitsOfS; cases neg
    · simp; omega
    · simp; omega
  · unfold fracS; rw [hc]; unfold bitsOfS; cases neg
    · simp; omega
    · simp; omega
  · unfold negS; rw [hc]; unfold bitsOfS; cases neg
    · exact decide_eq_false (by simp; omega)
    · exact decide_eq_true (by simp)

/-- the parts of a number of which exponent and mantissa are known -/
theorem parts_ofS {n M : Nat} {m d : Nat} (he : expS n < 255) (hM : mantS n = M) (hs : M = 2 ^ d * (2 * m + 1)) (hx : M < 18446744073709551616) :
    pMantS n = 2 * m + 1 ∧ pExpS n = lowS n + d ∧ pNegS n = negS n ∧ pErrS n = 0 := by
  have hk : Lib.ctz 64 M = d := ctz_eq hs hx
  have hp := Nat.two_pow_pos d
  have h0 : mantS n ≠ 0 := by
    rw [hM, hs]
    exact Nat.mul_ne_zero (by omega) (by omega)
  refine ⟨?_, ?_, ?_, ?_⟩
  · unfold pMantS; rw [if_neg (by omega), hM, hk, hs, Nat.mul_div_cancel_left _ hp]
  · unfold pExpS; rw [if_neg (by omega), hM, hk]
  · unfold pNegS; rw [if_neg (by omega)]
  · unfold pErrS; rw [if_neg (by omega)]

theorem made_partsS (neg : Bool) (mant : Nat) (e : Int) (h0 : mant ≠ 0) (hm : mant < 18446744073709551616) (he : madeES mant e = 0) :
    madeS neg mant e < 4294967296 ∧ nanS (madeS neg mant e) = false ∧ pErrS (madeS neg mant e) = 0 ∧ pNegS (madeS neg mant e) = neg ∧
    pMantS (madeS neg mant e) = oddM mant ∧ pExpS (madeS neg mant e) = oddE mant e ∧ -300 ≤ e ∧ e ≤ 300 := by
  unfold madeES at he
  rw [if_neg h0] at he
  cases hb : badS mant e
  · rw [hb, if_neg (by simp)] at he
    by_cases hf : 255 ≤ fieldS mant e
    · rw [if_pos hf] at he; omega
    unfold madeS
    rw [if_neg h0, hb, if_neg (by simp), if_neg hf]
    obtain ⟨m, ho, hs, hk⟩ := odd_split h0 hm
    unfold badS at hb
    simp only [Bool.or_eq_false_iff, decide_eq_false_iff_not] at hb
    obtain ⟨⟨⟨b1, b2⟩, b3⟩, b4⟩ := hb
    have hoM : oddM mant < 18446744073709551616 := by unfold oddM; exact Nat.lt_of_le_of_lt (Nat.div_le_self _ _) hm
    have hL := len_bounds (x := oddM mant) (by omega) hoM
    have hd : downS mant e = min (24 - Lib.bitLen (oddM mant)) (oddE mant e - -149).toNat := rfl
    have ht : topS mant e = oddM mant * 2 ^ downS mant e := rfl
    have hfd : fieldS mant e = if topS mant e < 8388608 then 0 else oddE mant e - downS mant e + 150 := rfl
    generalize Lib.bitLen (oddM mant) = L at *
    generalize oddE mant e = E at *
    generalize downS mant e = d at *
    generalize topS mant e = T at *
    generalize fieldS mant e = f at *
    rw [ho] at ht hL
    rw [ho]
    have hT : T < 16777216 := by
      have h1 : (2 * m + 1) * 2 ^ d < 2 ^ L * 2 ^ d := Nat.mul_lt_mul_of_pos_right hL.2.1 (Nat.two_pow_pos d)
      rw [← Nat.pow_add] at h1
      have h2 : 2 ^ (L + d) ≤ 2 ^ 24 := Nat.pow_le_pow_right (by decide) (by omega)
      have h3 : (2:Nat) ^ 24 = 16777216 := rfl
      omega
    have hTs : T = 2 ^ d * (2 * m + 1) := by rw [ht, Nat.mul_comm]
    by_cases hlow : T < 8388608
    · rw [if_pos hlow] at hfd
      have hdE : (d : Int) = E + 149 := by
        by_cases h : 24 - L ≤ (E - -149).toNat
        · have hd' : d = 24 - L := by omega
          have h1 : 2 ^ (L - 1) * 2 ^ d ≤ (2 * m + 1) * 2 ^ d := Nat.mul_le_mul_right _ hL.1
          rw [← Nat.pow_add, show L - 1 + d = 23 by omega, ← ht] at h1
          have h3 : (2:Nat) ^ 23 = 8388608 := rfl
          omega
        · omega
      have J := join_fieldsS neg 0 T (by omega) hlow
      rw [hfd, Nat.mod_eq_of_lt hlow]
      have J0 : joinS neg 0 T = bitsOfS neg 0 T := J.1
      rw [J0]
      generalize bitsOfS neg 0 T = n at *
      obtain ⟨_, _, j3, j4, j5, j6, j7⟩ := J
      have hM : mantS n = T := by unfold mantS; rw [if_pos j5, j6]
      have hlw : lowS n = -149 := by unfold lowS; rw [if_pos j5]; rfl
      obtain ⟨p1, p2, p3, p4⟩ := parts_ofS (n := n) (by omega) hM hTs (by omega)
      exact ⟨j3, j4, p4, by rw [p3, j7], p1, by rw [p2, hlw]; omega, by omega, by omega⟩
    · rw [if_neg hlow] at hfd
      obtain ⟨q, hq⟩ : ∃ q : Nat, f = q := ⟨f.toNat, by omega⟩
      subst hq
      have J := join_fieldsS neg q (T % 8388608) (by omega) (by omega)
      rw [J.1]
      generalize bitsOfS neg q (T % 8388608) = n at *
      obtain ⟨_, _, j3, j4, j5, j6, j7⟩ := J
      have hM : mantS n = T := by unfold mantS; rw [if_neg (by omega), j6]; omega
      have hlw : lowS n = (q : Int) - 150 := by unfold lowS; rw [if_neg (by omega), j5]
      obtain ⟨p1, p2, p3, p4⟩ := parts_ofS (n := n) (by omega) hM hTs (by omega)
      exact ⟨j3, j4, p4, by rw [p3, j7], p1, by rw [p2, hlw]; omega, by omega, by omega⟩
  · rw [hb, if_pos rfl] at he; omega

/-- where no number has the parts, nought is answered -/
theorem made_errS (neg : Bool) (mant : Nat) (e : Int) (he : madeES mant e ≠ 0) : madeS neg mant e = 0 ∧ mant ≠ 0 := by
  unfold madeES at he
  unfold madeS
  by_cases h0 : mant = 0
  · rw [if_pos h0] at he; exact absurd rfl he
  rw [if_neg h0] at he ⊢
  refine ⟨?_, h0⟩
  split
  · rfl
  · rename_i hb
    rw [if_neg hb] at he
    split
    · rfl
    · rename_i hf
      rw [if_neg hf] at he
      unfold joinES at he; unfold joinS
      split at he
      · rename_i h; rw [if_pos h]
      · exact absurd rfl he

theorem made_zeroS (neg : Bool) (e : Int) : madeS neg 0 e = (if neg then 2147483648 else 0) ∧ madeES 0 e = 0 := by
  unfold madeS madeES
  rw [if_pos rfl, if_pos rfl]
  cases neg <;> decide

end Go.Proofs.YthjaponkbodooaaDoor
