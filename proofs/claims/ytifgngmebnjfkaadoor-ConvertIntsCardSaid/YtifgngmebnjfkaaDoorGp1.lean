/- What the reference's rounding comes to is what the program's comes to (no program in sight). -/
import Derived.Test.YtifgngmebnjfkaaDoorRf6
import Derived.Test.YtifgngmebnjfkaaDoorCvp3
namespace Go.Proofs.YtifgngmebnjfkaaDoor

theorem blen_bitLen {m : Nat} (hm : m < 18446744073709551616) : blen m = Lib.bitLen m := by
  by_cases h : m = 0
  · subst h; rfl
  · rw [blen_pos h, bitLen_log2 m h hm]
theorem blen_mul (m k : Nat) (h : m ≠ 0) : blen (m * 2 ^ k) = blen m + k := by
  have h2 : m * 2 ^ k ≠ 0 := Nat.mul_ne_zero h (Nat.ne_of_gt (Nat.two_pow_pos k))
  rw [blen_pos h, blen_pos h2, Fp.log2_mul_pow m k h]; omega
/-- up or not: as the program says it -/
theorem upB_cut (ng : Bool) (M s : Nat) (mode : Int) (hs : 1 ≤ s) : upB ng (M / 2 ^ s) (cutC M s false) mode = goes M s ng mode := by
  have hh := half_pow s hs
  unfold goes cutC
  by_cases h0 : M % 2 ^ s = 0
  · rw [if_pos h0, if_pos ⟨h0, rfl⟩]
    unfold upB
    repeat' split
    all_goals simp
  · rw [if_neg h0, if_neg (fun h => h0 h.1), if_neg (fun h => by simp at h)]
    generalize M % 2 ^ s = r at *
    generalize M / 2 ^ s = q at *
    generalize 2 ^ (s - 1) = H at *
    generalize 2 ^ s = Z at *
    subst hh
    unfold upB
    have c1 : (0 < cmpN r H) ↔ 2 * H < 2 * r := by unfold cmpN; repeat' split
                                                   all_goals omega
    have c2 : (cmpN r H = 0) ↔ 2 * H = 2 * r := by unfold cmpN; repeat' split
                                                   all_goals omega
    have c3 : (0 ≤ cmpN r H) ↔ 2 * H ≤ 2 * r := by unfold cmpN; repeat' split
                                                   all_goals omega
    have c4 : -2 < cmpN r H := by have := cmpN_range r H; omega
    by_cases m0 : mode = 0
    · rw [if_pos m0, if_pos m0, decide_eq_decide.2 c1, decide_eq_decide.2 c2]
    rw [if_neg m0, if_neg m0]
    by_cases m1 : mode = 1
    · rw [if_pos m1, if_pos m1, decide_eq_decide.2 c3]
    rw [if_neg m1, if_neg m1]
    by_cases m3 : mode = 3
    · rw [if_pos m3, if_pos m3, decide_eq_true c4, Bool.and_true]
    rw [if_neg m3, if_neg m3]
    by_cases m4 : mode = 4
    · rw [if_pos m4, if_pos m4, decide_eq_true c4, Bool.and_true]
    rw [if_neg m4, if_neg m4]
theorem upB_exact (ng : Bool) (q : Nat) (mode : Int) : upB ng q (-2) mode = false := by
  unfold upB
  repeat' split
  all_goals simp
/-- in fine units -/
theorem gQ_fine (D lo : Int) (ng : Bool) (M : Nat) (e mode : Int) (J : Nat) (h1 : 0 ≤ e + J) (h2 : 0 ≤ gK D lo M e + J) :
    gQ D lo ng M e false mode = cutQ (M * 2 ^ (e + J).toNat) (gK D lo M e + J).toNat ng mode := by
  unfold gQ gq gc
  generalize gK D lo M e = k at *
  by_cases h : k ≤ e
  · rw [if_pos h, if_pos h, if_neg Bool.false_ne_true, upB_exact]
    have e1 : M * 2 ^ (e + J).toNat = M * 2 ^ (e - k).toNat * 2 ^ (k + J).toNat := by
      rw [Nat.mul_assoc, ← Nat.pow_add]; congr 2; omega
    have := cutQ_scale (M * 2 ^ (e - k).toNat) 0 (k + J).toNat ng mode
    rw [Nat.zero_add, cutQ_zero] at this
    rw [e1, this]; simp
  · rw [if_neg h, if_neg h, upB_cut _ _ _ _ (by omega)]
    have := cutQ_scale M (k - e).toNat (e + J).toNat ng mode
    rw [show (k - e).toNat + (e + J).toNat = (k + J).toNat by omega] at this
    rw [this]; rfl
/-- something is cut off: in fine units -/
theorem gc_fine (D lo : Int) (M : Nat) (e : Int) (J : Nat) (h1 : 0 ≤ e + J) (h2 : 0 ≤ gK D lo M e + J) :
    (-2 < gc D lo M e false) ↔ M * 2 ^ (e + J).toNat % 2 ^ (gK D lo M e + J).toNat ≠ 0 := by
  unfold gc
  generalize gK D lo M e = k at *
  by_cases h : k ≤ e
  · rw [if_pos h, if_neg Bool.false_ne_true]
    have e1 : M * 2 ^ (e + J).toNat = M * 2 ^ (e - k).toNat * 2 ^ (k + J).toNat := by
      rw [Nat.mul_assoc, ← Nat.pow_add]; congr 2; omega
    rw [e1, Nat.mul_mod_left]; simp
  · rw [if_neg h]
    obtain ⟨s, hs⟩ : ∃ s, s = (k - e).toNat := ⟨_, rfl⟩
    rw [← hs, show (k + J).toNat = s + (e + J).toNat by omega, Nat.pow_add, Nat.mul_mod_mul_right]
    have hp := Nat.two_pow_pos (e + J).toNat
    unfold cutC
    by_cases h0 : M % 2 ^ s = 0
    · rw [if_pos ⟨h0, rfl⟩, h0]; simp
    · rw [if_neg (fun h => h0 h.1), if_neg (fun h => by simp at h)]
      have := cmpN_range (M % 2 ^ s) (2 ^ (s - 1))
      constructor
      · intro _ h
        rcases Nat.mul_eq_zero.1 h with h | h
        · exact h0 h
        · omega
      · intro _; omega
theorem rLost_fine (D lo : Int) (m : Nat) (e : Int) (J : Nat) (h1 : 0 ≤ e + J) (h2 : 0 ≤ rK D lo m e + J) :
    rLost D lo m e = decide (m * 2 ^ (e + J).toNat % 2 ^ (rK D lo m e + J).toNat ≠ 0) := by
  unfold rLost
  generalize rK D lo m e = k at *
  by_cases h : k - e ≤ 0
  · rw [if_pos h]
    have e1 : m * 2 ^ (e + J).toNat = m * 2 ^ (e - k).toNat * 2 ^ (k + J).toNat := by
      rw [Nat.mul_assoc, ← Nat.pow_add]; congr 2; omega
    rw [e1, Nat.mul_mod_left]; simp
  · rw [if_neg h]
    obtain ⟨s, hs⟩ : ∃ s, s = (k - e).toNat := ⟨_, rfl⟩
    rw [← hs, show (k + J).toNat = s + (e + J).toNat by omega, Nat.pow_add, Nat.mul_mod_mul_right, decide_eq_decide]
    have hp := Nat.two_pow_pos (e + J).toNat
    constructor
    · intro h0 h
      rcases Nat.mul_eq_zero.1 h with h | h
      · exact h0 h
      · omega
    · intro h0 h; rw [h, Nat.zero_mul] at h0; exact h0 rfl
/-- the same amount, rounded by both -/
theorem g_is_r {D lo : Int} {ng : Bool} {m M : Nat} {e E mode : Int} (J : Nat) (h1 : 0 ≤ e + J) (h2 : 0 ≤ E + J) (h3 : 0 ≤ lo + J) (hm0 : m ≠ 0) (hm : m < 18446744073709551616) (hv : m * 2 ^ (e + J).toNat = M * 2 ^ (E + J).toNat) :
    gK D lo M E = rK D lo m e ∧ gQ D lo ng M E false mode = rQ D lo ng m e mode ∧ (decide (-2 < gc D lo M E false) = rLost D lo m e) ∧ E + (blen M : Nat) = e + (Lib.bitLen m : Nat) ∧ M ≠ 0 := by
  have hM0 : M ≠ 0 := by
    intro h; rw [h, Nat.zero_mul] at hv
    exact Nat.mul_ne_zero hm0 (Nat.ne_of_gt (Nat.two_pow_pos _)) hv
  have hb : E + (blen M : Nat) = e + (Lib.bitLen m : Nat) := by
    have b1 := blen_mul m (e + J).toNat hm0
    have b2 := blen_mul M (E + J).toNat hM0
    rw [hv, b2, blen_bitLen hm] at b1
    omega
  have hk : gK D lo M E = rK D lo m e := by unfold gK rK; rw [hb]
  have hk0 : 0 ≤ rK D lo m e + J := by have : lo ≤ rK D lo m e := Int.le_max_right _ _; omega
  refine ⟨hk, ?_, ?_, hb, hM0⟩
  · rw [gQ_fine D lo ng M E mode J h2 (by omega), rQ_fine D lo ng m e mode J h1 hk0, hk, hv]
  · rw [rLost_fine D lo m e J h1 hk0, decide_eq_decide, gc_fine D lo M E J h2 (by omega), hk, hv]
theorem topR_is : topR = rTop := rfl
theorem gFlags_is {D lo most : Int} {ng : Bool} {m M : Nat} {e E mode : Int} (J : Nat) (h1 : 0 ≤ e + J) (h2 : 0 ≤ E + J) (h3 : 0 ≤ lo + J) (hm0 : m ≠ 0) (hm : m < 18446744073709551616) (hv : m * 2 ^ (e + J).toNat = M * 2 ^ (E + J).toNat) (hQ : rQ D lo ng m e mode < 18446744073709551616) :
    gFlags D lo most ng M E false mode = rFlags D lo most ng m e mode ∧ gOver D lo most ng M E false mode = rOver D lo most ng m e mode := by
  obtain ⟨k1, k2, k3, k4, _⟩ := g_is_r (D := D) (lo := lo) (ng := ng) (mode := mode) J h1 h2 h3 hm0 hm hv
  have ho : gOver D lo most ng M E false mode = rOver D lo most ng m e mode := by
    unfold gOver rOver; rw [k1, k2, blen_bitLen hQ]
  refine ⟨?_, ho⟩
  unfold gFlags rFlags gFl
  rw [ho, k4, ← k3]
  by_cases h : rOver D lo most ng m e mode = true
  · rw [if_pos h, if_pos h]
  · rw [if_neg h, if_neg h]
    by_cases h2 : -2 < gc D lo M E false
    · rw [if_pos h2, if_pos (decide_eq_true h2)]
    · rw [if_neg h2, decide_eq_false h2, if_neg Bool.false_ne_true]
/-- the rung of q units of 2^j -/
theorem grid_rung (f : Ieee.Format) (F q j : Nat) (hF : f.fractionBits = F) (h : q ≤ 2 ^ (F + 1)) (h2 : 2 ^ F ≤ q ∨ j = 0) : Fp.grid f (q * 2 ^ j) 0 = j * 2 ^ F + q := by
  have hb : f.binade = 2 ^ F := by show 2 ^ f.fractionBits = _; rw [hF]
  unfold Fp.grid
  rw [hb, hF]
  by_cases h0 : q = 0
  · subst h0
    rcases h2 with h2 | h2
    · have := Nat.two_pow_pos F; omega
    · subst h2; simp [Fp.rne]
  rw [Fp.log2_mul_pow q j h0]
  by_cases hq : q < 2 ^ F
  · have hj : j = 0 := by rcases h2 with h2 | h2 <;> omega
    have hl : q.log2 < F := (Nat.log2_lt h0).2 hq
    subst hj
    rw [show max (q.log2 + 0 - F) 0 = 0 by omega]
    rw [Nat.pow_zero, Nat.mul_one, Fp.rne_one]; all_goals simp
  · by_cases hq2 : q < 2 ^ (F + 1)
    · have hl : q.log2 = F := (Nat.log2_eq_iff h0).2 ⟨by omega, hq2⟩
      rw [hl, show max (F + j - F) 0 = j by omega, Fp.rne_mul q _ (Nat.two_pow_pos j)]; all_goals simp
    · have hqe : q = 2 ^ (F + 1) := by omega
      subst hqe
      rw [Nat.log2_two_pow, show max (F + 1 + j - F) 0 = j + 1 by omega]
      have e : 2 ^ (F + 1) * 2 ^ j = 2 ^ F * 2 ^ (j + 1) := by rw [← Nat.pow_add, ← Nat.pow_add]; congr 1; omega
      rw [e, Fp.rne_mul _ _ (Nat.two_pow_pos _), Nat.pow_succ]
      rw [Nat.sub_zero, Nat.add_mul]; omega
end Go.Proofs.YtifgngmebnjfkaaDoor
