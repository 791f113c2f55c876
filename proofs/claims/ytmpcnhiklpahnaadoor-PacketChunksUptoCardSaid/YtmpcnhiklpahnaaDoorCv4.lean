/- What rounding comes to, in plain numbers (no program in sight). -/
import Derived.Test.YtmpcnhiklpahnaaDoorCv2
namespace Go.Proofs.YtmpcnhiklpahnaaDoor
open Go.RowKit

/-- the exponent of the last digit that is kept -/
def rK (D lo : Int) (m : Nat) (e : Int) : Int := max (e + (Lib.bitLen m : Nat) - D) lo
/-- what is kept, rounded -/
def rQ (D lo : Int) (neg : Bool) (m : Nat) (e mode : Int) : Nat := if rK D lo m e - e ≤ 0 then m * 2 ^ (-(rK D lo m e - e)).toNat else cutQ m (rK D lo m e - e).toNat neg mode
def rLost (D lo : Int) (m : Nat) (e : Int) : Bool := if rK D lo m e - e ≤ 0 then false else decide (m % 2 ^ (rK D lo m e - e).toNat ≠ 0)
/-- too great -/
def rOver (D lo most : Int) (neg : Bool) (m : Nat) (e mode : Int) : Bool := decide (most + 1 < rK D lo m e + (Lib.bitLen (rQ D lo neg m e mode) : Nat))
/-- the greatest number instead of infinity -/
def rTop (neg : Bool) (mode : Int) : Bool := decide (mode = 2) || (decide (mode = 3) && neg) || (decide (mode = 4) && !neg)
def rFlags (D lo most : Int) (neg : Bool) (m : Nat) (e mode : Int) : Int :=
  if rOver D lo most neg m e mode then 5 else if rLost D lo m e then (if e + (Lib.bitLen m : Nat) - 1 < lo + D - 1 then 3 else 1) else 0
/-- the amount, without its sign -/
def rAmt (D lo : Int) (neg : Bool) (m : Nat) (e mode : Int) : Nat := rQ D lo neg m e mode * 2 ^ (rK D lo m e + 1074).toNat
def rWord (D lo most : Int) (top : Nat) (neg : Bool) (m : Nat) (e mode : Int) : Nat :=
  (if rOver D lo most neg m e mode then (if rTop neg mode then top else 9218868437227405312) else Fp.num Ieee.double false (rAmt D lo neg m e mode)) + (if neg then 9223372036854775808 else 0)

theorem bl_bounds {m : Nat} (h : m ≠ 0) (hm : m < 18446744073709551616) : 2 ^ (Lib.bitLen m - 1) ≤ m ∧ m < 2 ^ Lib.bitLen m ∧ 1 ≤ Lib.bitLen m ∧ Lib.bitLen m ≤ 64 := by
  have hl : m.log2 < 64 := (Nat.log2_lt h).2 hm
  rw [bitLen_log2 m h hm]
  exact ⟨Nat.log2_self_le h, Nat.lt_log2_self, by omega, by omega⟩
theorem bl_le {m : Nat} (hm : m < 18446744073709551616) {k : Nat} (h : m ≤ 2 ^ k) : Lib.bitLen m ≤ k + 1 := by
  by_cases h0 : m = 0
  · subst h0; show 0 ≤ _; omega
  · rw [bitLen_log2 m h0 hm]
    have : m.log2 < k + 1 := (Nat.log2_lt h0).2 (by rw [Nat.pow_succ]; have := Nat.two_pow_pos k; omega)
    omega
theorem lt_bl {m : Nat} (hm : m < 18446744073709551616) : m < 2 ^ Lib.bitLen m := by
  by_cases h0 : m = 0
  · subst h0; exact Nat.two_pow_pos _
  · exact (bl_bounds h0 hm).2.1

/-- how great what is kept can be -/
theorem rQ_le {D : Nat} {lo : Int} (neg : Bool) {m : Nat} (e mode : Int) (h0 : m ≠ 0) (hm : m < 18446744073709551616) (hD : D ≤ 53) : rQ D lo neg m e mode ≤ 2 ^ D ∧ (rK D lo m e - e ≤ 0 → (-(rK D lo m e - e)).toNat ≤ 63) := by
  have hb := bl_bounds h0 hm
  have hk : rK D lo m e = max (e + (Lib.bitLen m : Nat) - D) lo := rfl
  unfold rQ
  generalize rK D lo m e = k at *
  generalize Lib.bitLen m = L at *
  split
  · refine ⟨?_, fun _ => by omega⟩
    have h1 : m * 2 ^ (-(k - e)).toNat < 2 ^ L * 2 ^ (-(k - e)).toNat := Nat.mul_lt_mul_of_pos_right hb.2.1 (Nat.two_pow_pos _)
    rw [← Nat.pow_add] at h1
    have h2 : 2 ^ (L + (-(k - e)).toNat) ≤ 2 ^ D := Nat.pow_le_pow_right (by decide) (by omega)
    omega
  · refine ⟨?_, fun h => by omega⟩
    unfold cutQ
    have h1 : (goes m (k - e).toNat neg mode).toNat ≤ 1 := by cases goes m (k - e).toNat neg mode <;> decide
    have h2 : m / 2 ^ (k - e).toNat < 2 ^ D := by
      rw [Nat.div_lt_iff_lt_mul (Nat.two_pow_pos _), ← Nat.pow_add]
      exact Nat.lt_of_lt_of_le hb.2.1 (Nat.pow_le_pow_right (by decide) (by omega))
    omega
theorem rAmt_rep {D : Nat} {lo most : Int} (neg : Bool) {m : Nat} (e mode : Int) (h0 : m ≠ 0) (hm : m < 18446744073709551616) (hD : D ≤ 53) (hlo : -1074 ≤ lo) (hmost : most ≤ 1023) (h : rOver D lo most neg m e mode = false) : Fp.Rep Ieee.double (rAmt D lo neg m e mode) := by
  have hq := (rQ_le (lo := lo) neg e mode h0 hm hD).1
  have hk : lo ≤ rK D lo m e := by unfold rK; omega
  have hov : rK D lo m e + (Lib.bitLen (rQ D lo neg m e mode) : Nat) ≤ most + 1 := by unfold rOver at h; simp at h; exact h
  unfold rAmt
  generalize rQ D lo neg m e mode = q at *
  generalize rK D lo m e = k at *
  have hq53 : q ≤ 9007199254740992 := Nat.le_trans hq (Nat.pow_le_pow_right (n := 2) (by decide) hD)
  have hlt : q * 2 ^ (k + 1074).toNat < Fp.mag Ieee.double Ieee.double.infRung := by
    rw [Fp.mag_infD]
    have h1 : q * 2 ^ (k + 1074).toNat < 2 ^ Lib.bitLen q * 2 ^ (k + 1074).toNat := Nat.mul_lt_mul_of_pos_right (lt_bl (by omega)) (Nat.two_pow_pos _)
    rw [← Nat.pow_add] at h1
    refine Nat.lt_of_lt_of_le h1 (Nat.pow_le_pow_right (by decide) ?_)
    unfold Fp.dtop; omega
  by_cases hq' : q = 9007199254740992
  · refine Fp.rep_of Ieee.double 1 (53 + (k + 1074).toNat) ?_ (by decide) hlt
    rw [hq', Nat.pow_add, Nat.one_mul, show (2 : Nat) ^ 53 = 9007199254740992 by decide]
  · exact Fp.rep_of Ieee.double q (k + 1074).toNat rfl (by show q < 2 ^ 53; omega) hlt
/-- a whole number as a float -/
theorem float_int {q : Nat} (h : q ≤ 9007199254740992) : floatOfInt .f64 (q : Int) = Fp.num Ieee.double false (q * 2 ^ Fp.deep Ieee.double) ∧ Fp.Rep Ieee.double (q * 2 ^ Fp.deep Ieee.double) := by
  have hrep : Fp.Rep Ieee.double (q * 2 ^ Fp.deep Ieee.double) := by
    have hlt : q * 2 ^ Fp.deep Ieee.double < Fp.mag Ieee.double Ieee.double.infRung := by
      rw [Fp.mag_infD, Fp.dD]
      obtain ⟨j, hj⟩ : ∃ j : Nat, j = 1074 := ⟨_, rfl⟩
      rw [← hj]
      have h1 : q * 2 ^ j < 2 ^ 54 * 2 ^ j := Nat.mul_lt_mul_of_pos_right (Nat.lt_of_le_of_lt h (by decide)) (Nat.two_pow_pos _)
      rw [← Nat.pow_add] at h1
      exact Nat.lt_of_lt_of_le h1 (Nat.pow_le_pow_right (by decide) (by unfold Fp.dtop; omega))
    by_cases hq' : q = 9007199254740992
    · refine Fp.rep_of Ieee.double 1 (53 + Fp.deep Ieee.double) ?_ (by decide) hlt
      rw [hq', Nat.pow_add, Nat.one_mul, show (2 : Nat) ^ 53 = 9007199254740992 by decide]
    · exact Fp.rep_of Ieee.double q _ rfl (by show q < 2 ^ 53; omega) hlt
  refine ⟨?_, hrep⟩
  have h1 := Fp.int_is Ieee.double Fp.dL0 (q : Int) (by rw [Int.natAbs_natCast]; exact hrep)
  rw [Int.natAbs_natCast, decide_eq_false (by omega)] at h1
  rw [← h1]
  have e : floatOfInt .f64 (q : Int) = Ieee.double.write (.number (decide ((q : Int) < 0)) (q : Int).natAbs 0) := by unfold floatOfInt FloatKind.nearest FloatKind.encode FloatKind.format; rfl
  rw [e, Int.natAbs_natCast, decide_eq_false (by omega)]
theorem num_lt {n : Nat} (h : Fp.Rep Ieee.double n) : Fp.num Ieee.double false n < 9218868437227405312 := (rep_lt h).1
theorem num_high {n : Nat} (h : Fp.Rep Ieee.double n) (hn : 4503599627370496 ≤ n) : 4503599627370496 ≤ Fp.num Ieee.double false n := by
  obtain ⟨_, h2⟩ := rep_lt h
  by_cases hl : Fp.num Ieee.double false n < 4503599627370496
  · rw [mag_low hl] at h2; omega
  · omega
/-- Ldexp of a whole number, where nothing is lost -/
theorem ldexp_int {q : Nat} {k : Int} (hq : q ≤ 9007199254740992) (hk : -1074 ≤ k) (hrep : Fp.Rep Ieee.double (q * 2 ^ (k + 1074).toNat)) (w : World) :
    Calls Tryd.prog 71 #[.float .f64 (Fp.num Ieee.double false (q * 2 ^ Fp.deep Ieee.double)), .int .i64 k] w fun e w' => e = .returned (.float .f64 (Fp.num Ieee.double false (q * 2 ^ (k + 1074).toNat))) ∧ w = w' := by
  obtain ⟨_, h2⟩ := float_int hq
  by_cases h0 : q = 0
  · subst h0
    simp only [Nat.zero_mul] at *
    have e : Fp.num Ieee.double false 0 = 0 := Fp.grid_zero Ieee.double 0
    rw [e]
    exact m_ldexp (fun w => m_ldexp_zero k w) w
  have hbig : 4503599627370496 ≤ q * 2 ^ Fp.deep Ieee.double := by
    have h3 : 2 ^ 52 ≤ 2 ^ Fp.deep Ieee.double := Nat.pow_le_pow_right (by decide) (by rw [Fp.dD]; omega)
    have h4 : 1 * 2 ^ Fp.deep Ieee.double ≤ q * 2 ^ Fp.deep Ieee.double := Nat.mul_le_mul_right _ (by omega)
    have h5 : (2 : Nat) ^ 52 = 4503599627370496 := by decide
    omega
  refine ldexp_is _ (q * 2 ^ Fp.deep Ieee.double) _ k (num_high h2 hbig) (num_lt h2) (rep_lt h2).2 hrep (Nat.mul_ne_zero h0 (Nat.ne_of_gt (Nat.two_pow_pos _))) (fun hp => ?_) (fun hn => ?_) w
  · rw [Nat.mul_assoc, ← Nat.pow_add]; congr 2; rw [Fp.dD]; omega
  · rw [Nat.mul_assoc, ← Nat.pow_add]; congr 2; rw [Fp.dD]; omega

set_option maxRecDepth 100000 in
set_option maxHeartbeats 600000 in
theorem m_inf1 (w : World) : Calls Tryd.prog 75 #[.int .i64 1] w fun e w' => e = .returned (.float .f64 9218868437227405312) ∧ w = w' := by
  go_enter Tryd.func75, Tryd.ntmps75
  go_wp2
  go_ret
  exact ⟨rfl, rfl⟩

end Go.Proofs.YtmpcnhiklpahnaaDoor
