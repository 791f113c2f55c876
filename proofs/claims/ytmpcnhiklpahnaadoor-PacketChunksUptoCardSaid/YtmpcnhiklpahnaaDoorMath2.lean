/- Go's Frexp and Ldexp of numbers without a sign, in amounts. -/
import Derived.Test.YtmpcnhiklpahnaaDoorMath
namespace Go.Proofs.YtmpcnhiklpahnaaDoor
open Go.RowKit

set_option maxRecDepth 100000 in
set_option maxHeartbeats 600000 in
theorem m_ldexp_norm (z n : Nat) (k : Int) (h : 4503599627370496 ≤ z) (hz : z < 9218868437227405312) (hn : (n : Int) = k + (z / 4503599627370496 : Nat)) (h1 : 1 ≤ n) (h2 : n ≤ 2046) (hm : Ieee.double.mul 4607182418800017408 (n * 4503599627370496 + z % 4503599627370496) = some (n * 4503599627370496 + z % 4503599627370496)) (w : World) : Calls Tryd.prog 85 #[.float .f64 z, .int .i64 k] w fun e w' => e = .returned (.float .f64 (n * 4503599627370496 + z % 4503599627370496)) ∧ w = w' := by
  have HI := Lib.hid (fun w => m_isinf z (by omega) w)
  have HN := Lib.hid (fun w => m_isnan z w)
  rw [decide_eq_false (by omega)] at HI HN
  have hz0 := eq_zero (r := z) (by omega)
  rw [decide_eq_false (by omega)] at hz0
  have NO := Lib.hid (fun w => m_norm_high z h hz w)
  have f1 := field_of_i z hz
  have f2 := frac_of z hz
  have f3 := join_of n (z % 4503599627370496) (by omega) (Nat.mod_lt _ (by decide))
  have s1 : ((z : Int) / 4503599627370496) = ((z / 4503599627370496 : Nat) : Int) := by omega
  have tq : z / 4503599627370496 < 2047 := by omega
  have lq : 0 < z / 4503599627370496 := by omega
  generalize z / 4503599627370496 = q at *
  have kl : -3000 ≤ k := by omega
  have ku : k ≤ 3000 := by omega
  obtain ⟨y, hy⟩ : ∃ y, n * 4503599627370496 + z % 4503599627370496 = y := ⟨_, rfl⟩
  have hnl : n < 2047 := by omega
  have gs : IntKind.u64.wrap ((n : Int) * 4503599627370496) = ((n * 4503599627370496 : Nat) : Int) := by rw [IntKind.wrap_u64]; omega
  have gn : IntKind.u64.wrap (n : Int) = (n : Int) := by rw [IntKind.wrap_u64]; omega
  have d1 : decide (k + ((q : Int) - 1023) < -1075) = false := decide_eq_false (by omega)
  have d2 : decide (k + ((q : Int) - 1023) > 1023) = false := decide_eq_false (by omega)
  have d3 : decide (k + ((q : Int) - 1023) < -1022) = false := decide_eq_false (by omega)
  have g5 : k + ((q : Int) - 1023) + 1023 = (n : Int) := by omega
  rw [hy]
  rw [hy] at f3 hm
  generalize z % 4503599627370496 = x at *
  generalize n * 4503599627370496 = nb at *
  have hf := fun t P w => run_float_arith (P := P) w .mul t .f64 _ _ _ hm
  clear hm hy hn h1 h2 h hz
  go_enter Tryd.func85, Tryd.ntmps85
  go_wp2_with fail
  refine (HI.out _).mono ?_; rintro e1 w1 ⟨rfl, rfl⟩
  go_wp2_with fail
  refine (HN.out _).mono ?_; rintro e2 w2 ⟨rfl, rfl⟩
  go_wp2_with fail
  refine (NO.out _).mono ?_; rintro e3 w3 ⟨rfl, rfl⟩
  go_wp2
  go_ret
  exact ⟨rfl, rfl⟩

set_option maxRecDepth 100000 in
set_option maxHeartbeats 600000 in
theorem m_ldexp_sub (z n r : Nat) (k : Int) (h : 4503599627370496 ≤ z) (hz : z < 9218868437227405312) (hn : (n : Int) = k + (z / 4503599627370496 : Nat) + 53) (h1 : 1 ≤ n) (h2 : n ≤ 53) (hm : Ieee.double.mul 4368491638549381120 (n * 4503599627370496 + z % 4503599627370496) = some r) (w : World) : Calls Tryd.prog 85 #[.float .f64 z, .int .i64 k] w fun e w' => e = .returned (.float .f64 r) ∧ w = w' := by
  have HI := Lib.hid (fun w => m_isinf z (by omega) w)
  have HN := Lib.hid (fun w => m_isnan z w)
  rw [decide_eq_false (by omega)] at HI HN
  have hz0 := eq_zero (r := z) (by omega)
  rw [decide_eq_false (by omega)] at hz0
  have NO := Lib.hid (fun w => m_norm_high z h hz w)
  have f1 := field_of_i z hz
  have f2 := frac_of z hz
  have f3 := join_of n (z % 4503599627370496) (by omega) (Nat.mod_lt _ (by decide))
  have s1 : ((z : Int) / 4503599627370496) = ((z / 4503599627370496 : Nat) : Int) := by omega
  have tq : z / 4503599627370496 < 2047 := by omega
  have lq : 0 < z / 4503599627370496 := by omega
  generalize z / 4503599627370496 = q at *
  have kl : -3000 ≤ k := by omega
  have ku : k ≤ 3000 := by omega
  obtain ⟨y, hy⟩ : ∃ y, n * 4503599627370496 + z % 4503599627370496 = y := ⟨_, rfl⟩
  have hnl : n < 2047 := by omega
  have gs : IntKind.u64.wrap ((n : Int) * 4503599627370496) = ((n * 4503599627370496 : Nat) : Int) := by rw [IntKind.wrap_u64]; omega
  have gn : IntKind.u64.wrap (n : Int) = (n : Int) := by rw [IntKind.wrap_u64]; omega
  have d1 : decide (k + ((q : Int) - 1023) < -1075) = false := decide_eq_false (by omega)
  have d2 : decide (k + ((q : Int) - 1023) > 1023) = false := decide_eq_false (by omega)
  have d3 : decide (k + ((q : Int) - 1023) < -1022) = true := decide_eq_true (by omega)
  have g5 : k + ((q : Int) - 1023) + 53 + 1023 = (n : Int) := by omega
  rw [hy] at f3 hm
  generalize z % 4503599627370496 = x at *
  generalize n * 4503599627370496 = nb at *
  have hf := fun t P w => run_float_arith (P := P) w .mul t .f64 _ _ _ hm
  clear hm hy hn h1 h2 h hz
  go_enter Tryd.func85, Tryd.ntmps85
  go_wp2_with fail
  refine (HI.out _).mono ?_; rintro e1 w1 ⟨rfl, rfl⟩
  go_wp2_with fail
  refine (HN.out _).mono ?_; rintro e2 w2 ⟨rfl, rfl⟩
  go_wp2_with fail
  refine (NO.out _).mono ?_; rintro e3 w3 ⟨rfl, rfl⟩
  go_wp2
  go_ret
  exact ⟨rfl, rfl⟩

set_option maxRecDepth 100000 in
set_option maxHeartbeats 600000 in
theorem m_ldexp_zero (k : Int) (w : World) : Calls Tryd.prog 85 #[.float .f64 0, .int .i64 k] w fun e w' => e = .returned (.float .f64 0) ∧ w = w' := by
  have hz0 := eq_zero (r := 0) (by decide)
  rw [decide_eq_true (by rfl)] at hz0
  go_enter Tryd.func85, Tryd.ntmps85
  go_wp2
  go_ret
  exact ⟨rfl, rfl⟩

theorem m_ldexp {z k : _} {r : Nat} (H : ∀ w, Calls Tryd.prog 85 #[.float .f64 z, .int .i64 k] w fun e w' => e = .returned (.float .f64 r) ∧ w = w') (w : World) : Calls Tryd.prog 71 #[.float .f64 z, .int .i64 k] w fun e w' => e = .returned (.float .f64 r) ∧ w = w' := by
  have HH := Lib.hid H
  clear H
  go_enter Tryd.func71, Tryd.ntmps71
  go_wp2_with fail
  refine (HH.out _).mono ?_; rintro e1 w1 ⟨rfl, rfl⟩
  go_wp2
  go_ret
  exact ⟨rfl, rfl⟩

theorem m_frexp {z : Nat} {r : Nat} {k : Int} (H : ∀ w, Calls Tryd.prog 83 #[.float .f64 z] w fun e w' => e = .returned (.tuple #[.float .f64 r, .int .i64 k]) ∧ w = w') (w : World) : Calls Tryd.prog 68 #[.float .f64 z] w fun e w' => e = .returned (.tuple #[.float .f64 r, .int .i64 k]) ∧ w = w' := by
  have HH := Lib.hid H
  clear H
  go_enter Tryd.func68, Tryd.ntmps68
  go_wp2_with fail
  refine (HH.out _).mono ?_; rintro e1 w1 ⟨rfl, rfl⟩
  go_wp2
  go_ret2
  exact ⟨rfl, rfl⟩

/-! in amounts -/
/-- a number's 53 digits, the first of them 1 -/
def top53 (n : Nat) : Nat := if n.log2 ≤ 52 then n * 2 ^ (52 - n.log2) else n / 2 ^ (n.log2 - 52)
theorem top53_eq {n : Nat} (_h0 : n ≠ 0) {c k : Nat} (hc1 : 4503599627370496 ≤ c) (hc2 : c < 9007199254740992) (h : n = c * 2 ^ k) : top53 n = c ∧ n.log2 = 52 + k := by
  have hL : n.log2 = 52 + k := by
    rw [h, Fp.log2_mul_pow c k (by omega)]
    have : c.log2 = 52 := by
      rw [Nat.log2_eq_iff (by omega)]
      exact ⟨hc1, hc2⟩
    omega
  refine ⟨?_, hL⟩
  unfold top53
  rw [hL]
  by_cases h1 : k = 0
  · subst h1
    rw [if_pos (by omega), h]; simp
  · rw [if_neg (by omega), show 52 + k - 52 = k by omega, h, Nat.mul_div_cancel _ (Nat.two_pow_pos k)]
theorem top53_low {n : Nat} (h0 : n ≠ 0) (h : n < 9007199254740992) : 4503599627370496 ≤ top53 n ∧ top53 n < 9007199254740992 ∧ top53 n = n * 2 ^ (52 - n.log2) ∧ n.log2 ≤ 52 := by
  have hL : n.log2 < 53 := (Nat.log2_lt h0).2 h
  have h1 := Nat.log2_self_le h0
  have h2 := Nat.lt_log2_self (n := n)
  have e : top53 n = n * 2 ^ (52 - n.log2) := by unfold top53; rw [if_pos (by omega)]
  rw [e]
  have e1 : 2 ^ n.log2 * 2 ^ (52 - n.log2) = 4503599627370496 := by rw [← Nat.pow_add, show n.log2 + (52 - n.log2) = 52 by omega]
  have e2 : 2 ^ (n.log2 + 1) * 2 ^ (52 - n.log2) = 9007199254740992 := by rw [← Nat.pow_add, show n.log2 + 1 + (52 - n.log2) = 53 by omega]
  have hp := Nat.two_pow_pos (52 - n.log2)
  refine ⟨?_, ?_, rfl, by omega⟩
  · rw [← e1]; exact Nat.mul_le_mul_right _ h1
  · rw [← e2]; exact (Nat.mul_lt_mul_right hp).2 h2
/-- a normal rung, by its amount -/
theorem rung_high {r : Nat} (h : 4503599627370496 ≤ r) : Fp.mag Ieee.double r = (4503599627370496 + r % 4503599627370496) * 2 ^ (r / 4503599627370496 - 1) := by
  unfold Fp.mag
  rw [Fp.dB, if_neg (by omega)]
theorem high_top {r n : Nat} (h : 4503599627370496 ≤ r) (hm : Fp.mag Ieee.double r = n) : top53 n = 4503599627370496 + r % 4503599627370496 ∧ (n.log2 : Int) = (r / 4503599627370496 : Nat) + 51 ∧ n ≠ 0 := by
  have e := rung_high h
  rw [hm] at e
  have h0 : n ≠ 0 := by rw [e]; exact Nat.mul_ne_zero (by omega) (Nat.ne_of_gt (Nat.two_pow_pos _))
  obtain ⟨h1, h2⟩ := top53_eq h0 (by omega) (by omega) e
  exact ⟨h1, by omega, h0⟩
/-- the rung of a normal amount -/
theorem rung_of_top {n r : Nat} (hr : Fp.mag Ieee.double r = n) (c j : Nat) (hc1 : 4503599627370496 ≤ c) (hc2 : c < 9007199254740992) (h : n = c * 2 ^ j) : r = (j + 1) * 4503599627370496 + (c - 4503599627370496) := by
  have e : Fp.mag Ieee.double ((j + 1) * 4503599627370496 + (c - 4503599627370496)) = n := by
    rw [rung_high (by omega), h]
    have e1 : ((j + 1) * 4503599627370496 + (c - 4503599627370496)) % 4503599627370496 = c - 4503599627370496 := by omega
    have e2 : ((j + 1) * 4503599627370496 + (c - 4503599627370496)) / 4503599627370496 = j + 1 := by omega
    rw [e1, e2, show 4503599627370496 + (c - 4503599627370496) = c by omega, Nat.add_sub_cancel]
  exact (Fp.mag_inj Ieee.double).1 (hr.trans e.symm)
theorem mag_low {r : Nat} (h : r < 4503599627370496) : Fp.mag Ieee.double r = r := Fp.mag_lt Ieee.double r (by rw [Fp.dB]; exact h)
theorem low_of_mag {r n : Nat} (h : Fp.mag Ieee.double r = n) (hn : n < 4503599627370496) : r = n := by
  have := Fp.le_mag Ieee.double r
  rw [← h, mag_low (by omega)]

theorem is_pos {r n : Nat} (h : r < 9218868437227405312) (hm : Fp.mag Ieee.double r = n) : Fp.Is Ieee.double r false n := by
  have hr : Fp.rg Ieee.double r = r := by rw [Fp.rg64, Nat.mod_eq_of_lt (by omega)]
  refine ⟨Nat.lt_trans h (by decide), by rw [hr, Fp.dI]; exact h, ?_, by rw [hr, hm]⟩
  rw [Fp.sg64, Nat.div_eq_of_lt (by omega)]; rfl
theorem num_pos {n : Nat} : Fp.num Ieee.double false n = Fp.grid Ieee.double n 0 := rfl
theorem pos_rung {r n : Nat} (hm : Fp.mag Ieee.double r = n) : Fp.num Ieee.double false n = r := by
  rw [num_pos, ← hm, Fp.grid_of_mag Ieee.double Fp.dF]
theorem rep_lt {n : Nat} (h : Fp.Rep Ieee.double n) : Fp.num Ieee.double false n < 9218868437227405312 ∧ Fp.mag Ieee.double (Fp.num Ieee.double false n) = n := by
  obtain ⟨h1, h2⟩ := h
  rw [Fp.dI] at h1
  exact ⟨h1, h2⟩
theorem one_is : Fp.mag Ieee.double 4607182418800017408 = 2 ^ Fp.deep Ieee.double := by decide +kernel
theorem up_is : Fp.mag Ieee.double 4841369599423283200 = 2 ^ 52 * 2 ^ Fp.deep Ieee.double := by decide +kernel
theorem down_is : Fp.mag Ieee.double 4368491638549381120 * 2 ^ 53 = 2 ^ Fp.deep Ieee.double := by decide +kernel
theorem mul_pos {a b p r : Nat} (ha : a < 9218868437227405312) (hb : b < 9218868437227405312) (hr : r < 9218868437227405312) (hp : Fp.mag Ieee.double r = p) (h : Fp.mag Ieee.double a * Fp.mag Ieee.double b = p * 2 ^ Fp.deep Ieee.double) : Ieee.double.mul a b = some r := by
  have h1 := Fp.mul_is Ieee.double Fp.dL0 (is_pos ha rfl) (is_pos hb rfl) h (hp ▸ Fp.rep_mag Ieee.double Fp.dF (by rw [Fp.dI]; exact hr))
  rw [h1]
  exact congrArg some (pos_rung hp)
theorem one_mul {r : Nat} (h : r < 9218868437227405312) : Ieee.double.mul 4607182418800017408 r = some r :=
  mul_pos (by decide) h h rfl (by rw [one_is, Nat.mul_comm])

theorem frexp_is (r n : Nat) (h0 : 0 < r) (h : r < 9218868437227405312) (hm : Fp.mag Ieee.double r = n) (w : World) :
    Calls Tryd.prog 68 #[.float .f64 r] w fun e w' => e = .returned (.tuple #[.float .f64 (4598175219545276416 + top53 n), .int .i64 ((n.log2 : Int) - 1073)]) ∧ w = w' := by
  by_cases hh : 4503599627370496 ≤ r
  · obtain ⟨t1, t2, _⟩ := high_top hh hm
    have := m_frexp (fun w => m_frexp_high r hh h w) w
    rwa [show 4602678819172646912 + r % 4503599627370496 = 4598175219545276416 + top53 n by omega, show ((r / 4503599627370496 : Nat) : Int) - 1022 = (n.log2 : Int) - 1073 by omega] at this
  · have hrn : n = r := by rw [← hm]; exact mag_low (by omega)
    subst hrn
    obtain ⟨l1, l2, l3, l4⟩ := top53_low (n := n) (by omega) (by omega)
    have hrep : Fp.Rep Ieee.double (n * 2 ^ 52) := by
      refine Fp.rep_of Ieee.double n 52 rfl (Nat.lt_of_lt_of_le (Nat.lt_of_not_le hh) (by decide)) ?_
      rw [Fp.mag_infD]
      have e1 : n * 2 ^ 52 < 2 ^ 52 * 2 ^ 52 := Nat.mul_lt_mul_of_pos_right (Nat.lt_of_not_le hh) (by decide)
      have e2 : (2 : Nat) ^ 52 * 2 ^ 52 ≤ 2 ^ Fp.dtop := by rw [← Nat.pow_add]; exact Nat.pow_le_pow_right (by decide) (by unfold Fp.dtop; omega)
      omega
    obtain ⟨z1, z2⟩ := rep_lt hrep
    generalize Fp.num Ieee.double false (n * 2 ^ 52) = z at *
    have hmul : Ieee.double.mul n 4841369599423283200 = some z := mul_pos h (by decide) z1 z2 (by rw [hm, up_is, Nat.mul_assoc])
    have hz := rung_of_top z2 (top53 n) n.log2 l1 l2 (by rw [l3, Nat.mul_assoc, ← Nat.pow_add, show 52 - n.log2 + n.log2 = 52 by omega])
    have := m_frexp (fun w => m_frexp_low n z h0 (by omega) hmul z1 w) w
    rwa [show 4602678819172646912 + z % 4503599627370496 = 4598175219545276416 + top53 n by omega, show ((z / 4503599627370496 : Nat) : Int) - 1074 = (n.log2 : Int) - 1073 by omega] at this

/-- Ldexp where nothing is lost: n 2^k is n' -/
theorem ldexp_is (z n n' : Nat) (k : Int) (h : 4503599627370496 ≤ z) (hz : z < 9218868437227405312) (hm : Fp.mag Ieee.double z = n) (hn' : Fp.Rep Ieee.double n') (h0 : n' ≠ 0)
    (up : 0 ≤ k → n' = n * 2 ^ k.toNat) (down : k < 0 → n' * 2 ^ (-k).toNat = n) (w : World) : Calls Tryd.prog 71 #[.float .f64 z, .int .i64 k] w fun e w' => e = .returned (.float .f64 (Fp.num Ieee.double false n')) ∧ w = w' := by
  obtain ⟨t1, t2, t3⟩ := high_top h hm
  obtain ⟨r1, r2⟩ := rep_lt hn'
  generalize Fp.num Ieee.double false n' = r at *
  have hn := rung_high h
  rw [hm] at hn
  generalize hq : z / 4503599627370496 = q at *
  have hq0 : 1 ≤ q ∧ q ≤ 2046 := by omega
  obtain ⟨c, hc⟩ : ∃ c, 4503599627370496 + z % 4503599627370496 = c := ⟨_, rfl⟩
  rw [hc] at hn t1
  have hc1 : 4503599627370496 ≤ c ∧ c < 9007199254740992 := by omega
  have hl' : (n'.log2 : Int) = n.log2 + k := by
    by_cases hk : 0 ≤ k
    · rw [up hk, Fp.log2_mul_pow n _ t3]; omega
    · have e := down (by omega)
      have := Fp.log2_mul_pow n' (-k).toNat h0
      rw [e] at this; omega
  have key : ∀ j : Nat, (j : Int) = (q : Int) - 1 + k → n' = c * 2 ^ j := fun j hj => by
    by_cases hk : 0 ≤ k
    · rw [up hk, hn, Nat.mul_assoc, ← Nat.pow_add]; congr 2; omega
    · have e := down (by omega)
      rw [hn, show q - 1 = j + (-k).toNat by omega, Nat.pow_add, ← Nat.mul_assoc] at e
      exact Nat.eq_of_mul_eq_mul_right (Nat.two_pow_pos _) e
  by_cases hbig : 52 ≤ n'.log2
  · obtain ⟨j, hj⟩ : ∃ j : Nat, (j : Int) = (q : Int) - 1 + k := ⟨((q : Int) - 1 + k).toNat, by omega⟩
    have hr := rung_of_top r2 c j hc1.1 hc1.2 (key j hj)
    have H := m_ldexp (fun w => m_ldexp_norm z (j + 1) k h hz (by omega) (by omega) (by omega) (by rw [show z % 4503599627370496 = c - 4503599627370496 by omega, ← hr]; exact one_mul r1) w) w
    rwa [show z % 4503599627370496 = c - 4503599627370496 by omega, ← hr] at H
  · have hlow : n' < 4503599627370496 := by
      have h1 := Nat.lt_log2_self (n := n')
      have h2 : 2 ^ (n'.log2 + 1) ≤ 2 ^ 52 := Nat.pow_le_pow_right (by decide) (by omega)
      have h3 : (2 : Nat) ^ 52 = 4503599627370496 := rfl
      omega
    obtain ⟨j, hj⟩ : ∃ j : Nat, (j : Int) = (q : Int) + 52 + k := ⟨((q : Int) + 52 + k).toNat, by omega⟩
    have hy : Fp.mag Ieee.double ((j + 1) * 4503599627370496 + z % 4503599627370496) = c * 2 ^ j := by
      rw [rung_high (by omega)]
      have e1 : ((j + 1) * 4503599627370496 + z % 4503599627370496) % 4503599627370496 = z % 4503599627370496 := by omega
      have e2 : ((j + 1) * 4503599627370496 + z % 4503599627370496) / 4503599627370496 = j + 1 := by omega
      rw [e1, e2, hc, Nat.add_sub_cancel]
    have e3 : c * 2 ^ j = n' * 2 ^ 53 := by
      by_cases hk : 0 ≤ k
      · exfalso; rw [up hk, hn] at hlow
        have : 1 * 1 ≤ 2 ^ (q - 1) * 2 ^ k.toNat := Nat.mul_le_mul (Nat.two_pow_pos _) (Nat.two_pow_pos _)
        have h4 : c * 1 ≤ c * (2 ^ (q - 1) * 2 ^ k.toNat) := Nat.mul_le_mul_left _ (by omega)
        rw [← Nat.mul_assoc] at h4; omega
      · have e := down (by omega)
        have h5 : (c * 2 ^ j) * 2 ^ (q - 1) = n' * 2 ^ 53 * 2 ^ (q - 1) := by
          rw [Nat.mul_right_comm, ← hn, ← e, Nat.mul_assoc, Nat.mul_assoc, ← Nat.pow_add, ← Nat.pow_add]; congr 2; omega
        exact Nat.eq_of_mul_eq_mul_right (Nat.two_pow_pos _) h5
    have hmul : Ieee.double.mul 4368491638549381120 ((j + 1) * 4503599627370496 + z % 4503599627370496) = some r :=
      mul_pos (by decide) (by omega) r1 r2 (by rw [hy, e3, Nat.mul_comm, Nat.mul_assoc, Nat.mul_comm (2 ^ 53), down_is])
    exact m_ldexp (fun w => m_ldexp_sub z (j + 1) r k h hz (by omega) (by omega) (by omega) hmul w) w

end Go.Proofs.YtmpcnhiklpahnaaDoor
