/- Rounding in package convert: 'drop' whole; 'round', way by way. -/
import Derived.Test.YtmpcnhiklpahnaaDoorCv1
namespace Go.Proofs.YtmpcnhiklpahnaaDoor
open Go.RowKit

/-- what is cut off is rounded away from 0 -/
def goes (m s : Nat) (neg : Bool) (mode : Int) : Bool :=
  if m % 2 ^ s = 0 then false
  else if mode = 0 then decide (2 ^ s < 2 * (m % 2 ^ s)) || (decide (2 ^ s = 2 * (m % 2 ^ s)) && decide (m / 2 ^ s % 2 = 1))
  else if mode = 1 then decide (2 ^ s ≤ 2 * (m % 2 ^ s))
  else if mode = 3 then !neg
  else if mode = 4 then neg
  else false
/-- m / 2^s, rounded -/
def cutQ (m s : Nat) (neg : Bool) (mode : Int) : Nat := m / 2 ^ s + (goes m s neg mode).toNat

theorem even_bit (q : Nat) (h : q ≤ 9223372036854775808) : bits .and .u64 (q : Int) 1 = ((q % 2 : Nat) : Int) := by
  have := u64_mask 1 (by decide) q (by omega)
  simpa using this
theorem half_pow (s : Nat) (h : 1 ≤ s) : 2 ^ s = 2 * 2 ^ (s - 1) := by
  obtain ⟨t, rfl⟩ : ∃ t, s = t + 1 := ⟨s - 1, by omega⟩
  rw [Nat.pow_succ, Nat.add_sub_cancel, Nat.mul_comm]

theorem drop_up (neg : Bool) (m k : Nat) (e mode : Int) (hk : k ≤ 63) (h : m * 2 ^ k < 18446744073709551616) (w : World) : Calls Tryd.prog 73 #[.agg #[.bool neg, .int .u64 m, .int .i64 e], .int .i64 (-(k : Int)), .int .i64 mode] w fun e' w' => e' = .returned (.tuple #[.int .u64 (m * 2 ^ k : Nat), .bool false]) ∧ Within w w' :=
  drop_left neg m k (m * 2 ^ k) e mode hk (by
    have e1 : (m : Int) * 2 ^ k = ((m * 2 ^ k : Nat) : Int) := by simp
    rw [e1, IntKind.wrap_u64]; omega) w

theorem drop_down (neg : Bool) (m s : Nat) (e mode : Int) (hm : m < 18446744073709551616) (h0 : m ≠ 0) (hs : 1 ≤ s) (hmode : 0 ≤ mode ∧ mode ≤ 4) (w : World) : Calls Tryd.prog 73 #[.agg #[.bool neg, .int .u64 m, .int .i64 e], .int .i64 (s : Int), .int .i64 mode] w fun e' w' => e' = .returned (.tuple #[.int .u64 (cutQ m s neg mode : Nat), .bool (decide (m % 2 ^ s ≠ 0))]) ∧ Within w w' := by
  have hmod : mode = 0 ∨ mode = 1 ∨ mode = 2 ∨ mode = 3 ∨ mode = 4 := by omega
  by_cases hfar : 64 < s
  · have hp : 18446744073709551616 * 2 ≤ 2 ^ s := by
      have : 2 ^ 65 ≤ 2 ^ s := Nat.pow_le_pow_right (by decide) (by omega)
      exact this
    have hr : m % 2 ^ s = m := Nat.mod_eq_of_lt (by omega)
    have hq : m / 2 ^ s = 0 := Nat.div_eq_of_lt (by omega)
    have hz : ((m : Int) == 0) = false := by rw [beq_eq_false_iff_ne]; omega
    unfold cutQ goes
    rw [hr, hq, if_neg h0, decide_eq_true h0]
    rcases hmod with rfl | rfl | rfl | rfl | rfl
    · rw [if_pos rfl, decide_eq_false (show ¬ 2 ^ s < 2 * m by omega), decide_eq_false (show ¬ 2 ^ s = 2 * m by omega)]
      exact drop_far_0 neg m s e (by omega) hz w
    · rw [if_neg (by decide), if_pos rfl, decide_eq_false (show ¬ 2 ^ s ≤ 2 * m by omega)]
      exact drop_far_1 neg m s e (by omega) hz w
    · exact drop_far_2 neg m s e (by omega) hz w
    · cases neg
      · exact drop_far_3p m s e (by omega) hz w
      · exact drop_far_3n m s e (by omega) hz w
    · cases neg
      · exact drop_far_4p m s e (by omega) hz w
      · exact drop_far_4n m s e (by omega) hz w
  have hp0 := Nat.two_pow_pos s
  have hdm := Nat.div_add_mod m (2 ^ s)
  have hrl := Nat.mod_lt m hp0
  have hhp := half_pow s hs
  have hq : m / 2 ^ s ≤ 9223372036854775808 := by
    have : 2 ≤ 2 ^ s := by have := Nat.pow_le_pow_right (n := 2) (by decide) hs; omega
    have h1 : m / 2 ^ s * 2 ≤ m / 2 ^ s * 2 ^ s := Nat.mul_le_mul_left _ this
    have h2 : m / 2 ^ s * 2 ^ s ≤ m := Nat.div_mul_le_self _ _
    omega
  have hms : 2 ^ (s - 1) ≤ 9223372036854775808 := Nat.pow_le_pow_right (n := 2) (by decide) (show s - 1 ≤ 63 by omega)
  have sh1 : (m : Int) / 2 ^ s = ((m / 2 ^ s : Nat) : Int) := by simp
  have hpq : m / 2 ^ s * 2 ^ s ≤ m := Nat.div_mul_le_self _ _
  have sh2 : IntKind.u64.wrap (((m / 2 ^ s : Nat) : Int) * 2 ^ s) = ((m / 2 ^ s * 2 ^ s : Nat) : Int) := by
    have e1 : ((m / 2 ^ s : Nat) : Int) * 2 ^ s = ((m / 2 ^ s * 2 ^ s : Nat) : Int) := by simp
    rw [e1, IntKind.wrap_u64]; omega
  have sh3 : IntKind.u64.wrap (2 ^ (s - 1)) = ((2 ^ (s - 1) : Nat) : Int) := by
    have e1 : (2 : Int) ^ (s - 1) = ((2 ^ (s - 1) : Nat) : Int) := by simp
    rw [e1, IntKind.wrap_u64]; omega
  have hr : (m : Int) - ((m / 2 ^ s * 2 ^ s : Nat) : Int) = ((m % 2 ^ s : Nat) : Int) := by
    have hdm' : m / 2 ^ s * 2 ^ s + m % 2 ^ s = m := by rw [Nat.mul_comm]; exact hdm
    clear sh1 sh2 sh3 hdm hhp hms
    generalize m / 2 ^ s * 2 ^ s = z at *
    generalize m % 2 ^ s = y at *
    omega
  have hpar := even_bit _ hq
  unfold cutQ goes
  have hmid := Nat.two_pow_pos (s - 1)
  rw [hhp] at *
  generalize 2 ^ (s - 1) = mid at *
  generalize m / (2 * mid) * (2 * mid) = p at *
  generalize m / (2 * mid) = q at *
  generalize m % (2 * mid) = r at *
  clear hdm hpq
  by_cases hr0 : r = 0
  · rw [if_pos hr0, decide_eq_false (by omega)]
    exact drop_none neg m s (s - 1) q _ p mid r e rfl hs (by omega) (by omega) hm hq sh1 sh2 sh3 hr mode hr0 hmid w
  have hz : ((r : Int) == 0) = false := by rw [beq_eq_false_iff_ne]; omega
  rw [if_neg hr0, decide_eq_true hr0]
  rcases Nat.lt_trichotomy r mid with hc | hc | hc
  · rcases hmod with rfl | rfl | rfl | rfl | rfl
    · rw [if_pos rfl, decide_eq_false (show ¬ 2 * mid < 2 * r by omega), decide_eq_false (show ¬ 2 * mid = 2 * r by omega)]
      exact drop_lt_0 neg m s (s - 1) q _ p mid r e rfl hs (by omega) (by omega) hm hq sh1 sh2 sh3 hr hc hz w
    · rw [if_neg (by decide), if_pos rfl, decide_eq_false (show ¬ 2 * mid ≤ 2 * r by omega)]
      exact drop_lt_1 neg m s (s - 1) q _ p mid r e rfl hs (by omega) (by omega) hm hq sh1 sh2 sh3 hr hc hz w
    · exact drop_lt_2 neg m s (s - 1) q _ p mid r e rfl hs (by omega) (by omega) hm hq sh1 sh2 sh3 hr hc hz w
    · cases neg
      · exact drop_lt_3p m s (s - 1) q _ p mid r e rfl hs (by omega) (by omega) hm hq sh1 sh2 sh3 hr hc hz w
      · exact drop_lt_3n m s (s - 1) q _ p mid r e rfl hs (by omega) (by omega) hm hq sh1 sh2 sh3 hr hc hz w
    · cases neg
      · exact drop_lt_4p m s (s - 1) q _ p mid r e rfl hs (by omega) (by omega) hm hq sh1 sh2 sh3 hr hc hz w
      · exact drop_lt_4n m s (s - 1) q _ p mid r e rfl hs (by omega) (by omega) hm hq sh1 sh2 sh3 hr hc hz w
  · rcases hmod with rfl | rfl | rfl | rfl | rfl
    · rw [if_pos rfl, decide_eq_false (show ¬ 2 * mid < 2 * r by omega), decide_eq_true (show 2 * mid = 2 * r by omega)]
      rcases Nat.mod_two_eq_zero_or_one q with hq2 | hq2
      · rw [hq2] at hpar ⊢
        exact drop_eq_0e neg m s (s - 1) q _ p mid r e rfl hs (by omega) (by omega) hm hq sh1 sh2 sh3 hr hc.symm hz hpar w
      · rw [hq2] at hpar ⊢
        exact drop_eq_0o neg m s (s - 1) q _ p mid r e rfl hs (by omega) (by omega) hm hq sh1 sh2 sh3 hr hc.symm hz hpar w
    · rw [if_neg (by decide), if_pos rfl, decide_eq_true (show 2 * mid ≤ 2 * r by omega)]
      exact drop_eq_1 neg m s (s - 1) q _ p mid r e rfl hs (by omega) (by omega) hm hq sh1 sh2 sh3 hr hc.symm hz w
    · exact drop_eq_2 neg m s (s - 1) q _ p mid r e rfl hs (by omega) (by omega) hm hq sh1 sh2 sh3 hr hc.symm hz w
    · cases neg
      · exact drop_eq_3p m s (s - 1) q _ p mid r e rfl hs (by omega) (by omega) hm hq sh1 sh2 sh3 hr hc.symm hz w
      · exact drop_eq_3n m s (s - 1) q _ p mid r e rfl hs (by omega) (by omega) hm hq sh1 sh2 sh3 hr hc.symm hz w
    · cases neg
      · exact drop_eq_4p m s (s - 1) q _ p mid r e rfl hs (by omega) (by omega) hm hq sh1 sh2 sh3 hr hc.symm hz w
      · exact drop_eq_4n m s (s - 1) q _ p mid r e rfl hs (by omega) (by omega) hm hq sh1 sh2 sh3 hr hc.symm hz w
  · rcases hmod with rfl | rfl | rfl | rfl | rfl
    · rw [if_pos rfl, decide_eq_true (show 2 * mid < 2 * r by omega)]
      exact drop_gt_0 neg m s (s - 1) q _ p mid r e rfl hs (by omega) (by omega) hm hq sh1 sh2 sh3 hr hc hz w
    · rw [if_neg (by decide), if_pos rfl, decide_eq_true (show 2 * mid ≤ 2 * r by omega)]
      exact drop_gt_1 neg m s (s - 1) q _ p mid r e rfl hs (by omega) (by omega) hm hq sh1 sh2 sh3 hr hc hz w
    · exact drop_gt_2 neg m s (s - 1) q _ p mid r e rfl hs (by omega) (by omega) hm hq sh1 sh2 sh3 hr hc hz w
    · cases neg
      · exact drop_gt_3p m s (s - 1) q _ p mid r e rfl hs (by omega) (by omega) hm hq sh1 sh2 sh3 hr hc hz w
      · exact drop_gt_3n m s (s - 1) q _ p mid r e rfl hs (by omega) (by omega) hm hq sh1 sh2 sh3 hr hc hz w
    · cases neg
      · exact drop_gt_4p m s (s - 1) q _ p mid r e rfl hs (by omega) (by omega) hm hq sh1 sh2 sh3 hr hc hz w
      · exact drop_gt_4n m s (s - 1) q _ p mid r e rfl hs (by omega) (by omega) hm hq sh1 sh2 sh3 hr hc hz w

theorem neg_pos {a : Nat} (ha : a < 9223372036854775808) : Go.Op.negFloat .f64 a = a + 9223372036854775808 := by
  show a ^^^ 2 ^ 63 = _
  have := Nat.two_pow_add_eq_or_of_lt (i := 63) (b := a) ha 1
  rw [Nat.mul_one] at this
  rw [show a + 9223372036854775808 = 2 ^ 63 + a by omega, this, Nat.xor_comm]
  apply Nat.eq_of_testBit_eq
  intro i
  rw [Nat.testBit_xor, Nat.testBit_or, Nat.testBit_two_pow]
  by_cases hi : 63 = i
  · subst hi
    rw [Nat.testBit_lt_two_pow ha]; simp
  · simp [hi]
@[go_sem] theorem mx_neg64 (P : Program) (w : World) (a : Nat) : (Op.unary UnOp.neg (Value.float .f64 a)).run P w = .ok (.float .f64 (Go.Op.negFloat .f64 a)) w := rfl

set_option maxRecDepth 100000 in
set_option maxHeartbeats 600000 in
theorem signed_true (a : Nat) (ha : a < 9223372036854775808) (w : World) : Calls Tryd.prog 74 #[.float .f64 a, .bool true] w fun e w' => e = .returned (.float .f64 (a + 9223372036854775808)) ∧ w = w' := by
  have h := neg_pos ha
  generalize a + 9223372036854775808 = s at *
  clear ha
  go_enter Tryd.func74, Tryd.ntmps74
  go_wp2
  go_ret
  exact ⟨rfl, rfl⟩

set_option maxRecDepth 100000 in
set_option maxHeartbeats 600000 in
theorem signed_false (a : Nat) (w : World) : Calls Tryd.prog 74 #[.float .f64 a, .bool false] w fun e w' => e = .returned (.float .f64 (a)) ∧ w = w' := by
  go_enter Tryd.func74, Tryd.ntmps74
  go_wp2
  go_ret
  exact ⟨rfl, rfl⟩

end Go.Proofs.YtmpcnhiklpahnaaDoor
