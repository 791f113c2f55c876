/- Signs turned: words, products, quotients, roundings. -/
import Derived.Test.YtifgngmebnjfkaaDoorCv16
namespace Go.Proofs.YtifgngmebnjfkaaDoor
open Go.RowKit

/-- a double, its sign turned -/
def tuD (a : Nat) : Nat := if a < 9223372036854775808 then a + 9223372036854775808 else a - 9223372036854775808
def tuS (a : Nat) : Nat := if a < 2147483648 then a + 2147483648 else a - 2147483648
theorem tuD_lt {a : Nat} (h : a < 18446744073709551616) : tuD a < 18446744073709551616 := by unfold tuD; split <;> omega
theorem tuS_lt {a : Nat} (h : a < 4294967296) : tuS a < 4294967296 := by unfold tuS; split <;> omega
theorem tuD_mod {a : Nat} (h : a < 18446744073709551616) : tuD a % 9223372036854775808 = a % 9223372036854775808 := by unfold tuD; split <;> omega
theorem tuS_mod {a : Nat} (h : a < 4294967296) : tuS a % 2147483648 = a % 2147483648 := by unfold tuS; split <;> omega
theorem tuD_tuD {a : Nat} (h : a < 18446744073709551616) : tuD (tuD a) = a := by unfold tuD; split <;> split <;> omega
theorem tuS_tuS {a : Nat} (h : a < 4294967296) : tuS (tuS a) = a := by unfold tuS; split <;> split <;> omega
theorem tuD_ng {a : Nat} (h : a < 18446744073709551616) : ngD (tuD a) = !ngD a := by
  unfold ngD tuD
  split
  · rw [decide_eq_true (by omega), decide_eq_false (by omega)]; rfl
  · rw [decide_eq_false (by omega), decide_eq_true (by omega)]; rfl
theorem tuS_ng {a : Nat} (h : a < 4294967296) : ngS (tuS a) = !ngS a := by
  unfold ngS tuS
  split
  · rw [decide_eq_true (by omega), decide_eq_false (by omega)]; rfl
  · rw [decide_eq_false (by omega), decide_eq_true (by omega)]; rfl
theorem tuS_N {a : Nat} (h : a < 4294967296) : isN (tuS a) = isN a := by unfold isN; rw [tuS_mod h]
theorem tuS_I {a : Nat} (h : a < 4294967296) : isI (tuS a) = isI a := by unfold isI; rw [tuS_mod h]
theorem neg_tuD {a : Nat} (ha : a < 18446744073709551616) : Go.Op.negFloat .f64 a = tuD a := by
  unfold tuD
  by_cases h : a < 9223372036854775808
  · rw [if_pos h]; exact neg_pos h
  · rw [if_neg h]
    have g := neg_pos (a := a - 9223372036854775808) (by omega)
    rw [show a - 9223372036854775808 + 9223372036854775808 = a by omega] at g
    have g' : (a - 9223372036854775808) ^^^ 2 ^ 63 = a := g
    show a ^^^ 2 ^ 63 = _
    rw [← g', Nat.xor_assoc, Nat.xor_self, Nat.xor_zero, g']
theorem negS_pos {a : Nat} (ha : a < 2147483648) : a ^^^ 2 ^ 31 = a + 2147483648 := by
  have := Nat.two_pow_add_eq_or_of_lt (i := 31) (b := a) ha 1
  rw [Nat.mul_one] at this
  rw [show a + 2147483648 = 2 ^ 31 + a by omega, this, Nat.xor_comm]
  apply Nat.eq_of_testBit_eq
  intro i
  rw [Nat.testBit_xor, Nat.testBit_or, Nat.testBit_two_pow]
  by_cases hi : 31 = i
  · subst hi
    rw [Nat.testBit_lt_two_pow ha]; simp
  · simp [hi]
theorem xor_tuS {a : Nat} (ha : a < 4294967296) : a ^^^ 2 ^ 31 = tuS a := by
  unfold tuS
  by_cases h : a < 2147483648
  · rw [if_pos h]; exact negS_pos h
  · rw [if_neg h]
    have g := negS_pos (a := a - 2147483648) (by omega)
    rw [show a - 2147483648 + 2147483648 = a by omega] at g
    conv => lhs; rw [← g]
    rw [Nat.xor_assoc, Nat.xor_self, Nat.xor_zero]
theorem neg_tuS {a : Nat} (ha : a < 4294967296) : Go.Op.negFloat .f32 a = tuS a := xor_tuS ha

/-! data -/
theorem read_tuD {a : Nat} (h : a < 18446744073709551616) : Ieee.double.read (tuD a) = (Ieee.double.read a).opposite := by
  have e1 : (tuD a / 9223372036854775808 % 2 == 1) = !(a / 9223372036854775808 % 2 == 1) := by
    unfold tuD
    split
    · rw [show (a + 9223372036854775808) / 9223372036854775808 = 1 by omega, show a / 9223372036854775808 = 0 by omega]; rfl
    · rw [show (a - 9223372036854775808) / 9223372036854775808 = 0 by omega, show a / 9223372036854775808 = 1 by omega]; rfl
  unfold Ieee.Format.read
  simp only [Fp.dS, Fp.dB, Fp.dI, e1, tuD_mod h]
  split
  · rfl
  split
  · rfl
  split <;> rfl
theorem near_any (f : Ieee.Format) (m : Nat) (p : Int) : ∃ R, R ≤ f.infRung ∧ ∀ s, f.nearest s m p = f.word s R := by
  unfold Ieee.Format.nearest
  by_cases h : m = 0
  · exact ⟨0, Nat.zero_le _, fun s => by rw [if_pos h]⟩
  · refine ⟨min ((max (p + m.log2 - f.fractionBits) f.leastPlace - f.leastPlace).toNat * f.binade + Ieee.Toward.even.cut false (m <<< (p - max (p + m.log2 - f.fractionBits) f.leastPlace).toNat) (max (p + m.log2 - f.fractionBits) f.leastPlace - p).toNat) f.infRung, Nat.min_le_right _ _, fun s => ?_⟩
    rw [if_neg h]
    cases s <;> rfl
theorem near_split (m : Nat) (p : Int) : ∃ R, R ≤ 9218868437227405312 ∧ ∀ s, Ieee.double.nearest s m p = Ieee.double.word s R := by
  rw [← Fp.dI]; exact near_any _ m p
theorem word_tuD (s : Bool) {R : Nat} (h : R < 9223372036854775808) : Ieee.double.word (!s) R = tuD (Ieee.double.word s R) := by
  unfold Ieee.Format.word tuD
  rw [Fp.dS]
  cases s <;> simp only [Bool.not_false, Bool.not_true, if_true, Bool.false_eq_true, if_false]
  · rw [if_pos h]; omega
  · rw [if_neg (by omega)]; omega
theorem write_opp {d : Ieee.Datum} (h : d.isNaN = false) : Ieee.double.write d.opposite = tuD (Ieee.double.write d) := by
  cases d with
  | number s m p =>
    obtain ⟨R, h1, h2⟩ := near_split m p
    show Ieee.double.nearest (!s) m p = tuD (Ieee.double.nearest s m p)
    rw [h2, h2, word_tuD s (by omega)]
  | infinity s => cases s <;> decide +kernel
  | nan s t => cases h
theorem write_good {d : Ieee.Datum} (h : d.isNaN = false) : Ieee.double.write d < 18446744073709551616 ∧ Ieee.double.write d % 9223372036854775808 ≤ 9218868437227405312 := by
  cases d with
  | number s m p =>
    obtain ⟨R, h1, h2⟩ := near_split m p
    show Ieee.double.nearest s m p < _ ∧ Ieee.double.nearest s m p % _ ≤ _
    rw [h2]
    unfold Ieee.Format.word
    rw [Fp.dS]
    split <;> omega
  | infinity s => cases s <;> decide +kernel
  | nan s t => cases h
theorem opp_opp (d : Ieee.Datum) : d.opposite.opposite = d := by cases d <;> simp [Ieee.Datum.opposite]
theorem xor_l (s t : Bool) : (!s ^^ t) = !(s ^^ t) := by cases s <;> cases t <;> rfl
theorem xor_r (s t : Bool) : (s ^^ !t) = !(s ^^ t) := by cases s <;> cases t <;> rfl
theorem prod_l (d e : Ieee.Datum) : d.opposite.product e = (d.product e).map Ieee.Datum.opposite := by
  cases d <;> cases e <;> simp only [Ieee.Datum.opposite, Ieee.Datum.product, Option.map_none, Option.map_some, xor_l]
  all_goals split <;> simp [Ieee.Datum.opposite]
theorem prod_r (d e : Ieee.Datum) : d.product e.opposite = (d.product e).map Ieee.Datum.opposite := by
  cases d <;> cases e <;> simp only [Ieee.Datum.opposite, Ieee.Datum.product, Option.map_none, Option.map_some, xor_r]
  all_goals split <;> simp [Ieee.Datum.opposite]
theorem quot_r (n : Nat) (d e : Ieee.Datum) : d.quotient n e.opposite = (d.quotient n e).map Ieee.Datum.opposite := by
  cases d <;> cases e <;> simp only [Ieee.Datum.opposite, Ieee.Datum.quotient, Option.map_none, Option.map_some, xor_r]
  split
  · split <;> simp [Ieee.Datum.opposite]
  · simp [Ieee.Datum.opposite]
theorem prod_nn {d e r : Ieee.Datum} (h : d.product e = some r) : r.isNaN = false := by
  cases d <;> cases e <;> simp only [Ieee.Datum.product] at h
  all_goals first | (cases h; done) | (obtain rfl := Option.some.inj h; rfl) | (split at h <;> first | (cases h; done) | (obtain rfl := Option.some.inj h; rfl))
theorem quot_nn {n : Nat} {d e r : Ieee.Datum} (h : d.quotient n e = some r) : r.isNaN = false := by
  cases d <;> cases e <;> simp only [Ieee.Datum.quotient] at h
  all_goals first | (cases h; done) | (obtain rfl := Option.some.inj h; rfl) | skip
  split at h
  · split at h
    · cases h
    · obtain rfl := Option.some.inj h; rfl
  · obtain rfl := Option.some.inj h; rfl
theorem sum_nn {d e r : Ieee.Datum} (h : d.sum e = some r) : r.isNaN = false := by
  cases d <;> cases e <;> simp only [Ieee.Datum.sum] at h
  all_goals first | (cases h; done) | (obtain rfl := Option.some.inj h; rfl) | (split at h <;> first | (cases h; done) | (obtain rfl := Option.some.inj h; rfl))
theorem map_opp {o : Option Ieee.Datum} (h : ∀ r, o = some r → r.isNaN = false) : (o.map Ieee.Datum.opposite).map Ieee.double.write = (o.map Ieee.double.write).map tuD := by
  cases o with
  | none => rfl
  | some r => exact congrArg some (write_opp (h r rfl))
theorem mul_tu {a : Nat} (b : Nat) (h : a < 18446744073709551616) : Ieee.double.mul (tuD a) b = (Ieee.double.mul a b).map tuD := by
  unfold Ieee.Format.mul
  rw [read_tuD h, prod_l]; exact map_opp fun r => prod_nn
theorem div_tu (a : Nat) {b : Nat} (h : b < 18446744073709551616) : Ieee.double.div a (tuD b) = (Ieee.double.div a b).map tuD := by
  unfold Ieee.Format.div
  rw [read_tuD h, quot_r]; exact map_opp fun r => quot_nn
theorem fma_tu {a b : Nat} (c : Nat) (ha : a < 18446744073709551616) (hb : b < 18446744073709551616) : Ieee.double.fma (tuD a) b c = Ieee.double.fma a (tuD b) c := by
  unfold Ieee.Format.fma
  rw [read_tuD ha, read_tuD hb, prod_l, prod_r]
theorem mul_good {a b p : Nat} (h : Ieee.double.mul a b = some p) : p < 18446744073709551616 ∧ p % 9223372036854775808 ≤ 9218868437227405312 := by
  unfold Ieee.Format.mul at h
  obtain ⟨r, h1, rfl⟩ := Option.map_eq_some_iff.1 h
  exact write_good (prod_nn h1)
theorem div_good {a b p : Nat} (h : Ieee.double.div a b = some p) : p < 18446744073709551616 ∧ p % 9223372036854775808 ≤ 9218868437227405312 := by
  unfold Ieee.Format.div at h
  obtain ⟨r, h1, rfl⟩ := Option.map_eq_some_iff.1 h
  exact write_good (quot_nn h1)
theorem fma_good {a b c p : Nat} (h : Ieee.double.fma a b c = some p) : p < 18446744073709551616 ∧ p % 9223372036854775808 ≤ 9218868437227405312 := by
  unfold Ieee.Format.fma at h
  obtain ⟨r, h1, rfl⟩ := Option.map_eq_some_iff.1 h
  obtain ⟨s, _, h2⟩ := Option.bind_eq_some_iff.1 h1
  exact write_good (sum_nn h2)

/-! the mode of the other side -/
def tm (mode : Int) : Int := if mode = 3 then 4 else if mode = 4 then 3 else mode
theorem tm_ok {mode : Int} (h : 0 ≤ mode ∧ mode ≤ 4) : 0 ≤ tm mode ∧ tm mode ≤ 4 := by unfold tm; split <;> (try split) <;> omega
theorem goes_tu (m s : Nat) (neg : Bool) (mode : Int) : goes m s (!neg) (tm mode) = goes m s neg mode := by
  unfold goes tm
  by_cases h3 : mode = 3
  · subst h3; simp
  by_cases h4 : mode = 4
  · subst h4; simp
  · simp [h3, h4]
theorem cutQ_tu (m s : Nat) (neg : Bool) (mode : Int) : cutQ m s (!neg) (tm mode) = cutQ m s neg mode := by unfold cutQ; rw [goes_tu]
theorem rQ_tu (D lo : Int) (neg : Bool) (m : Nat) (e mode : Int) : rQ D lo (!neg) m e (tm mode) = rQ D lo neg m e mode := by unfold rQ; rw [cutQ_tu]
theorem rOver_tu (D lo most : Int) (neg : Bool) (m : Nat) (e mode : Int) : rOver D lo most (!neg) m e (tm mode) = rOver D lo most neg m e mode := by unfold rOver; rw [rQ_tu]
theorem rTop_tu (neg : Bool) (mode : Int) : rTop (!neg) (tm mode) = rTop neg mode := by
  unfold rTop tm
  by_cases h3 : mode = 3
  · subst h3; cases neg <;> decide
  by_cases h4 : mode = 4
  · subst h4; cases neg <;> decide
  · rw [if_neg h3, if_neg h4, decide_eq_false h3, decide_eq_false h4]; simp
theorem rFlags_tu (D lo most : Int) (neg : Bool) (m : Nat) (e mode : Int) : rFlags D lo most (!neg) m e (tm mode) = rFlags D lo most neg m e mode := by unfold rFlags; rw [rOver_tu]
theorem sgnS_tu (b : Bool) {n : Nat} (h : n < 2147483648) : n + sgnS (!b) = tuS (n + sgnS b) := by
  unfold sgnS tuS
  cases b <;> simp only [Bool.not_false, Bool.not_true, if_true, Bool.false_eq_true, if_false]
  · rw [if_pos (by omega)]
  · rw [if_neg (by omega)]; omega
end Go.Proofs.YtifgngmebnjfkaaDoor
