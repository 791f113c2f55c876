/- Doubling and halving numbers exactly (no program in sight). -/
import Derived.Test.YthjaponkbodooaaDoorUlp
namespace Go.Proofs.YthjaponkbodooaaDoor

theorem pos_rg {r : Nat} (h : r < 9218868437227405312) : Fp.rg Ieee.double r = r ∧ Fp.sg Ieee.double r = false := by
  constructor
  · rw [Fp.rg64]; omega
  · rw [Fp.sg64, show r / 9223372036854775808 = 0 by omega]; rfl

theorem mag_two : Fp.mag Ieee.double 4611686018427387904 = 2 * 2 ^ Fp.deep Ieee.double := by decide +kernel

theorem scale_up {r r' : Nat} (h : r < 9218868437227405312) (h' : r' < 9218868437227405312) (hm : Fp.mag Ieee.double r' = 2 * Fp.mag Ieee.double r) : Ieee.double.mul r 4611686018427387904 = some r' := by
  have a := pos_rg h
  have b := pos_rg (r := 4611686018427387904) (by decide)
  rw [Fp.mul_fin Ieee.double Fp.dL0 _ _ (by rw [a.1, Fp.dI]; exact h) (by rw [b.1, Fp.dI]; decide), a.1, a.2, b.1, b.2, mag_two,
    show Fp.mag Ieee.double r * (2 * 2 ^ Fp.deep Ieee.double) = Fp.mag Ieee.double r' * 2 ^ Fp.deep Ieee.double by rw [hm, ← Nat.mul_assoc, Nat.mul_comm _ 2], Fp.grid_mag Ieee.double Fp.dF, Fp.dI]
  show some (min r' 9218868437227405312) = some r'
  rw [Nat.min_eq_left (Nat.le_of_lt h')]

/-- what a number below infinity reads as -/
theorem read_pos {r : Nat} (h : r < 9218868437227405312) : ∃ m i, Ieee.double.read r = .number false m i ∧ -1074 ≤ i ∧ m * 2 ^ (i + 1074).toNat = Fp.mag Ieee.double r ∧ m < 2 ^ 53 := by
  have a := pos_rg h
  obtain ⟨m, i, r1, l1, u1⟩ := Fp.read_fin Ieee.double r (by rw [a.1, Fp.dI]; exact h)
  rw [a.2] at r1
  rw [a.1, Fp.dL] at u1
  rw [Fp.dL] at l1
  refine ⟨m, i, r1, l1, by rw [← u1, Int.sub_neg], ?_⟩
  unfold Ieee.Format.read at r1
  have e1 : r % Ieee.double.signWeight = r := by rw [Fp.dS]; omega
  simp only [e1] at r1
  rw [Fp.dB, Fp.dI] at r1
  by_cases hb : r < 4503599627370496
  · rw [if_pos hb] at r1
    injection r1 with _ hm _
    rw [← hm]; show r < 9007199254740992; omega
  · rw [if_neg hb, if_pos h] at r1
    injection r1 with _ hm _
    rw [← hm]; show _ < 9007199254740992; omega

theorem read_two : Ieee.double.read 4611686018427387904 = .number false (2 ^ 52) (-51) := by decide +kernel

theorem scale_down {r r' : Nat} (h : r < 9218868437227405312) (h0 : r ≠ 0) (h' : r' < 9218868437227405312) (hm : Fp.mag Ieee.double r = 2 * Fp.mag Ieee.double r') : Ieee.double.div r 4611686018427387904 = some r' := by
  obtain ⟨m, i, r1, l1, u1, b1⟩ := read_pos h
  have hmag : r ≤ Fp.mag Ieee.double r := Fp.le_mag Ieee.double r
  have hm0 : m ≠ 0 := fun e => by rw [e, Nat.zero_mul] at u1; omega
  have hlog : m.log2 < 53 := (Nat.log2_lt hm0).2 b1
  unfold Ieee.Format.div
  rw [r1, read_two]
  obtain ⟨k, hk⟩ : ∃ k, 54 + 52 - m.log2 = 52 + k := ⟨54 - m.log2, by omega⟩
  have hq : Ieee.Datum.quotient (Ieee.double.fractionBits + 2) (.number false m i) (.number false (2 ^ 52) (-51)) = some (.number false (2 * (m * 2 ^ k)) (i - (-51) - ((52 + k : Nat) : Int) - 1)) := by
    unfold Ieee.Datum.quotient
    dsimp only
    rw [if_neg (by decide)]
    have e1 : Ieee.double.fractionBits + 2 + (2 ^ 52 : Nat).log2 - m.log2 = 52 + k := by rw [← hk]; rfl
    have e2 : m <<< (52 + k) = m * 2 ^ k * 2 ^ 52 := by rw [Nat.shiftLeft_eq, Nat.pow_add, Nat.mul_comm (2 ^ 52), Nat.mul_assoc]
    have e3 : m * 2 ^ k * 2 ^ 52 / 2 ^ 52 = m * 2 ^ k := Nat.mul_div_cancel _ (by decide)
    have e4 : m * 2 ^ k * 2 ^ 52 % 2 ^ 52 = 0 := Nat.mul_mod_left _ _
    simp only [e1, e2, e3, e4]
    rfl
  rw [hq]
  show some (Ieee.double.nearest false (2 * (m * 2 ^ k)) (i - (-51) - ((52 + k : Nat) : Int) - 1)) = some r'
  rw [Fp.nearest_deep Ieee.double false _ _ 200 (by rw [Fp.dL]; omega), Fp.dL]
  obtain ⟨j, hj⟩ : ∃ j : Nat, (i - (-51) - ((52 + k : Nat) : Int) - 1 - (-1074 - ((200 : Nat) : Int))).toNat = j ∧ k + j = (i + 1074).toNat + 198 := ⟨_, rfl, by omega⟩
  rw [hj.1]
  have e5 : 2 * (m * 2 ^ k) * 2 ^ j = Fp.mag Ieee.double r' * 2 ^ 200 := by
    have e6 : m * 2 ^ k * 2 ^ j = Fp.mag Ieee.double r * 2 ^ 198 := by rw [Nat.mul_assoc, ← Nat.pow_add, hj.2, Nat.pow_add, ← Nat.mul_assoc, u1]
    rw [Nat.mul_assoc, e6, hm]
    generalize Fp.mag Ieee.double r' = x
    have e7 : (2 : Nat) ^ 200 = 4 * 2 ^ 198 := by decide
    rw [e7]
    generalize (2 : Nat) ^ 198 = y
    rw [Nat.mul_assoc 2 x y, Nat.mul_left_comm x 4 y]
    generalize x * y = z
    omega
  rw [e5, Fp.grid_mag Ieee.double Fp.dF, Fp.dI]
  show some (min r' 9218868437227405312) = some r'
  rw [Nat.min_eq_left (Nat.le_of_lt h')]

end Go.Proofs.YthjaponkbodooaaDoor
