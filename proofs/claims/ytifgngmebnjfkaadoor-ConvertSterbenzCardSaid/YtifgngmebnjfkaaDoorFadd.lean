/- Sums and differences of numbers, in units: rounded once; signs turn with them (no program in sight). -/
import Derived.Test.YtifgngmebnjfkaaDoorCvp4
namespace Go.Proofs.YtifgngmebnjfkaaDoor

/-- a finite number -/
def Fi (x : Nat) : Prop := x < 18446744073709551616 ∧ x % 9223372036854775808 < 9218868437227405312
/-- a whole number of units, rounded to a number -/
def rn (z : Int) : Int := if z < 0 then -((Fp.mag Ieee.double (Fp.grid Ieee.double z.natAbs 0) : Nat) : Int) else ((Fp.mag Ieee.double (Fp.grid Ieee.double z.natAbs 0) : Nat) : Int)
theorem rn_zero : rn 0 = 0 := by unfold rn; rw [if_neg (by decide), Int.natAbs_zero, Fp.grid_zero, Fp.mag_zero]; rfl
theorem rn_neg (z : Int) : rn (-z) = -rn z := by
  by_cases h0 : z = 0
  · subst h0; rw [Int.neg_zero, rn_zero]; rfl
  · unfold rn
    rw [Int.natAbs_neg]
    by_cases h : z < 0
    · rw [if_neg (by omega), if_pos h, Int.neg_neg]
    · rw [if_pos (by omega), if_neg h]
theorem rn_le {z : Int} {k : Nat} (hk : k < 2098) (h : z.natAbs ≤ 2 ^ k) : (rn z).natAbs ≤ 2 ^ k := by
  have hR : Fp.Rep Ieee.double (2 ^ k) := by
    refine Fp.rep_of Ieee.double 1 k (Nat.one_mul _).symm (by decide) ?_
    rw [Fp.mag_infD]
    exact Nat.pow_lt_pow_right (by decide) (by unfold Fp.dtop; omega)
  have hg := Fp.mag_mono Ieee.double (Fp.grid_mono Ieee.double Fp.dF 0 h)
  rw [hR.2] at hg
  unfold rn
  generalize Fp.mag Ieee.double (Fp.grid Ieee.double z.natAbs 0) = g at *
  split <;> omega
/-- the greatest amount that is asked here (a name: see Fp.sgap) -/
def flim : Nat := 2000
theorem flim_lt : flim < 2098 := by decide

theorem word_fi (b : Bool) {r : Nat} (h : r < 9218868437227405312) : Fi (Ieee.double.word b r) ∧ Fp.un Ieee.double (Ieee.double.word b r) = if b then -((Fp.mag Ieee.double r : Nat) : Int) else ((Fp.mag Ieee.double r : Nat) : Int) := by
  have hs : r < Ieee.double.signWeight := by rw [Fp.dS]; omega
  have h1 := Fp.rg_word Ieee.double b r hs
  have h2 := Fp.sg_word Ieee.double b r hs
  refine ⟨⟨?_, ?_⟩, ?_⟩
  · unfold Ieee.Format.word; rw [Fp.dS]; split <;> omega
  · rw [← Fp.rg64, h1]; exact h
  · unfold Fp.un; rw [h1, h2]
theorem Fi.rg {x : Nat} (h : Fi x) : Fp.rg Ieee.double x < Ieee.double.infRung := by rw [Fp.rg64, Fp.dI]; exact h.2
theorem Fi.le {x : Nat} (h : Fi x) : x % 9223372036854775808 ≤ 9218868437227405312 := Nat.le_of_lt h.2
theorem rung_small {z : Int} (h : z.natAbs ≤ 2 ^ flim) : Fp.rung Ieee.double z.natAbs = Fp.grid Ieee.double z.natAbs 0 ∧ Fp.grid Ieee.double z.natAbs 0 < 9218868437227405312 := by
  have hR : Fp.Rep Ieee.double (2 ^ flim) := by
    refine Fp.rep_of Ieee.double 1 flim (Nat.one_mul _).symm (by decide) ?_
    rw [Fp.mag_infD]
    exact Nat.pow_lt_pow_right (by decide) (by unfold Fp.dtop flim; omega)
  have hg := Fp.grid_mono Ieee.double Fp.dF 0 h
  have h1 := hR.1
  rw [Fp.dI] at h1
  unfold Fp.rung
  rw [Fp.dI]
  omega
theorem add_ok {x y : Nat} (hx : Fi x) (hy : Fi y) (hb : (Fp.un Ieee.double x + Fp.un Ieee.double y).natAbs ≤ 2 ^ flim) :
    ∃ r, Ieee.double.add x y = some r ∧ Fi r ∧ Fp.un Ieee.double r = rn (Fp.un Ieee.double x + Fp.un Ieee.double y) := by
  obtain ⟨r1, r2⟩ := rung_small hb
  have h := Fp.add_fin Ieee.double x y hx.rg hy.rg
  rw [r1] at h
  refine ⟨_, h, (word_fi _ r2).1, ?_⟩
  rw [(word_fi _ r2).2]
  unfold rn
  generalize hz : Fp.un Ieee.double x + Fp.un Ieee.double y = z at *
  by_cases h0 : z = 0
  · rw [if_pos h0, h0, Int.natAbs_zero, Fp.grid_zero, Fp.mag_zero]
    split <;> rfl
  · rw [if_neg h0]
    by_cases hn : z < 0
    · rw [decide_eq_true hn, if_pos rfl, if_pos hn]
    · rw [decide_eq_false hn, if_neg Bool.false_ne_true, if_neg hn]
theorem sub_ok {x y : Nat} (hx : Fi x) (hy : Fi y) (hb : (Fp.un Ieee.double x - Fp.un Ieee.double y).natAbs ≤ 2 ^ flim) :
    ∃ r, Ieee.double.sub x y = some r ∧ Fi r ∧ Fp.un Ieee.double r = rn (Fp.un Ieee.double x - Fp.un Ieee.double y) := by
  obtain ⟨r1, r2⟩ := rung_small hb
  have h := Fp.sub_fin Ieee.double x y hx.rg hy.rg
  rw [r1] at h
  refine ⟨_, h, (word_fi _ r2).1, ?_⟩
  rw [(word_fi _ r2).2]
  unfold rn
  generalize hz : Fp.un Ieee.double x - Fp.un Ieee.double y = z at *
  by_cases h0 : z = 0
  · rw [if_pos h0, h0, Int.natAbs_zero, Fp.grid_zero, Fp.mag_zero]
    split <;> rfl
  · rw [if_neg h0]
    by_cases hn : z < 0
    · rw [decide_eq_true hn, if_pos rfl, if_pos hn]
    · rw [decide_eq_false hn, if_neg Bool.false_ne_true, if_neg hn]

/-! the steps of a sum -/
def sumS (A B : Int) : Int := rn (A + B)
def sumT (A B : Int) : Int := rn (sumS A B - A)
def sumL (A B : Int) : Int := rn (rn (A - rn (sumS A B - sumT A B)) + rn (B - sumT A B))
theorem sum_turn (A B : Int) : sumS (-A) (-B) = -sumS A B ∧ sumT (-A) (-B) = -sumT A B ∧ sumL (-A) (-B) = -sumL A B := by
  have s : sumS (-A) (-B) = -sumS A B := by unfold sumS; rw [← rn_neg, Int.neg_add]
  have t : sumT (-A) (-B) = -sumT A B := by
    unfold sumT; rw [s, ← rn_neg]; congr 1; omega
  refine ⟨s, t, ?_⟩
  unfold sumL
  rw [s, t, show -sumS A B - -sumT A B = -(sumS A B - sumT A B) by omega, rn_neg, show -A - -rn (sumS A B - sumT A B) = -(A - rn (sumS A B - sumT A B)) by omega, rn_neg, show -B - -sumT A B = -(B - sumT A B) by omega, rn_neg,
    show -rn (A - rn (sumS A B - sumT A B)) + -rn (B - sumT A B) = -(rn (A - rn (sumS A B - sumT A B)) + rn (B - sumT A B)) by omega, rn_neg]
theorem small_add {a b : Int} {k : Nat} (h : a.natAbs ≤ 2 ^ k) (g : b.natAbs ≤ 2 ^ k) : (a + b).natAbs ≤ 2 ^ (k + 1) ∧ (a - b).natAbs ≤ 2 ^ (k + 1) := by
  rw [Nat.pow_succ]; omega
theorem pow_le_flim {n k : Nat} (h : n ≤ 2 ^ k) (hk : k ≤ 2000) : n ≤ 2 ^ flim := Nat.le_trans h (Nat.pow_le_pow_right (by decide) (by unfold flim; exact hk))

/-- the words of a sum's steps -/
theorem sum_words {a b : Nat} (ha : Fi a) (hb : Fi b) (h1 : (Fp.un Ieee.double a).natAbs ≤ 2 ^ 1500) (h2 : (Fp.un Ieee.double b).natAbs ≤ 2 ^ 1500) :
    ∃ s t u v x l, Ieee.double.add a b = some s ∧ Ieee.double.sub s a = some t ∧ Ieee.double.sub s t = some u ∧ Ieee.double.sub a u = some v ∧ Ieee.double.sub b t = some x ∧ Ieee.double.add v x = some l ∧
      Fi s ∧ Fi l ∧ Fp.un Ieee.double s = sumS (Fp.un Ieee.double a) (Fp.un Ieee.double b) ∧ Fp.un Ieee.double l = sumL (Fp.un Ieee.double a) (Fp.un Ieee.double b) := by
  obtain ⟨K, hK⟩ : ∃ K : Nat, K = 1500 := ⟨_, rfl⟩
  rw [← hK] at h1 h2
  have b1 := (small_add h1 h2).1
  obtain ⟨s, s1, s2, s3⟩ := add_ok ha hb (pow_le_flim b1 (by omega))
  have c1 := rn_le (by omega) b1
  rw [← s3] at c1
  have b2 := (small_add c1 (Nat.le_trans h1 (Nat.pow_le_pow_right (by decide) (by omega : K ≤ K + 1)))).2
  obtain ⟨t, t1, t2, t3⟩ := sub_ok s2 ha (pow_le_flim b2 (by omega))
  have c2 := rn_le (by omega) b2
  rw [← t3] at c2
  have b3 := (small_add (Nat.le_trans c1 (Nat.pow_le_pow_right (by decide) (by omega : K + 1 ≤ K + 1 + 1))) c2).2
  obtain ⟨u, u1, u2, u3⟩ := sub_ok s2 t2 (pow_le_flim b3 (by omega))
  have c3 := rn_le (by omega) b3
  rw [← u3] at c3
  have b4 := (small_add (Nat.le_trans h1 (Nat.pow_le_pow_right (by decide) (by omega : K ≤ K + 1 + 1 + 1))) c3).2
  obtain ⟨v, v1, v2, v3⟩ := sub_ok ha u2 (pow_le_flim b4 (by omega))
  have c4 := rn_le (by omega) b4
  rw [← v3] at c4
  have b5 := (small_add (Nat.le_trans h2 (Nat.pow_le_pow_right (by decide) (by omega : K ≤ K + 1 + 1))) c2).2
  obtain ⟨x, x1, x2, x3⟩ := sub_ok hb t2 (pow_le_flim b5 (by omega))
  have c5 := rn_le (by omega) b5
  rw [← x3] at c5
  have b6 := (small_add c4 (Nat.le_trans c5 (Nat.pow_le_pow_right (by decide) (by omega : K + 1 + 1 + 1 ≤ K + 1 + 1 + 1 + 1)))).1
  obtain ⟨l, l1, l2, l3⟩ := add_ok v2 x2 (pow_le_flim b6 (by omega))
  refine ⟨s, t, u, v, x, l, s1, t1, u1, v1, x1, l1, s2, l2, s3, ?_⟩
  rw [l3, v3, x3, u3, t3, s3]; rfl
end Go.Proofs.YtifgngmebnjfkaaDoor
