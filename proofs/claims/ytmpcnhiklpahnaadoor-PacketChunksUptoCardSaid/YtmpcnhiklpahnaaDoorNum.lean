/- Numbers by their amounts: words that stand for whole numbers of units of the least place; which amounts have a word; operations that lose nothing. No program stands in it. -/
import Derived.Test.YtmpcnhiklpahnaaDoorIeee
namespace Go.Proofs.YtmpcnhiklpahnaaDoor.Fp
open Ieee
variable (f : Format)

/-- the word of a sign and an amount -/
def num (s : Bool) (n : Nat) : Nat := f.word s (grid f n 0)
/-- an amount that has a word -/
def Rep (n : Nat) : Prop := grid f n 0 < f.infRung ∧ mag f (grid f n 0) = n
/-- a word that stands for a sign and an amount -/
def Is (a : Nat) (s : Bool) (n : Nat) : Prop := a < 2 ^ f.width ∧ rg f a < f.infRung ∧ sg f a = s ∧ mag f (rg f a) = n

theorem grid_of_mag (hF : 1 ≤ f.fractionBits) (r : Nat) : grid f (mag f r) 0 = r := by
  have := grid_mag f hF r 0
  rwa [Nat.pow_zero, Nat.mul_one] at this

theorem rep_mag (hF : 1 ≤ f.fractionBits) {r : Nat} (h : r < f.infRung) : Rep f (mag f r) := by
  unfold Rep; rw [grid_of_mag f hF]; exact ⟨h, rfl⟩

variable {f}
theorem Is.rep {a : Nat} {s : Bool} {n : Nat} (hF : 1 ≤ f.fractionBits) (h : Is f a s n) : Rep f n := by
  obtain ⟨_, h2, _, h4⟩ := h
  rw [← h4]; exact rep_mag f hF h2
theorem Is.eq {a : Nat} {s : Bool} {n : Nat} (hF : 1 ≤ f.fractionBits) (h : Is f a s n) : a = num f s n := by
  obtain ⟨h1, _, h3, h4⟩ := h
  unfold num
  rw [← h4, grid_of_mag f hF, ← h3]
  exact (word_sg_rg f a h1).symm
theorem Rep.is {n : Nat} (h : Rep f n) (s : Bool) : Is f (num f s n) s n := by
  obtain ⟨h1, h2⟩ := h
  have hl := inf_lt f
  have h3 : grid f n 0 < f.signWeight := by omega
  refine ⟨?_, by unfold num; rw [rg_word f s _ h3]; exact h1, sg_word f s _ h3, by unfold num; rw [rg_word f s _ h3]; exact h2⟩
  rw [width_eq]
  unfold num Format.word
  split <;> omega
variable (f)

theorem rep_of {n : Nat} (q j : Nat) (h : n = q * 2 ^ j) (hq : q < 2 ^ (f.fractionBits + 1)) (hn : n < mag f f.infRung) : Rep f n := by
  have key : mag f (grid f n 0) = n := by
    by_cases h0 : q = 0
    · subst h0; rw [Nat.zero_mul] at h; subst h; rw [grid_zero, mag_zero]
    · have hl : n.log2 = q.log2 + j := by rw [h]; exact log2_mul_pow q j h0
      have hqL : q.log2 < f.fractionBits + 1 := (Nat.log2_lt h0).2 hq
      have hB := binade_pos f
      have hn0 : n ≠ 0 := by rw [h]; exact Nat.mul_ne_zero h0 (Nat.ne_of_gt (two_pow_pos j))
      unfold grid
      rw [hl]
      by_cases hs : q.log2 + j ≤ f.fractionBits
      · rw [show max (q.log2 + j - f.fractionBits) 0 = 0 by omega, Nat.pow_zero, rne_one]
        simp only [Nat.sub_self, Nat.zero_mul, Nat.zero_add]
        by_cases hb : n < f.binade
        · exact mag_lt f n hb
        · have h2 : n < 2 * f.binade := by
            have := Nat.lt_log2_self (n := n)
            rw [hl] at this
            have h3 : 2 ^ (q.log2 + j + 1) ≤ 2 ^ (f.fractionBits + 1) := Nat.pow_le_pow_right (by decide) (by omega)
            rw [Nat.pow_succ _ f.fractionBits] at h3
            unfold Format.binade; omega
          have hd : n / f.binade = 1 := by
            rw [show n = f.binade * 1 + (n - f.binade) by omega, Nat.mul_add_div hB, Nat.div_eq_of_lt (by omega)]
          have hm : n % f.binade = n - f.binade := by rw [Nat.mod_eq_sub_mod (by omega), Nat.mod_eq_of_lt (by omega)]
          unfold mag
          rw [if_neg hb, hd, hm, Nat.sub_self, Nat.pow_zero]; omega
      · obtain ⟨t, ht⟩ : ∃ t, q.log2 + j - f.fractionBits = t + 1 := ⟨q.log2 + j - f.fractionBits - 1, by omega⟩
        rw [show max (q.log2 + j - f.fractionBits) 0 = t + 1 by omega, Nat.sub_zero]
        have hc : n = q * 2 ^ (j - (t + 1)) * 2 ^ (t + 1) := by rw [h, Nat.mul_assoc, ← Nat.pow_add]; congr 2; omega
        have hcl : (q * 2 ^ (j - (t + 1))).log2 = f.fractionBits := by rw [log2_mul_pow q _ h0]; omega
        have hc0 : q * 2 ^ (j - (t + 1)) ≠ 0 := Nat.mul_ne_zero h0 (Nat.ne_of_gt (two_pow_pos _))
        have c1 := Nat.log2_self_le hc0
        have c2 := Nat.lt_log2_self (n := q * 2 ^ (j - (t + 1)))
        rw [hcl] at c1 c2
        generalize q * 2 ^ (j - (t + 1)) = c at *
        rw [hc, rne_mul _ _ (two_pow_pos _)]
        rw [Nat.pow_succ] at c2
        have c1' : f.binade ≤ c := c1
        have c2' : c < 2 * f.binade := by unfold Format.binade; omega
        have hr : (t + 1) * f.binade + c = f.binade * (t + 2) + (c - f.binade) := by
          rw [Nat.mul_comm f.binade, show t + 2 = t + 1 + 1 from rfl, Nat.succ_mul (t + 1)]; omega
        rw [hr]
        have hnb : ¬ f.binade * (t + 2) + (c - f.binade) < f.binade := by
          have : f.binade * 2 ≤ f.binade * (t + 2) := Nat.mul_le_mul_left _ (by omega)
          omega
        unfold mag
        rw [if_neg hnb, Nat.mul_add_mod, Nat.mod_eq_of_lt (by omega), Nat.mul_add_div hB, Nat.div_eq_of_lt (show c - f.binade < f.binade by omega), Nat.add_zero,
          show t + 2 - 1 = t + 1 from rfl, show f.binade + (c - f.binade) = c by omega]
  refine ⟨?_, key⟩
  rw [← mag_lt_iff f, key]; exact hn

/-- how much deeper a double reaches than a single; the bits of the greatest amount (names: a power of so great a literal is reckoned out wherever it is met) -/
def sgap : Nat := 925
def dtop : Nat := 2098
theorem sgap_eq : sgap = 925 := rfl
theorem dtop_eq : dtop = 2098 := rfl
theorem pow_join {a b c : Nat} (h : a + b = c) : 2 ^ a * 2 ^ b = 2 ^ c := by rw [← Nat.pow_add, h]
theorem mag_infD : mag double double.infRung = 2 ^ dtop := by
  have e : mag double double.infRung = (4503599627370496 + 9218868437227405312 % 4503599627370496) * 2 ^ (9218868437227405312 / 4503599627370496 - 1) := by
    unfold mag; rw [if_neg (by decide), dB, dI]
  obtain ⟨k, hk⟩ : ∃ k, k = 9218868437227405312 / 4503599627370496 - 1 := ⟨_, rfl⟩
  have e2 : 4503599627370496 + 9218868437227405312 % 4503599627370496 = 2 ^ 52 := by omega
  rw [← hk, e2] at e
  exact e.trans (pow_join (by unfold dtop; omega))
theorem top_aux {a b c d : Nat} (h : a + b + c ≤ d) : 2 ^ a * 2 ^ b * 2 ^ c ≤ 2 ^ d := by
  rw [← Nat.pow_add, ← Nat.pow_add]; exact Nat.pow_le_pow_right (by decide) h
theorem top_le : mag single single.infRung * 2 ^ sgap ≤ 2 ^ dtop := by
  have h : mag single single.infRung ≤ 2 ^ 200 * 2 ^ 200 := by decide +kernel
  exact Nat.le_trans (Nat.mul_le_mul_right _ h) (top_aux (by unfold sgap dtop; omega))

/-- a product that has a word -/
theorem mul_is (hl : f.leastPlace ≤ 0) {a b n m p : Nat} {s t : Bool} (ha : Is f a s n) (hb : Is f b t m) (h : n * m = p * 2 ^ deep f) (hp : Rep f p) : f.mul a b = some (num f (s ^^ t) p) := by
  obtain ⟨_, a2, a3, a4⟩ := ha
  obtain ⟨_, b2, b3, b4⟩ := hb
  rw [mul_fin f hl a b a2 b2, a3, a4, b3, b4, h]
  have g := grid_shift f p (deep f) 0
  rw [Nat.zero_add] at g
  rw [g, Nat.min_eq_left (Nat.le_of_lt hp.1)]; rfl

/-- a whole number that has a word -/
theorem int_is (hl : f.leastPlace ≤ 0) (n : Int) (h : Rep f (n.natAbs * 2 ^ deep f)) : f.write (.number (n < 0) n.natAbs 0) = num f (decide (n < 0)) (n.natAbs * 2 ^ deep f) := by
  rw [ofInt_fin f hl n]
  unfold rung
  rw [Nat.min_eq_left (Nat.le_of_lt h.1)]; rfl

/-- a number with a sign, as a whole number of units -/
def val (s : Bool) (n : Nat) : Int := if s then -(n : Int) else n
theorem Is.un {f : Format} {a : Nat} {s : Bool} {n : Nat} (h : Is f a s n) : un f a = val s n := by
  obtain ⟨_, _, h3, h4⟩ := h
  unfold Fp.un val; rw [h3, h4]

theorem order_is {a b n m : Nat} {s t : Bool} (ha : Is f a s n) (hb : Is f b t m) : f.order a b = some (compare (val s n) (val t m)) := by
  rw [order_units f a b ha.2.1 hb.2.1, ha.un, hb.un]

/-- what a number reads as -/
theorem Is.read {f : Format} {a n : Nat} {s : Bool} (h : Is f a s n) : ∃ m e, f.read a = .number s m e ∧ f.leastPlace ≤ e ∧ m * 2 ^ (e - f.leastPlace).toNat = n := by
  obtain ⟨_, h2, h3, h4⟩ := h
  obtain ⟨m, e, r1, l1, u1⟩ := read_fin f a h2
  exact ⟨m, e, by rw [r1, h3], l1, by rw [u1, h4]⟩

/-- from single to double -/
theorem widen_is {a n : Nat} {s : Bool} (h : Is single a s n) : double.write (single.read a) = num double s (n * 2 ^ sgap) ∧ Rep double (n * 2 ^ sgap) := by
  have hF := sF
  have hrep : Rep double (n * 2 ^ sgap) := by
    obtain ⟨_, h2, _, h4⟩ := h
    have hlt : n < mag single single.infRung := by rw [← h4]; exact mag_mono_lt single h2
    have hb : n * 2 ^ sgap < mag double double.infRung := by
      rw [mag_infD]
      have h5 : n * 2 ^ sgap < mag single single.infRung * 2 ^ sgap := Nat.mul_lt_mul_of_pos_right hlt (two_pow_pos _)
      exact Nat.lt_of_lt_of_le h5 top_le
    rw [mag_eq] at h4
    generalize hq : (if rg single a < single.binade then rg single a else single.binade + rg single a % single.binade) = q at h4
    have hq2 : q < 2 ^ 53 := by
      rw [← hq]
      have hm := Nat.mod_lt (rg single a) (binade_pos single)
      rw [sB] at *
      split
      · exact Nat.lt_trans ‹_› (by decide)
      · have : (8388608 : Nat) + 8388608 < 2 ^ 53 := by decide
        omega
    unfold step at h4
    refine rep_of double q (rg single a / single.binade - 1 + sgap) ?_ hq2 hb
    rw [← h4, Nat.mul_assoc, ← Nat.pow_add]
  refine ⟨?_, hrep⟩
  obtain ⟨m, e, r1, l1, u1⟩ := h.read
  rw [r1]
  show double.nearest s m e = _
  rw [sL] at l1 u1
  rw [nearest_units double s m e (by rw [dL]; omega), dL]
  have e1 : m * 2 ^ (e - -1074).toNat = n * 2 ^ sgap := by
    rw [← u1, Nat.mul_assoc, ← Nat.pow_add]
    have := sgap_eq
    congr 2; omega
  rw [e1]
  unfold rung
  rw [Nat.min_eq_left (Nat.le_of_lt hrep.1)]; rfl

/-- from double to single, where nothing is lost -/
theorem narrow_is {a n : Nat} {s : Bool} (h : Is double a s (n * 2 ^ sgap)) (hn : Rep single n) : single.write (double.read a) = num single s n := by
  obtain ⟨m, e, r1, l1, u1⟩ := h.read
  rw [r1]
  show single.nearest s m e = _
  rw [dL] at l1 u1
  rw [nearest_deep single s m e sgap (by rw [sL]; have := sgap_eq; omega), sL]
  have e1 : m * 2 ^ (e - (-149 - (sgap : Int))).toNat = n * 2 ^ sgap := by rw [← u1]; congr 2
  have g := grid_shift single n sgap 0
  rw [Nat.zero_add] at g
  rw [e1, g, Nat.min_eq_left (Nat.le_of_lt hn.1)]; rfl

end Go.Proofs.YtmpcnhiklpahnaaDoor.Fp
