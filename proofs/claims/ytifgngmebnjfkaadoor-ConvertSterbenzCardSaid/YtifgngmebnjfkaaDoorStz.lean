/- What lies near one another is taken apart exactly: plain. -/
import Derived.Test.YtifgngmebnjfkaaDoorCv15
import Derived.Test.YtifgngmebnjfkaaDoorRf9
import Derived.Test.YtifgngmebnjfkaaDoorCvp3
namespace Go.Proofs.YtifgngmebnjfkaaDoor

theorem rn_rep {z : Int} (h : Fp.Rep Ieee.double z.natAbs) : rn z = z := by unfold rn; rw [h.2]; split <;> omega
/-- a sum that is a double itself leaves nothing over -/
theorem add_exact {A B : Int} (hA : Fp.Rep Ieee.double A.natAbs) (hB : Fp.Rep Ieee.double B.natAbs) (hD : Fp.Rep Ieee.double (A + B).natAbs) : sumS A B = A + B ∧ sumL A B = 0 := by
  have e1 : sumS A B = A + B := rn_rep hD
  have e2 : sumT A B = B := by unfold sumT; rw [e1, show A + B - A = B by omega]; exact rn_rep hB
  refine ⟨e1, ?_⟩
  unfold sumL
  rw [e1, e2, show A + B - B = A by omega, rn_rep hA, Int.sub_self, Int.sub_self, rn_zero]
  exact rn_zero
/-- a single's amount, by its digits -/
theorem magS_digits (r : Nat) : ∃ c, Fp.mag Ieee.single r = c * 2 ^ (r / 8388608 - 1) ∧ c < 16777216 := by
  unfold Fp.mag
  rw [Fp.sB]
  split
  · rename_i h
    refine ⟨r, ?_, by omega⟩
    rw [show r / 8388608 - 1 = 0 by omega, Nat.pow_zero, Nat.mul_one]
  · exact ⟨_, rfl, by omega⟩
theorem sterbenz_digits {r s : Nat} (h : s ≤ r) (h2 : Fp.mag Ieee.single r ≤ 2 * Fp.mag Ieee.single s) : ∃ c, Fp.mag Ieee.single r - Fp.mag Ieee.single s = c * 2 ^ (s / 8388608 - 1) ∧ c < 16777216 := by
  obtain ⟨a, ha, _⟩ := magS_digits r
  obtain ⟨b, hb, hb2⟩ := magS_digits s
  obtain ⟨j, hj⟩ : ∃ j, j = s / 8388608 - 1 := ⟨_, rfl⟩
  obtain ⟨k, hk⟩ : ∃ k, r / 8388608 - 1 = j + k := ⟨r / 8388608 - 1 - j, by have := Nat.div_le_div_right (c := 8388608) h; omega⟩
  rw [← hj]
  rw [← hj] at hb
  rw [hk, Nat.pow_add, Nat.mul_comm (2 ^ j), ← Nat.mul_assoc] at ha
  rw [ha, hb] at h2
  rw [ha, hb]
  refine ⟨a * 2 ^ k - b, (Nat.sub_mul _ _ _).symm, ?_⟩
  have hp := Nat.two_pow_pos j
  have : a * 2 ^ k ≤ 2 * b := by
    refine Nat.le_of_mul_le_mul_right (c := 2 ^ j) ?_ hp
    rw [Nat.mul_assoc 2]; exact h2
  omega
theorem rep_single {N c j : Nat} (hN : N = c * 2 ^ j) (hc : c < 16777216) (h : N < Fp.mag Ieee.single Ieee.single.infRung) : Fp.Rep Ieee.single N := Fp.rep_of Ieee.single c j hN hc h
theorem cut_four {m s : Nat} (hs : 1 ≤ s) (neg : Bool) (mode : Int) : cutQ (4 * m) (s + 2) neg mode = cutQ m s neg mode ∧ (4 * m % 2 ^ (s + 2) ≠ 0 ↔ m % 2 ^ s ≠ 0) := by
  have hp : 2 ^ (s + 2) = 4 * 2 ^ s := by rw [Nat.pow_add, Nat.mul_comm]
  have hd : 4 * m / 2 ^ (s + 2) = m / 2 ^ s := by rw [hp]; exact Nat.mul_div_mul_left _ _ (by decide)
  have hr : 4 * m % 2 ^ (s + 2) = 4 * (m % 2 ^ s) := by rw [hp]; exact Nat.mul_mod_mul_left _ _ _
  refine ⟨?_, by rw [hr]; omega⟩
  unfold cutQ goes
  rw [hd, hr, hp]
  generalize m % 2 ^ s = R at *
  generalize 2 ^ s = Z at *
  have e1 : (4 * R = 0) = (R = 0) := propext (by omega)
  have e2 : (4 * Z < 2 * (4 * R)) = (Z < 2 * R) := propext (by omega)
  have e3 : (4 * Z = 2 * (4 * R)) = (Z = 2 * R) := propext (by omega)
  have e4 : (4 * Z ≤ 2 * (4 * R)) = (Z ≤ 2 * R) := propext (by omega)
  simp only [e1, e2, e3, e4]
/-- four times the digits, two places down: the same word -/
theorem sWord_four {n : Nat} (h0 : n ≠ 0) (hr : Fp.Rep Ieee.double n) (b : Bool) (mode : Int) :
    sWord b (4 * top53 n) ((n.log2 : Int) - 1128) mode = sWord b (top53 n) ((n.log2 : Int) - 1126) mode ∧ rFlags 24 (-149) 127 b (4 * top53 n) ((n.log2 : Int) - 1128) mode = rFlags 24 (-149) 127 b (top53 n) ((n.log2 : Int) - 1126) mode := by
  obtain ⟨t1, t2, _⟩ := top53_bounds h0 hr
  have hb := bl_top53 h0 hr
  have hb4 : Lib.bitLen (4 * top53 n) = 55 := bitLen_of 54 _ (by decide) (by omega) (by omega)
  obtain ⟨m, hm⟩ : ∃ m, m = top53 n := ⟨_, rfl⟩
  obtain ⟨L, hL⟩ : ∃ L : Int, L = (n.log2 : Int) := ⟨_, rfl⟩
  rw [← hm] at hb hb4
  rw [← hm, ← hL]
  have hK : rK 24 (-149) (4 * m) (L - 1128) = rK 24 (-149) m (L - 1126) := by unfold rK; rw [hb, hb4]; omega
  obtain ⟨K, hKK⟩ : ∃ K, K = rK 24 (-149) m (L - 1126) := ⟨_, rfl⟩
  have hK2 : L - 1097 ≤ K := by rw [hKK]; unfold rK; rw [hb]; omega
  obtain ⟨s, hs⟩ : ∃ s : Nat, s = (K - (L - 1126)).toNat := ⟨_, rfl⟩
  obtain ⟨c1, c2⟩ := cut_four (m := m) (s := s) (by omega) b mode
  have hQ : rQ 24 (-149) b (4 * m) (L - 1128) mode = rQ 24 (-149) b m (L - 1126) mode := by
    unfold rQ
    rw [hK, ← hKK, if_neg (by omega), if_neg (by omega), ← hs, show (K - (L - 1128)).toNat = s + 2 by omega, c1]
  have hl : rLost 24 (-149) (4 * m) (L - 1128) = rLost 24 (-149) m (L - 1126) := by
    unfold rLost
    rw [hK, ← hKK, if_neg (by omega), if_neg (by omega), ← hs, show (K - (L - 1128)).toNat = s + 2 by omega, decide_eq_decide]
    exact c2
  have hO : rOver 24 (-149) 127 b (4 * m) (L - 1128) mode = rOver 24 (-149) 127 b m (L - 1126) mode := by unfold rOver; rw [hK, hQ]
  refine ⟨by unfold sWord; rw [hO, hQ, hK], ?_⟩
  unfold rFlags
  rw [hO, hl, hb, hb4, show L - 1128 + ((55 : Nat) : Int) - 1 = L - 1126 + ((53 : Nat) : Int) - 1 by omega]
/-- exactly a single: its word, and no flag -/
theorem addW_exact {A B : Int} {N c j : Nat} (hA : Fp.Rep Ieee.double A.natAbs) (hB : Fp.Rep Ieee.double B.natAbs) (hN : (A + B).natAbs = N * 2 ^ Fp.sgap) (hc : N = c * 2 ^ j) (hcl : c < 16777216) (hj : j ≤ 253) (hN0 : A + B ≠ 0) (na nb : Bool) (mode : Int) (hmode : 0 ≤ mode ∧ mode ≤ 4) :
    addW A B na nb mode = Fp.num Ieee.single false N + sgnS (decide (A + B < 0)) ∧ addF A B mode = 0 := by
  have h0 : N ≠ 0 := fun h => hN0 (by rw [h, Nat.zero_mul] at hN; omega)
  have hc0 : c ≠ 0 := fun h => h0 (by rw [hc, h, Nat.zero_mul])
  have hl : N.log2 = c.log2 + j := by rw [hc, Fp.log2_mul_pow _ _ hc0]
  have hcl2 : c.log2 ≤ 23 := by
    have := (Nat.log2_lt hc0 (k := 24)).2 (by omega)
    omega
  have hg := Fp.sgap_eq
  have hD : Fp.Rep Ieee.double (A + B).natAbs := by
    rw [hN, hc]
    refine Fp.rep_of Ieee.double c (j + Fp.sgap) (by rw [Nat.pow_add, Nat.mul_assoc]) (Nat.lt_trans hcl (by decide)) ?_
    rw [Fp.mag_infD, Nat.mul_assoc, ← Nat.pow_add]
    refine Nat.lt_of_lt_of_le (Nat.mul_lt_mul_of_pos_right hcl (Nat.two_pow_pos _)) ?_
    rw [show 16777216 = 2 ^ 24 from rfl, ← Nat.pow_add]
    exact Nat.pow_le_pow_right (by decide) (by unfold Fp.dtop; omega)
  obtain ⟨e1, e2⟩ := add_exact hA hB hD
  have hn0 : (A + B).natAbs ≠ 0 := by omega
  obtain ⟨s1, s2⟩ := single_exact (decide (A + B < 0)) mode hmode hn0 hD hN.symm hc (by omega) (by omega) (Fp.log2_mul_pow _ _ h0)
  obtain ⟨f1, f2⟩ := sWord_four hn0 hD (decide (A + B < 0)) mode
  unfold addW addF nudM nudE
  rw [e1, e2, if_neg hN0, if_neg hN0, if_pos rfl, f1, f2]
  exact ⟨s2, s1⟩

/-- a single with the other sign -/
def tzS (a : Nat) : Nat := if a < 2147483648 then a + 2147483648 else a - 2147483648
theorem tzS_lt {a : Nat} (h : a < 4294967296) : tzS a < 4294967296 := by unfold tzS; split <;> omega
theorem tzS_mod {a : Nat} (h : a < 4294967296) : tzS a % 2147483648 = a % 2147483648 := by unfold tzS; split <;> omega

theorem tzS_ng {a : Nat} (h : a < 4294967296) : ngS (tzS a) = !ngS a := by
  unfold ngS tzS
  split
  · rw [decide_eq_true (by omega), decide_eq_false (by omega)]; rfl
  · rw [decide_eq_false (by omega), decide_eq_true (by omega)]; rfl
theorem negZ_pos {a : Nat} (ha : a < 2147483648) : a ^^^ 2 ^ 31 = a + 2147483648 := by
  have := Nat.two_pow_add_eq_or_of_lt (i := 31) (b := a) ha 1
  rw [Nat.mul_one] at this
  rw [show a + 2147483648 = 2 ^ 31 + a by omega, this, Nat.xor_comm]
  apply Nat.eq_of_testBit_eq
  intro i
  rw [Nat.testBit_xor, Nat.testBit_or, Nat.testBit_two_pow]
  by_cases hi : 31 = i
  · subst hi
    rw [Nat.testBit_lt_two_pow ha]; simp
  · simp [hi]
theorem xor_tzS {a : Nat} (ha : a < 4294967296) : a ^^^ 2 ^ 31 = tzS a := by
  unfold tzS
  by_cases h : a < 2147483648
  · rw [if_pos h]; exact negZ_pos h
  · rw [if_neg h]
    have g := negZ_pos (a := a - 2147483648) (by omega)
    rw [show a - 2147483648 + 2147483648 = a by omega] at g
    conv => lhs; rw [← g]
    rw [Nat.xor_assoc, Nat.xor_self, Nat.xor_zero]
theorem neg_tzS {a : Nat} (ha : a < 4294967296) : Go.Op.negFloat .f32 a = tzS a := xor_tzS ha

/-! data -/

/-- a single's value, in units of 2^-149 -/
def sv (x : Nat) : Int := sgI (nS x) (mS x) (eS x + 149).toNat
theorem sv_val {x : Nat} (hf : x % 2147483648 < 2139095040) : sv x = Fp.val (ngS x) (Fp.mag Ieee.single (x % 2147483648)) := by
  obtain ⟨h1, h2, h3, _⟩ := mS_mag hf
  unfold sv sgI Fp.val ngS
  rw [h3, h1]
  have : ((mS x * 2 ^ (eS x + 149).toNat : Nat) : Int) = (mS x : Int) * 2 ^ (eS x + 149).toNat := by simp
  rw [this]
theorem val_mul (b : Bool) (n k : Nat) : Fp.val b (n * 2 ^ k) = Fp.val b n * ((2 ^ k : Nat) : Int) := by
  unfold Fp.val
  rw [Int.natCast_mul]
  split
  · rw [Int.neg_mul]
  · rfl
theorem uS_sv {x : Nat} (hf : x % 2147483648 < 2139095040) : uS x = sv x * ((2 ^ Fp.sgap : Nat) : Int) := by
  rw [sv_val hf]; exact val_mul _ _ _
theorem word_sv {N : Nat} (b : Bool) (h : Fp.Rep Ieee.single N) : (Fp.num Ieee.single false N + sgnS b) < 4294967296 ∧ (Fp.num Ieee.single false N + sgnS b) % 2147483648 < 2139095040 ∧ sv (Fp.num Ieee.single false N + sgnS b) = Fp.val b N := by
  have hl := num_ltS h
  have hm : (Fp.num Ieee.single false N + sgnS b) % 2147483648 = Fp.num Ieee.single false N := by unfold sgnS; split <;> omega
  have hn : ngS (Fp.num Ieee.single false N + sgnS b) = b := by
    unfold ngS sgnS
    cases b
    · rw [if_neg Bool.false_ne_true]; exact decide_eq_false (by omega)
    · rw [if_pos rfl]; exact decide_eq_true (by omega)
  refine ⟨by unfold sgnS; split <;> omega, by omega, ?_⟩
  rw [sv_val (by omega), hm, hn, grid_of_num, h.2]
theorem rep_uS {x : Nat} (hx : x < 4294967296) (hf : x % 2147483648 < 2139095040) : Fp.Rep Ieee.double (uS x).natAbs := by
  obtain ⟨_, h2⟩ := Fp.widen_is (single_is hx hf)
  have : (uS x).natAbs = Fp.mag Ieee.single (x % 2147483648) * 2 ^ Fp.sgap := by unfold uS Fp.val; split <;> omega
  rw [this]; exact h2
theorem isN_fin {x : Nat} (hf : x % 2147483648 < 2139095040) : isN x = false ∧ isI x = false := ⟨decide_eq_false (by omega), decide_eq_false (by omega)⟩
theorem sv_nought (b : Bool) : sv (sgnS b) = 0 := by cases b <;> decide
theorem noughtW_sgn (a b : Bool) (mode : Int) : ∃ c, noughtW a b mode = sgnS c := by
  unfold noughtW
  split
  · exact ⟨true, rfl⟩
  · exact ⟨false, rfl⟩
/-- a sum of singles that is a single of few digits -/
theorem add_word {x y N c j : Nat} {mode : Int} (hx : x < 4294967296) (hy : y < 4294967296) (fx : x % 2147483648 < 2139095040) (fy : y % 2147483648 < 2139095040) (hmode : 0 ≤ mode ∧ mode ≤ 4)
    (hN : (sv x + sv y).natAbs = N) (hc : N = c * 2 ^ j) (hcl : c < 16777216) (hj : j ≤ 253) (hM : N < Fp.mag Ieee.single Ieee.single.infRung) :
    addWd x y mode < 4294967296 ∧ addWd x y mode % 2147483648 < 2139095040 ∧ sv (addWd x y mode) = sv x + sv y ∧ addFl x y mode = 0 := by
  obtain ⟨n1, n2⟩ := isN_fin fx
  obtain ⟨n3, n4⟩ := isN_fin fy
  unfold addWd addFl
  rw [n1, n2, n3, n4]
  simp only [Bool.or_self, Bool.false_eq_true, if_false]
  have e : uS x + uS y = (sv x + sv y) * ((2 ^ Fp.sgap : Nat) : Int) := by rw [uS_sv fx, uS_sv fy, Int.add_mul]
  have hp : 0 < 2 ^ Fp.sgap := Nat.two_pow_pos _
  obtain ⟨Z, hZ⟩ : ∃ Z : Nat, Z = 2 ^ Fp.sgap := ⟨_, rfl⟩
  rw [← hZ] at e hp
  have hp' : (0 : Int) < (Z : Int) := by omega
  by_cases h0 : sv x + sv y = 0
  · have hu : uS x + uS y = 0 := by rw [e, h0, Int.zero_mul]
    have hs : sumS (uS x) (uS y) = 0 := by unfold sumS; rw [hu]; exact rn_zero
    have key : ∀ d : Bool, sgnS d < 4294967296 ∧ sgnS d % 2147483648 < 2139095040 ∧ sv (sgnS d) = sv x + sv y := fun d => ⟨by unfold sgnS; split <;> omega, by unfold sgnS; split <;> omega, by rw [h0]; exact sv_nought d⟩
    unfold addW addF
    rw [if_pos hs, if_pos hs]
    split
    · obtain ⟨d, hd⟩ := noughtW_sgn (ngS x) (ngS y) mode
      rw [hd]; exact ⟨(key d).1, (key d).2.1, (key d).2.2, rfl⟩
    · obtain ⟨d, hd⟩ := noughtW_sgn false true mode
      rw [hd]; exact ⟨(key d).1, (key d).2.1, (key d).2.2, rfl⟩
  · have hu : uS x + uS y ≠ 0 := by rw [e]; exact Int.mul_ne_zero h0 (by omega)
    have hab : (uS x + uS y).natAbs = N * 2 ^ Fp.sgap := by rw [e, Int.natAbs_mul, hN, ← hZ]; rfl
    have hsg : decide (uS x + uS y < 0) = decide (sv x + sv y < 0) := by
      rw [decide_eq_decide, e]
      constructor
      · intro h; exact Int.lt_of_not_ge fun k => absurd (Int.mul_nonneg k (Int.le_of_lt hp')) (by omega)
      · intro h; exact Int.mul_neg_of_neg_of_pos h hp'
    obtain ⟨w1, w2⟩ := addW_exact (rep_uS hx fx) (rep_uS hy fy) hab hc hcl hj hu (ngS x) (ngS y) mode hmode
    rw [w1, w2, hsg]
    obtain ⟨k1, k2, k3⟩ := word_sv (decide (sv x + sv y < 0)) (rep_single hc hcl hM)
    refine ⟨k1, k2, k3.trans ?_, rfl⟩
    unfold Fp.val
    by_cases h : sv x + sv y < 0
    · rw [decide_eq_true h, if_pos rfl]; omega
    · rw [decide_eq_false h, if_neg Bool.false_ne_true]; omega
theorem sv_tu {y : Nat} (hy : y < 4294967296) (fy : y % 2147483648 < 2139095040) : sv (tzS y) = - sv y := by
  rw [sv_val fy, sv_val (by rw [tzS_mod hy]; exact fy), tzS_mod hy, tzS_ng hy]
  unfold Fp.val
  cases ngS y <;> simp
/-- one is not more than twice the other, of one sign: the difference is a single -/
theorem sterbenz_word {x y : Nat} {mode : Int} (hx : x < 4294967296) (hy : y < 4294967296) (fx : x % 2147483648 < 2139095040) (fy : y % 2147483648 < 2139095040) (hmode : 0 ≤ mode ∧ mode ≤ 4) (hs : ngS x = ngS y)
    (h1 : Fp.mag Ieee.single (y % 2147483648) ≤ 2 * Fp.mag Ieee.single (x % 2147483648)) (h2 : Fp.mag Ieee.single (x % 2147483648) ≤ 2 * Fp.mag Ieee.single (y % 2147483648)) :
    addWd x (tzS y) mode < 4294967296 ∧ addWd x (tzS y) mode % 2147483648 < 2139095040 ∧ sv (addWd x (tzS y) mode) = sv x - sv y ∧ addFl x (tzS y) mode = 0 := by
  have m1 : Fp.mag Ieee.single (x % 2147483648) < Fp.mag Ieee.single Ieee.single.infRung := Fp.mag_mono_lt Ieee.single (by rw [Fp.sI]; exact fx)
  have m2 : Fp.mag Ieee.single (y % 2147483648) < Fp.mag Ieee.single Ieee.single.infRung := Fp.mag_mono_lt Ieee.single (by rw [Fp.sI]; exact fy)
  have ex := sv_val fx
  have ey := sv_val fy
  have hv : (sv x + sv (tzS y)).natAbs = Fp.mag Ieee.single (x % 2147483648) - Fp.mag Ieee.single (y % 2147483648) + (Fp.mag Ieee.single (y % 2147483648) - Fp.mag Ieee.single (x % 2147483648)) := by
    rw [sv_tu hy fy, ex, ey, hs]
    unfold Fp.val
    generalize Fp.mag Ieee.single (x % 2147483648) = a at *
    generalize Fp.mag Ieee.single (y % 2147483648) = b at *
    split <;> omega
  have e2 : sv x - sv y = sv x + sv (tzS y) := by rw [sv_tu hy fy]; omega
  rw [e2]
  rcases Nat.le_total (y % 2147483648) (x % 2147483648) with h | h
  · obtain ⟨c, hc, hcl⟩ := sterbenz_digits h h2
    have hm := Fp.mag_mono Ieee.single h
    rw [Nat.sub_eq_zero_of_le hm, Nat.add_zero] at hv
    exact add_word hx (tzS_lt hy) fx (by rw [tzS_mod hy]; exact fy) hmode hv hc hcl (by omega) (by omega)
  · obtain ⟨c, hc, hcl⟩ := sterbenz_digits h h1
    have hm := Fp.mag_mono Ieee.single h
    rw [Nat.sub_eq_zero_of_le hm, Nat.zero_add] at hv
    exact add_word hx (tzS_lt hy) fx (by rw [tzS_mod hy]; exact fy) hmode hv hc hcl (by omega) (by omega)
end Go.Proofs.YtifgngmebnjfkaaDoor
