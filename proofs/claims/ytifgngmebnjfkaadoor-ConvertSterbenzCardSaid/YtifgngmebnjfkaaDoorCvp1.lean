/- Rounding what is a number of the format already loses nothing, and only this (no program in sight). -/
import Derived.Test.YtifgngmebnjfkaaDoorCv11
namespace Go.Proofs.YtifgngmebnjfkaaDoor

theorem bl_top53 {n : Nat} (h0 : n ≠ 0) (hr : Fp.Rep Ieee.double n) : Lib.bitLen (top53 n) = 53 := by
  obtain ⟨t1, t2, _⟩ := top53_bounds h0 hr
  exact bitLen_of 52 _ (by decide) t1 t2
theorem rK_top {n : Nat} (h0 : n ≠ 0) (hr : Fp.Rep Ieee.double n) (D lo : Int) : rK D lo (top53 n) ((n.log2 : Int) - 1126) = max ((n.log2 : Int) - 1073 - D) lo := by
  unfold rK
  rw [bl_top53 h0 hr]
  have : (n.log2 : Int) - 1126 + ((53 : Nat) : Int) - D = (n.log2 : Int) - 1073 - D := by omega
  rw [this]

/-- nothing is lost just where the amount stays -/
theorem lost_iff {n : Nat} (h0 : n ≠ 0) (hr : Fp.Rep Ieee.double n) (D lo : Int) (hlo : -1074 ≤ lo) (neg : Bool) (mode : Int) :
    (rLost D lo (top53 n) ((n.log2 : Int) - 1126) = false → rAmt D lo neg (top53 n) ((n.log2 : Int) - 1126) mode = n) ∧
    (∀ Q, n = Q * 2 ^ (rK D lo (top53 n) ((n.log2 : Int) - 1126) + 1074).toNat → rLost D lo (top53 n) ((n.log2 : Int) - 1126) = false ∧ rQ D lo neg (top53 n) ((n.log2 : Int) - 1126) mode = Q) := by
  obtain ⟨t1, t2, t3, t4⟩ := top53_bounds h0 hr
  have hk : lo ≤ rK D lo (top53 n) ((n.log2 : Int) - 1126) := by unfold rK; omega
  unfold rAmt rQ rLost
  generalize rK D lo (top53 n) ((n.log2 : Int) - 1126) = k at *
  generalize top53 n = m at *
  generalize n.log2 = L at *
  have c52 : 0 < 2 ^ 52 := by decide
  by_cases hs : k - ((L : Int) - 1126) ≤ 0
  · rw [if_pos hs, if_pos hs]
    obtain ⟨d, hd⟩ : ∃ d : Nat, d = (-(k - ((L : Int) - 1126))).toNat := ⟨_, rfl⟩
    obtain ⟨K, hK⟩ : ∃ K : Nat, K = (k + 1074).toNat := ⟨_, rfl⟩
    rw [← hd, ← hK]
    have hL : d + K + 52 = L := by omega
    have e1 : m * 2 ^ d * 2 ^ K * 2 ^ 52 = n * 2 ^ 52 := by
      rw [← t4, ← hL, Nat.pow_add, Nat.pow_add, Nat.mul_assoc, Nat.mul_assoc, Nat.mul_assoc]
    have e2 : m * 2 ^ d * 2 ^ K = n := Nat.eq_of_mul_eq_mul_right c52 e1
    refine ⟨fun _ => e2, fun Q hQ => ⟨rfl, ?_⟩⟩
    rw [hQ] at e2
    exact Nat.eq_of_mul_eq_mul_right (Nat.two_pow_pos K) e2
  · rw [if_neg hs, if_neg hs]
    obtain ⟨s, hs'⟩ : ∃ s : Nat, s = (k - ((L : Int) - 1126)).toNat := ⟨_, rfl⟩
    obtain ⟨K, hK⟩ : ∃ K : Nat, K = (k + 1074).toNat := ⟨_, rfl⟩
    rw [← hs', ← hK]
    have hL : s + L = K + 52 := by omega
    have hp := Nat.two_pow_pos s
    refine ⟨fun h => ?_, fun Q hQ => ?_⟩
    · have h1 : m % 2 ^ s = 0 := by simpa using h
      have h2 : cutQ m s neg mode = m / 2 ^ s := by unfold cutQ goes; rw [if_pos h1]; rfl
      rw [h2]
      have h3 := Nat.div_add_mod m (2 ^ s)
      rw [h1, Nat.add_zero] at h3
      have e1 : m / 2 ^ s * 2 ^ K * 2 ^ 52 = n * 2 ^ 52 := by
        rw [← t4, Nat.mul_assoc, ← Nat.pow_add, ← hL, Nat.pow_add, ← Nat.mul_assoc, Nat.mul_comm (m / 2 ^ s), h3]
      exact Nat.eq_of_mul_eq_mul_right c52 e1
    · have e1 : m * 2 ^ L = Q * 2 ^ s * 2 ^ L := by rw [t4, hQ, Nat.mul_assoc, ← Nat.pow_add, ← hL, Nat.mul_assoc, ← Nat.pow_add]
      have e2 : m = Q * 2 ^ s := Nat.eq_of_mul_eq_mul_right (Nat.two_pow_pos L) e1
      have h1 : m % 2 ^ s = 0 := by rw [e2]; exact Nat.mul_mod_left _ _
      refine ⟨by rw [h1]; rfl, ?_⟩
      have h2 : cutQ m s neg mode = m / 2 ^ s := by unfold cutQ goes; rw [if_pos h1]; rfl
      rw [h2, e2, Nat.mul_div_cancel _ hp]

theorem flags_zero {D lo most : Int} {neg : Bool} {m : Nat} {e mode : Int} : rFlags D lo most neg m e mode = 0 ↔ rOver D lo most neg m e mode = false ∧ rLost D lo m e = false := by
  unfold rFlags
  cases rOver D lo most neg m e mode <;> cases rLost D lo m e <;> simp
  split <;> omega

theorem wide_num {N : Nat} (b : Bool) (h : Fp.Rep Ieee.single N) : wWord (Fp.num Ieee.single b N) = Fp.num Ieee.double b (N * 2 ^ Fp.sgap) := by
  have hl := num_ltS h
  have e : Fp.num Ieee.single b N = Fp.num Ieee.single false N + sgnS b := num_sgnS b N
  have h1 : Fp.num Ieee.single b N % 2147483648 = Fp.num Ieee.single false N ∧ decide (2147483648 ≤ Fp.num Ieee.single b N) = b := by
    rw [e]; unfold sgnS
    cases b
    · rw [if_neg Bool.false_ne_true]; exact ⟨by omega, decide_eq_false (by omega)⟩
    · rw [if_pos rfl]; exact ⟨by omega, decide_eq_true (by omega)⟩
  unfold wWord
  rw [h1.1, h1.2, if_neg (by omega), if_neg (by omega)]
  have h2 : Fp.mag Ieee.single (Fp.num Ieee.single false N) = N := h.2
  rw [h2]

/-- a single's amount is rounded to itself -/
theorem single_exact {n N c j : Nat} (b : Bool) (mode : Int) (hmode : 0 ≤ mode ∧ mode ≤ 4) (h0 : n ≠ 0) (hR : Fp.Rep Ieee.double n) (hn : N * 2 ^ Fp.sgap = n) (hN : N = c * 2 ^ j) (h2 : N.log2 ≤ 23 + j) (h3 : N.log2 ≤ 276) (hlog : (N * 2 ^ Fp.sgap).log2 = N.log2 + Fp.sgap) :
    rFlags 24 (-149) 127 b (top53 n) ((n.log2 : Int) - 1126) mode = 0 ∧ sWord b (top53 n) ((n.log2 : Int) - 1126) mode = Fp.num Ieee.single false N + sgnS b := by
  rw [hn] at hlog
  have hsg := Fp.sgap_eq
  generalize Fp.sgap = g at *
  have hK := rK_top h0 hR 24 (-149)
  have hLI := lost_iff h0 hR 24 (-149) (by decide) b mode
  obtain ⟨t1, t2, _⟩ := top53_bounds h0 hR
  have hqs : rQ 24 (-149) b (top53 n) ((n.log2 : Int) - 1126) mode ≤ 16777216 := (rQ_le (D := 24) (lo := -149) b ((n.log2 : Int) - 1126) mode (m := top53 n) (by omega) (by omega) (by decide)).1
  have hlogn : ∀ q K, n = q * 2 ^ K → q.log2 + K = n.log2 := fun q K h => by
    have hq0 : q ≠ 0 := fun h1 => by rw [h1, Nat.zero_mul] at h; exact h0 h
    rw [h, Fp.log2_mul_pow q K hq0]
  unfold sWord
  have hov : rOver 24 (-149) 127 b (top53 n) ((n.log2 : Int) - 1126) mode = decide ((127 : Int) + 1 < rK 24 (-149) (top53 n) ((n.log2 : Int) - 1126) + (Lib.bitLen (rQ 24 (-149) b (top53 n) ((n.log2 : Int) - 1126) mode) : Nat)) := rfl
  have hfl := flags_zero (D := 24) (lo := -149) (most := 127) (neg := b) (m := top53 n) (e := (n.log2 : Int) - 1126) (mode := mode)
  generalize rFlags 24 (-149) 127 b (top53 n) ((n.log2 : Int) - 1126) mode = fl at *
  generalize rOver 24 (-149) 127 b (top53 n) ((n.log2 : Int) - 1126) mode = ov at *
  generalize rQ 24 (-149) b (top53 n) ((n.log2 : Int) - 1126) mode = q at *
  generalize rK 24 (-149) (top53 n) ((n.log2 : Int) - 1126) = k at *
  generalize rLost 24 (-149) (top53 n) ((n.log2 : Int) - 1126) = lo at *
  obtain ⟨K, hKe⟩ : ∃ K : Nat, K = (k + 1074).toNat := ⟨_, rfl⟩
  have hK1 : 925 ≤ K ∧ K ≤ j + 925 ∧ (K : Int) = k + 1074 := by omega
  have hQ : n = c * 2 ^ (j + g - K) * 2 ^ K := by
    rw [Nat.mul_assoc, ← Nat.pow_add, show j + g - K + K = j + g by omega, Nat.pow_add, ← Nat.mul_assoc, ← hN, hn]
  obtain ⟨l1, l2⟩ := hLI.2 _ (by rw [← hKe]; exact hQ)
  have hlq := hlogn _ _ hQ
  have hq0 : c * 2 ^ (j + g - K) ≠ 0 := fun h => by rw [h, Nat.zero_mul] at hQ; exact h0 hQ
  have hNN : c * 2 ^ (j + g - K) * 2 ^ (k + 149).toNat = N := by
    rw [show (k + 149).toNat = K - g by omega]
    have e4 : c * 2 ^ (j + g - K) * 2 ^ (K - g) * 2 ^ g = N * 2 ^ g := by
      rw [Nat.mul_assoc (c * 2 ^ (j + g - K)), ← Nat.pow_add, show K - g + g = K by omega, hn]; exact hQ.symm
    exact Nat.eq_of_mul_eq_mul_right (Nat.two_pow_pos _) e4
  rw [← l2] at hlq hq0 hNN
  have hbl : Lib.bitLen q = q.log2 + 1 := bitLen_log2 _ hq0 (by omega)
  rw [hbl] at hov
  have hov' : ov = false := by rw [hov]; exact decide_eq_false (by omega)
  refine ⟨hfl.2 ⟨hov', l1⟩, ?_⟩
  rw [hov', if_neg Bool.false_ne_true, hNN]

/-- a single made a number and made a single again -/
theorem narrow_wide {y : Nat} (hy : y < 4294967296) {mode : Int} (hmode : 0 ≤ mode ∧ mode ≤ 4) : nWord (wWord y) mode = canonS y ∧ nFlags (wWord y) mode = 0 := by
  have hm' : ¬¬(0 ≤ mode ∧ mode ≤ 4) := fun h => h hmode
  by_cases hn : 2139095040 < y % 2147483648
  · have hc : canonS y = 2143289344 := if_pos (decide_eq_true hn)
    have hw : wWord y = 9221120237041090561 := if_pos hn
    rw [hc, hw]
    unfold nWord nFlags
    rw [if_neg hm', if_neg hm']
    exact ⟨by rw [if_pos (by decide)], by rw [if_pos (by decide)]⟩
  have hc : canonS y = y := by unfold canonS nanS; rw [decide_eq_false hn]; exact if_neg Bool.false_ne_true
  have hsp : y = y % 2147483648 + sgnS (decide (2147483648 ≤ y)) := by
    unfold sgnS
    by_cases h : 2147483648 ≤ y
    · rw [decide_eq_true h, if_pos rfl]; omega
    · rw [decide_eq_false h, if_neg Bool.false_ne_true]; omega
  rw [hc]
  generalize hb : decide (2147483648 ≤ y) = b at hsp
  have hng : ∀ x, x < 9223372036854775808 → ngD (x + sgnD b) = b ∧ (x + sgnD b) % 9223372036854775808 = x := fun x hx => by
    unfold ngD sgnD
    cases b
    · rw [if_neg Bool.false_ne_true]; exact ⟨decide_eq_false (by omega), by omega⟩
    · rw [if_pos rfl]; exact ⟨decide_eq_true (by omega), by omega⟩
  by_cases hi : y % 2147483648 = 2139095040
  · have hw : wWord y = 9218868437227405312 + sgnD b := by unfold wWord; rw [if_neg hn, if_pos hi, hb]
    obtain ⟨g1, g2⟩ := hng 9218868437227405312 (by decide)
    rw [hw]
    unfold nWord nFlags
    rw [if_neg hm', if_neg hm', g1, g2]
    refine ⟨?_, rfl⟩
    rw [if_neg (by decide), if_neg (by decide), if_pos rfl, ← hi]
    exact hsp.symm
  have hI := single_is hy (by omega)
  rw [hb] at hI
  have hN := hI.rep Fp.sF
  have hw : wWord y = Fp.num Ieee.double b (Fp.mag Ieee.single (y % 2147483648) * 2 ^ Fp.sgap) := by unfold wWord; rw [if_neg hn, if_neg hi, hb]
  have hyn : y = Fp.num Ieee.single b (Fp.mag Ieee.single (y % 2147483648)) := hI.eq Fp.sF
  have hR := (Fp.widen_is hI).2
  have hmagq := Fp.mag_eq Ieee.single (y % 2147483648)
  have hlog : ∀ N, Fp.mag Ieee.single (y % 2147483648) = N → N ≠ 0 → ∃ c j, N = c * 2 ^ j ∧ N.log2 ≤ 23 + j ∧ N.log2 ≤ 276 := fun N hN0 h0 => by
    rw [hN0] at hmagq
    generalize hq : (if y % 2147483648 < Ieee.single.binade then y % 2147483648 else Ieee.single.binade + y % 2147483648 % Ieee.single.binade) = q at hmagq
    have hq2 : q < 2 ^ 24 := by
      rw [← hq, Fp.sB]
      have : (8388608 : Nat) + 8388608 = 2 ^ 24 := by decide
      split <;> omega
    refine ⟨q, y % 2147483648 / Ieee.single.binade - 1, hmagq, ?_, ?_⟩
    · have hq0 : q ≠ 0 := fun h => by rw [h, Nat.zero_mul] at hmagq; exact h0 hmagq
      rw [hmagq]
      unfold Fp.step
      rw [Fp.log2_mul_pow q _ hq0]
      have := (Nat.log2_lt hq0).2 hq2
      omega
    · have h1 : N < 2 ^ 24 * 2 ^ 253 := by
        have e1 : Fp.mag Ieee.single Ieee.single.infRung = 2 ^ 24 * 2 ^ 253 := by decide +kernel
        rw [← e1, ← hN0]
        exact Fp.mag_mono_lt Ieee.single (by rw [Fp.sI]; omega)
      rw [← Nat.pow_add] at h1
      have := (Nat.log2_lt h0).2 h1
      omega
  generalize Fp.mag Ieee.single (y % 2147483648) = N at *
  have hl := num_lt hR
  rw [num_sgn] at hw
  obtain ⟨g1, g2⟩ := hng (Fp.num Ieee.double false (N * 2 ^ Fp.sgap)) (by omega)
  have hmag : magD (wWord y) = N * 2 ^ Fp.sgap := by unfold magD; rw [hw, g2]; exact (rep_lt hR).2
  unfold nWord nFlags
  have hnn : ¬ 9218868437227405312 < Fp.num Ieee.double false (N * 2 ^ Fp.sgap) := by omega
  have hne : ¬ Fp.num Ieee.double false (N * 2 ^ Fp.sgap) = 9218868437227405312 := by omega
  rw [if_neg hm', if_neg hm', hmag, hw, g1, g2, if_neg hnn, if_neg hnn]
  by_cases h0 : N = 0
  · subst h0
    have e0 : Fp.num Ieee.double false (0 * 2 ^ Fp.sgap) = 0 := by rw [Nat.zero_mul]; exact Fp.grid_zero Ieee.double 0
    rw [if_pos e0, if_pos e0]
    refine ⟨?_, rfl⟩
    rw [hyn, num_sgnS]
    have e1 : Fp.num Ieee.single false 0 = 0 := Fp.grid_zero Ieee.single 0
    rw [e1, Nat.zero_add]
  · have hn0 : N * 2 ^ Fp.sgap ≠ 0 := Nat.mul_ne_zero h0 (Nat.ne_of_gt (Nat.two_pow_pos _))
    have e0 : ¬ Fp.num Ieee.double false (N * 2 ^ Fp.sgap) = 0 := fun h => by
      have := (rep_lt hR).2
      rw [h, Fp.mag_zero] at this
      exact hn0 this.symm
    rw [if_neg e0, if_neg e0, if_neg hne, if_neg hne]
    obtain ⟨c, j, h1, h2, h3⟩ := hlog N rfl h0
    obtain ⟨x1, x2⟩ := single_exact b mode hmode hn0 hR rfl h1 h2 h3 (Fp.log2_mul_pow N Fp.sgap h0)
    exact ⟨x2.trans (hyn.trans (num_sgnS b N)).symm, x1⟩

end Go.Proofs.YtifgngmebnjfkaaDoor
