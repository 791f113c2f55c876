/- ConvertTurned: what comes of turned signs is turned. -/
import Derived.Test.YtifgngmebnjfkaaDoorLawTurned
namespace Go.Proofs.YtifgngmebnjfkaaDoor
open Go.RowKit

/-- two singles alike but for the sign, or two NaNs -/
def Mirr (A B : Nat) : Prop := (isN A = true ∧ isN B = true) ∨ (isN A = false ∧ A < 4294967296 ∧ B = tuS A)
theorem Mirr.of {A : Nat} (h : A < 4294967296) : Mirr A (tuS A) := by
  cases g : isN A
  · exact .inr ⟨g, h, rfl⟩
  · exact .inl ⟨g, by rw [tuS_N h]; exact g⟩
theorem Mirr.qnan : Mirr 2143289344 2143289344 := .inl ⟨by decide, by decide⟩
theorem mirror_true {A B : Nat} (h : Mirr A B) (w : World) : Calls Tryd.prog 52 #[.float .f32 A, .float .f32 B] w fun e' w' => e' = .returned (.bool true) ∧ w = w' := by
  rcases h with ⟨h1, h2⟩ | ⟨h1, h2, rfl⟩
  · exact mirror_nan A B (by rw [ne32, h1]) (by rw [ne32, h2]) w
  · have := mirror_eq A (tuS A) (by rw [ne32, h1]) _ (u32_turn h2) w
    rw [beq_self_eq_true] at this
    exact this
theorem mirror_false {A B : Nat} (h1 : isN A = false) (h2 : A < 4294967296) (h3 : tuS A ≠ B) (w : World) : Calls Tryd.prog 52 #[.float .f32 A, .float .f32 B] w fun e' w' => e' = .returned (.bool false) ∧ w = w' := by
  have := mirror_eq A B (by rw [ne32, h1]) _ (u32_turn h2) w
  rw [beq_eq_false_iff_ne.2 (show (tuS A : Int) ≠ (B : Int) by omega)] at this
  exact this
theorem sWord_tu (neg : Bool) {m : Nat} (e mode : Int) (h0 : m ≠ 0) (hm : m < 18446744073709551616) : sWord (!neg) m e (tm mode) = tuS (sWord neg m e mode) ∧ sWord neg m e mode < 4294967296 := by
  unfold sWord
  rw [rOver_tu, rTop_tu, rQ_tu]
  have hb : (if rOver 24 (-149) 127 neg m e mode then (if rTop neg mode then 2139095039 else 2139095040) else Fp.num Ieee.single false (rQ 24 (-149) neg m e mode * 2 ^ (rK 24 (-149) m e + 149).toNat)) < 2147483648 := by
    cases hr : rOver 24 (-149) 127 neg m e mode
    · rw [if_neg Bool.false_ne_true]
      exact Nat.lt_trans (num_ltS (sAmt_rep neg e mode h0 hm hr).1) (by decide)
    · rw [if_pos rfl]; split <;> decide
  generalize (if rOver 24 (-149) 127 neg m e mode then (if rTop neg mode then 2139095039 else 2139095040) else Fp.num Ieee.single false (rQ 24 (-149) neg m e mode * 2 ^ (rK 24 (-149) m e + 149).toNat)) = n at *
  refine ⟨sgnS_tu neg hb, ?_⟩
  unfold sgnS; split <;> omega
theorem sgnS_self (b : Bool) : sgnS (!b) = tuS (sgnS b) ∧ sgnS b < 4294967296 := by cases b <;> decide
theorem infS_self (b : Bool) : infS (!b) = tuS (infS b) ∧ infS b < 4294967296 := by cases b <;> decide
theorem magD_tu {a : Nat} (h : a < 18446744073709551616) : magD (tuD a) = magD a := by unfold magD; rw [tuD_mod h]
theorem nWord_mirr {a : Nat} {mode : Int} (ha : a < 18446744073709551616) (hmode : 0 ≤ mode ∧ mode ≤ 4) : Mirr (nWord a mode) (nWord (tuD a) (tm mode)) ∧ nFlags (tuD a) (tm mode) = nFlags a mode := by
  have hm' : ¬¬(0 ≤ mode ∧ mode ≤ 4) := fun h => h hmode
  have ht' : ¬¬(0 ≤ tm mode ∧ tm mode ≤ 4) := fun h => h (tm_ok hmode)
  unfold nWord nFlags
  rw [if_neg hm', if_neg hm', if_neg ht', if_neg ht', tuD_mod ha, tuD_ng ha, magD_tu ha]
  by_cases hn : 9218868437227405312 < a % 9223372036854775808
  · rw [if_pos hn, if_pos hn, if_pos hn, if_pos hn]; exact ⟨.qnan, rfl⟩
  rw [if_neg hn, if_neg hn, if_neg hn, if_neg hn]
  by_cases hz : a % 9223372036854775808 = 0
  · rw [if_pos hz, if_pos hz, if_pos hz, if_pos hz, (sgnS_self _).1]; exact ⟨.of (sgnS_self _).2, rfl⟩
  rw [if_neg hz, if_neg hz, if_neg hz, if_neg hz]
  by_cases hi : a % 9223372036854775808 = 9218868437227405312
  · rw [if_pos hi, if_pos hi, if_pos hi, if_pos hi]
    have := infS_self (ngD a)
    unfold infS at this
    rw [this.1]; exact ⟨.of this.2, rfl⟩
  rw [if_neg hi, if_neg hi, if_neg hi, if_neg hi, rFlags_tu]
  have h0 : magD a ≠ 0 := fun h => hz (magD_zero.1 h)
  obtain ⟨t1, t2, t3, _⟩ := top53_bounds h0 (magD_rep (by omega))
  obtain ⟨s1, s2⟩ := sWord_tu (ngD a) (((magD a).log2 : Int) - 1126) mode (m := top53 (magD a)) (by omega) (by omega)
  rw [s1]; exact ⟨.of s2, rfl⟩
theorem uS_tu {x : Nat} (h : x < 4294967296) : uS (tuS x) = -uS x := by
  unfold uS Fp.val
  rw [tuS_mod h, tuS_ng h]
  cases ngS x <;> simp
theorem wD_tu {x : Nat} (hx : x < 4294967296) (h : isN x = false) : wD (tuS x) = tuD (wD x) := by
  have hx' := tuS_lt hx
  have h' : isN (tuS x) = false := by rw [tuS_N hx]; exact h
  cases hi : isI x
  · have hi' : isI (tuS x) = false := by rw [tuS_I hx]; exact hi
    obtain ⟨f1, u1, n1⟩ := wD_fin hx h hi
    obtain ⟨f2, u2, n2⟩ := wD_fin hx' h' hi'
    have g := num_mag f2.1 f2.2
    have g' := num_mag (x := tuD (wD x)) (tuD_lt f1.1) (by rw [tuD_mod f1.1]; exact f1.2)
    have m2 := (un_nat f2).1
    have m1 := (un_nat f1).1
    rw [u2, uS_tu hx, Int.natAbs_neg, ← u1, ← m1] at m2
    rw [g, g', n2, m2, tuD_ng f1.1, n1, tuS_ng hx, magD_tu f1.1]
  · rw [wD_inf hx hi, wD_inf hx' (by rw [tuS_I hx]; exact hi), tuS_ng hx]
    cases ngS x <;> decide
theorem mul_mirr {x y : Nat} {mode : Int} (hx : x < 4294967296) (hy : y < 4294967296) (hmode : 0 ≤ mode ∧ mode ≤ 4) : Mirr (mulWd x y mode) (mulWd (tuS x) y (tm mode)) ∧ mulFl (tuS x) y (tm mode) = mulFl x y mode := by
  unfold mulWd mulFl
  rw [tuS_N hx]
  by_cases hn : (isN x || isN y) = true
  · rw [if_pos hn, if_pos hn, if_pos hn, if_pos hn]; exact ⟨.qnan, rfl⟩
  rw [if_neg hn, if_neg hn, if_neg hn, if_neg hn]
  have nx : isN x = false := by revert hn; cases isN x <;> simp
  obtain ⟨_, l1, _⟩ := wD_eq hx nx
  rw [wD_tu hx nx, mul_tu _ l1]
  cases hm : Ieee.double.mul (wD x) (wD y) with
  | none => exact ⟨.qnan, rfl⟩
  | some p => exact nWord_mirr (mul_good hm).1 hmode
theorem nud_tu {S L : Int} (h0 : S ≠ 0) : nudM (-S) (-L) = nudM S L ∧ nudE (-S) = nudE S ∧ decide (-S < 0) = !decide (S < 0) := by
  unfold nudM nudE
  rw [Int.natAbs_neg]
  refine ⟨?_, rfl, ?_⟩
  · by_cases l0 : L = 0
    · rw [if_pos l0, if_pos (by omega)]
    · rw [if_neg l0, if_neg (by omega)]
      have e : (decide (0 < -L) = decide (0 < -S)) = (decide (0 < L) = decide (0 < S)) := by
        rw [show decide (0 < -L) = !decide (0 < L) by rw [Bool.eq_iff_iff]; simp; omega, show decide (0 < -S) = !decide (0 < S) by rw [Bool.eq_iff_iff]; simp; omega]
        cases decide (0 < L) <;> cases decide (0 < S) <;> simp
      simp only [e]
  · rw [Bool.eq_iff_iff]; simp; omega
theorem div_mirr {x y : Nat} {mode : Int} (hx : x < 4294967296) (hy : y < 4294967296) (hmode : 0 ≤ mode ∧ mode ≤ 4) : Mirr (divWd x y mode) (divWd x (tuS y) (tm mode)) ∧ divFl x (tuS y) (tm mode) = divFl x y mode := by
  unfold divWd divFl
  rw [tuS_N hy, tuS_mod hy]
  by_cases hn : (isN x || isN y) = true
  · rw [if_pos hn, if_pos hn, if_pos hn, if_pos hn]; exact ⟨.qnan, rfl⟩
  rw [if_neg hn, if_neg hn, if_neg hn, if_neg hn]
  have nx : isN x = false := by revert hn; cases isN x <;> simp
  have ny : isN y = false := by revert hn; cases isN x <;> cases isN y <;> simp
  obtain ⟨_, l1, _⟩ := wD_eq hy ny
  rw [wD_tu hy ny, div_tu _ l1]
  cases hm : Ieee.double.div (wD x) (wD y) with
  | none => exact ⟨.qnan, rfl⟩
  | some p =>
    obtain ⟨p1, p2⟩ := div_good hm
    show Mirr (if p % 9223372036854775808 = 0 then sgnS (ngD p) else if p % 9223372036854775808 = 9218868437227405312 then infS (ngD p) else sWord (decide (Fp.un Ieee.double p < 0)) (nudM (Fp.un Ieee.double p) (restU x y p)) (nudE (Fp.un Ieee.double p)) mode)
        (if tuD p % 9223372036854775808 = 0 then sgnS (ngD (tuD p)) else if tuD p % 9223372036854775808 = 9218868437227405312 then infS (ngD (tuD p)) else sWord (decide (Fp.un Ieee.double (tuD p) < 0)) (nudM (Fp.un Ieee.double (tuD p)) (restU x (tuS y) (tuD p))) (nudE (Fp.un Ieee.double (tuD p))) (tm mode)) ∧
      (if y % 2147483648 = 0 then (if isI x then (0 : Int) else 16) else if tuD p % 9223372036854775808 = 0 then 0 else if tuD p % 9223372036854775808 = 9218868437227405312 then 0 else rFlags 24 (-149) 127 (decide (Fp.un Ieee.double (tuD p) < 0)) (nudM (Fp.un Ieee.double (tuD p)) (restU x (tuS y) (tuD p))) (nudE (Fp.un Ieee.double (tuD p))) (tm mode)) =
      (if y % 2147483648 = 0 then (if isI x then (0 : Int) else 16) else if p % 9223372036854775808 = 0 then 0 else if p % 9223372036854775808 = 9218868437227405312 then 0 else rFlags 24 (-149) 127 (decide (Fp.un Ieee.double p < 0)) (nudM (Fp.un Ieee.double p) (restU x y p)) (nudE (Fp.un Ieee.double p)) mode)
    rw [tuD_mod p1, tuD_ng p1]
    by_cases hz : p % 9223372036854775808 = 0
    · simp only [if_pos hz]
      rw [(sgnS_self _).1]; exact ⟨.of (sgnS_self _).2, trivial⟩
    simp only [if_neg hz]
    by_cases hi : p % 9223372036854775808 = 9218868437227405312
    · simp only [if_pos hi]
      rw [(infS_self _).1]; exact ⟨.of (infS_self _).2, trivial⟩
    simp only [if_neg hi]
    obtain ⟨fa, fb⟩ := div_numbers (wD_or hx nx) (wD_or hy ny) hm hz hi
    have fp : Fi p := ⟨p1, by omega⟩
    have S0 : Fp.un Ieee.double p ≠ 0 := fun h => by
      have g := (un_nat fp).1
      rw [h] at g
      exact hz (magD_zero.1 g)
    have iy : isI y = false := by
      cases g : isI y
      · rfl
      · have := wD_inf hy g
        have fb2 := fb.2
        rw [this, inf_mod] at fb2; omega
    have yz : uS y ≠ 0 := fun h => by
      have g := (un_nat fb).1
      rw [(wD_fin hy ny iy).2.1, h] at g
      exact hi (div_by_zero (.inl fa) fb (magD_zero.1 g) hm)
    have hrest : restU x (tuS y) (tuD p) = -restU x y p := by
      unfold restU
      rw [wD_tu hy ny, uS_tu hy, fma_tu _ (tuD_lt p1) (tuD_lt fb.1), tuD_tuD fb.1]
      by_cases g : uS y < 0
      · rw [if_pos g, if_neg (by omega), Int.neg_neg]
      · rw [if_neg g, if_pos (by omega)]
    have hR : Fp.Rep Ieee.double (Fp.un Ieee.double p).natAbs := by rw [← (un_nat fp).1]; exact magD_rep fp.2
    obtain ⟨b1, b2, _, _⟩ := nud_bounds (L := restU x y p) S0 hR
    obtain ⟨n1, n2, n3⟩ := nud_tu (L := restU x y p) S0
    obtain ⟨s1, s2⟩ := sWord_tu (decide (Fp.un Ieee.double p < 0)) (nudE (Fp.un Ieee.double p)) mode b1 b2
    rw [hrest, un_tuD p1, n1, n2, n3, s1, rFlags_tu]
    exact ⟨.of s2, rfl⟩
end Go.Proofs.YtifgngmebnjfkaaDoor
