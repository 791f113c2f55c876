/- Package convert: Add, whole: what it comes to. -/
import Derived.Test.YtifgngmebnjfkaaDoorCv13
import Derived.Test.YtifgngmebnjfkaaDoorCvp5
namespace Go.Proofs.YtifgngmebnjfkaaDoor
open Go.RowKit

/-! NaNs that are drawn -/
theorem nanb_gt (x y t : Nat) : 9218868437227405312 < (Question.nanBits .f64 x y).cut t % 9223372036854775808 := by
  have e : (Question.nanBits .f64 x y).cut t = (t % 2) * 2 ^ 63 + 0x7ff0000000000000 + 1 + (t / 2) % (2 ^ 52 - 1) := rfl
  have h1 : t / 2 % (2 ^ 52 - 1) < 4503599627370495 := Nat.mod_lt _ (by decide)
  rw [e]
  generalize t / 2 % (2 ^ 52 - 1) = r at *
  rcases Nat.mod_two_eq_zero_or_one t with h | h <;> rw [h] <;> omega
theorem nanc_gt (x t : Nat) : 9218868437227405312 < (Question.nanConv .f64 x).cut t % 9223372036854775808 := by
  have e : (Question.nanConv .f64 x).cut t = (t % 2) * 2 ^ 63 + 0x7ff0000000000000 + 1 + (t / 2) % (2 ^ 52 - 1) := rfl
  have h1 : t / 2 % (2 ^ 52 - 1) < 4503599627370495 := Nat.mod_lt _ (by decide)
  rw [e]
  generalize t / 2 % (2 ^ 52 - 1) = r at *
  rcases Nat.mod_two_eq_zero_or_one t with h | h <;> rw [h] <;> omega
theorem ne_true {a : Nat} (h : 9218868437227405312 < a % 9223372036854775808) : (FloatKind.f64.format.order a a != some .eq) = true := by rw [ne_self, decide_eq_true h]
theorem ne_false {a : Nat} (h : a % 9223372036854775808 ≤ 9218868437227405312) : (FloatKind.f64.format.order a a != some .eq) = false := by rw [ne_self, decide_eq_false (by omega)]
theorem nan_zero {a : Nat} (h : 9218868437227405312 < a % 9223372036854775808) : (FloatKind.f64.format.order a 0 == some .eq) = false := by
  show (Ieee.double.order a 0 == some .eq) = false
  rw [Fp.order64_nan a 0 (.inl (decide_eq_true h))]; rfl
theorem read_nanD {a : Nat} (h : 9218868437227405312 < a % 9223372036854775808) : ∃ s t, Ieee.double.read a = .nan s t := ⟨_, _, Fp.read_nan Ieee.double a (by rw [Fp.rg64, Fp.dI]; exact h) Fp.dBI⟩
theorem add_nan {a b : Nat} (h : 9218868437227405312 < a % 9223372036854775808 ∨ 9218868437227405312 < b % 9223372036854775808) : Ieee.double.add a b = none := by
  unfold Ieee.Format.add
  rcases h with h | h
  · obtain ⟨s, t, e⟩ := read_nanD h
    rw [e]; rfl
  · obtain ⟨s, t, e⟩ := read_nanD h
    rw [e]
    cases Ieee.double.read a <;> rfl
theorem decode_nan {x : Nat} (h : 2139095040 < x % 2147483648) : ∃ g i, FloatKind.f32.decode x = .nan g i := ⟨_, _, Fp.read_nan Ieee.single x (by rw [Fp.rg32, Fp.sI]; exact h) Fp.sBI⟩

/-- the sign of a single -/
def ngS (x : Nat) : Bool := decide (2147483648 ≤ x)
/-- a finite single, in units -/
def uS (x : Nat) : Int := Fp.val (ngS x) (Fp.mag Ieee.single (x % 2147483648) * 2 ^ Fp.sgap)
/-- a finite single as a number -/
theorem wide_ok {x : Nat} (hx : x < 4294967296) (hf : x % 2147483648 < 2139095040) : ∃ a, floatToFloatBits .f32 x .f64 = some a ∧ Fi a ∧ Fp.un Ieee.double a = uS x ∧ ngD a = ngS x ∧ (uS x).natAbs ≤ 2 ^ 1500 := by
  have hI := single_is hx hf
  obtain ⟨h1, h2⟩ := Fp.widen_is hI
  have hl := num_lt h2
  have J := Fp.Rep.is h2 (decide (2147483648 ≤ x))
  have e := num_sgn (decide (2147483648 ≤ x)) (Fp.mag Ieee.single (x % 2147483648) * 2 ^ Fp.sgap)
  have hF : Fi (Fp.num Ieee.double (decide (2147483648 ≤ x)) (Fp.mag Ieee.single (x % 2147483648) * 2 ^ Fp.sgap)) := by
    refine ⟨J.1, ?_⟩
    rw [e]; unfold sgnD; split <;> omega
  refine ⟨_, wbits_num hf hF.2 h1, hF, J.un, ?_, ?_⟩
  · rw [e]; unfold ngD ngS sgnD
    cases decide (2147483648 ≤ x)
    · rw [if_neg Bool.false_ne_true]; exact decide_eq_false (by omega)
    · rw [if_pos rfl]; exact decide_eq_true (by omega)
  · have hm : Fp.mag Ieee.single (x % 2147483648) ≤ Fp.mag Ieee.single Ieee.single.infRung := Fp.mag_mono Ieee.single (by rw [Fp.sI]; omega)
    obtain ⟨K, hK⟩ : ∃ K : Nat, K = 1500 := ⟨_, rfl⟩
    have hb : Fp.mag Ieee.single (x % 2147483648) * 2 ^ Fp.sgap ≤ 2 ^ K := by
      obtain ⟨J0, hJ⟩ : ∃ J0 : Nat, J0 = 253 := ⟨_, rfl⟩
      have e1 : Fp.mag Ieee.single Ieee.single.infRung = 2 ^ 24 * 2 ^ J0 := by rw [hJ]; decide +kernel
      rw [e1, ← Nat.pow_add] at hm
      refine Nat.le_trans (Nat.mul_le_mul_right _ hm) ?_
      rw [← Nat.pow_add]
      exact Nat.pow_le_pow_right (by decide) (by have := Fp.sgap_eq; omega)
    rw [← hK]
    unfold uS Fp.val
    generalize Fp.mag Ieee.single (x % 2147483648) * 2 ^ Fp.sgap = A at *
    generalize 2 ^ K = T at *
    split <;> omega

def noughtW (a b : Bool) (mode : Int) : Nat := if (a && b) || (a != b && decide (mode = 4)) then 2147483648 else 0
theorem nought_any (a b : Bool) (mode : Int) (w : World) : Calls Tryd.prog 118 #[.bool a, .bool b, .int .i64 mode] w fun e w' => e = .returned (.float .f32 (noughtW a b mode)) ∧ w = w' := by
  unfold noughtW
  cases a <;> cases b
  · exact nought_pp mode w
  · by_cases h : mode = 4
    · subst h; exact nought_false_down w
    · have : (false && true || (false != true && decide (mode = 4))) = false := by rw [decide_eq_false h]; rfl
      rw [this]; exact nought_false_other mode (by rw [beq_eq_false_iff_ne]; exact h) w
  · by_cases h : mode = 4
    · subst h; exact nought_true_down w
    · have : (true && false || (true != false && decide (mode = 4))) = false := by rw [decide_eq_false h]; rfl
      rw [this]; exact nought_true_other mode (by rw [beq_eq_false_iff_ne]; exact h) w
  · exact nought_nn mode w

/-! a number nudged -/
def nudM (S L : Int) : Nat := if L = 0 then 4 * top53 S.natAbs else if decide (0 < L) = decide (0 < S) then 4 * top53 S.natAbs + 1 else 4 * top53 S.natAbs - 1
def nudE (S : Int) : Int := (S.natAbs.log2 : Int) - 1128
theorem un_nat {s : Nat} (hs : Fi s) : magD s = (Fp.un Ieee.double s).natAbs ∧ (Fp.un Ieee.double s ≠ 0 → ngD s = decide (Fp.un Ieee.double s < 0)) := by
  have h := un_parts hs.1
  rw [h]
  refine ⟨by split <;> omega, fun h0 => ?_⟩
  cases hb : ngD s
  · rw [if_neg Bool.false_ne_true]; symm; exact decide_eq_false (by omega)
  · rw [hb, if_pos rfl] at h0
    rw [if_pos rfl]
    symm; exact decide_eq_true (by omega)
theorem zero_fi : Fi 0 := ⟨by decide, by decide⟩
theorem eq_un0 {s : Nat} (hs : Fi s) : (FloatKind.f64.format.order s 0 == some .eq) = decide (Fp.un Ieee.double s = 0) := by
  rw [un_eq hs.le (by decide), zero_un]
theorem gt_un0 {s : Nat} (hs : Fi s) : (FloatKind.f64.format.order s 0 == some .gt) = decide (0 < Fp.un Ieee.double s) := by
  rw [un_gt hs.le (by decide), zero_un]
theorem nud_bounds {S L : Int} (h0 : S ≠ 0) (hR : Fp.Rep Ieee.double S.natAbs) : nudM S L ≠ 0 ∧ nudM S L < 18446744073709551616 ∧ -1128 ≤ nudE S ∧ nudE S ≤ 969 := by
  obtain ⟨t1, t2, t3, _⟩ := top53_bounds (n := S.natAbs) (by omega) hR
  unfold nudM nudE
  refine ⟨?_, ?_, by omega, by omega⟩
  · split
    · omega
    split <;> omega
  · split
    · omega
    split <;> omega
theorem nudge_le {s l : Nat} (hs : Fi s) (hl : l % 9223372036854775808 ≤ 9218868437227405312) (h0 : Fp.un Ieee.double s ≠ 0) (w : World) : Calls Tryd.prog 91 #[.float .f64 s, .float .f64 l] w fun e' w' => e' = .returned (.agg #[.bool (decide (Fp.un Ieee.double s < 0)), .int .u64 (nudM (Fp.un Ieee.double s) (Fp.un Ieee.double l)), .int .i64 (nudE (Fp.un Ieee.double s))]) ∧ Within w w' := by
  obtain ⟨m1, m2⟩ := un_nat hs
  have hR := magD_rep hs.2
  have hm0 : magD s ≠ 0 := by omega
  obtain ⟨t1, t2, t3, _⟩ := top53_bounds hm0 hR
  have TK := Lib.hid (fun w => take_any s (magD s) hs.1 hm0 hs.2 rfl w)
  have e1 : (decide (9223372036854775808 ≤ s)) = decide (Fp.un Ieee.double s < 0) := m2 h0
  rw [e1, m1] at TK
  rw [m1] at t1 t2 t3
  have hz : (FloatKind.f64.format.order l 0 == some .eq) = decide (Fp.un Ieee.double l = 0) := by rw [un_eq hl (by decide), zero_un]
  have hg : (FloatKind.f64.format.order l 0 == some .gt) = decide (0 < Fp.un Ieee.double l) := by rw [un_gt hl (by decide), zero_un]
  have hgs := gt_un0 hs
  unfold nudM nudE
  generalize Fp.un Ieee.double s = S at *
  generalize Fp.un Ieee.double l = L at *
  have e2 : (S.natAbs.log2 : Int) - 1128 = (S.natAbs.log2 : Int) - 1126 - 2 := by omega
  rw [e2]
  by_cases z : L = 0
  · rw [decide_eq_true z] at hz
    rw [if_pos z]
    exact nudge_zero s l (top53 S.natAbs) (4 * top53 S.natAbs - 1) _ (4 * top53 S.natAbs + 1) _ _ (by omega) rfl rfl (by omega) (by omega) (by omega) TK hz w
  rw [decide_eq_false z] at hz
  rw [if_neg z]
  by_cases g : decide (0 < L) = decide (0 < S)
  · rw [if_pos g]
    exact nudge_up s l (top53 S.natAbs) (4 * top53 S.natAbs - 1) (4 * top53 S.natAbs) _ _ _ (by omega) rfl rfl (by omega) (by omega) (by omega) TK hz _ hg (by rw [hgs, g]) w
  · rw [if_neg g]
    exact nudge_down s l (top53 S.natAbs) _ (4 * top53 S.natAbs) (4 * top53 S.natAbs + 1) _ _ (by omega) rfl rfl (by omega) (by omega) (by omega) TK hz _ hg (by rw [hgs]; revert g; cases decide (0 < L) <;> cases decide (0 < S) <;> decide) w
theorem nudge_any {s l : Nat} (hs : Fi s) (hl : Fi l) (h0 : Fp.un Ieee.double s ≠ 0) (w : World) : Calls Tryd.prog 91 #[.float .f64 s, .float .f64 l] w fun e' w' => e' = .returned (.agg #[.bool (decide (Fp.un Ieee.double s < 0)), .int .u64 (nudM (Fp.un Ieee.double s) (Fp.un Ieee.double l)), .int .i64 (nudE (Fp.un Ieee.double s))]) ∧ Within w w' := nudge_le hs hl.le h0 w

/-! what Add comes to, of numbers that are none of the NaNs and not both infinite -/
def addW (A B : Int) (na nb : Bool) (mode : Int) : Nat :=
  if sumS A B = 0 then (if A = 0 then noughtW na nb mode else noughtW false true mode)
  else sWord (decide (sumS A B < 0)) (nudM (sumS A B) (sumL A B)) (nudE (sumS A B)) mode
def addF (A B : Int) (mode : Int) : Int :=
  if sumS A B = 0 then 0 else rFlags 24 (-149) 127 (decide (sumS A B < 0)) (nudM (sumS A B) (sumL A B)) (nudE (sumS A B)) mode
theorem finite_ok {s : Nat} (hs : Fi s) (w : World) : Calls Tryd.prog 89 #[.float .f64 s] w fun e w' => e = .returned (.bool true) ∧ w = w' := by
  obtain ⟨z, z1, z2, z3⟩ := sub_ok hs hs (by rw [Int.sub_self]; exact Nat.zero_le _)
  rw [Int.sub_self, rn_zero] at z3
  exact finite_core s z true z1 (by rw [eq_un0 z2, z3]; rfl) w
theorem sum_fin {a b : Nat} {mode : Int} (ha : Fi a) (hb : Fi b) (h1 : (Fp.un Ieee.double a).natAbs ≤ 2 ^ 1500) (h2 : (Fp.un Ieee.double b).natAbs ≤ 2 ^ 1500) (hmode : 0 ≤ mode ∧ mode ≤ 4) (w : World) (hT : FmS w) : Calls Tryd.prog 87 #[.float .f64 a, .float .f64 b, .int .i64 mode] w fun e' w' => e' = .returned (.tuple #[.float .f32 (addW (Fp.un Ieee.double a) (Fp.un Ieee.double b) (decide (9223372036854775808 ≤ a)) (decide (9223372036854775808 ≤ b)) mode), .int .i64 (addF (Fp.un Ieee.double a) (Fp.un Ieee.double b) mode)]) ∧ Within w w' := by
  obtain ⟨s, t, u, v, x, l, k0, k1, k2, k3, k4, k5, hs, hl, e1, e2⟩ := sum_words ha hb h1 h2
  have FI := Lib.hid (fun w => finite_ok hs w)
  have hz := eq_un0 hs
  unfold addW addF
  rw [← e1, ← e2]
  by_cases z : Fp.un Ieee.double s = 0
  · rw [decide_eq_true z] at hz
    rw [if_pos z, if_pos z]
    have ha0 := eq_un0 ha
    by_cases a0 : Fp.un Ieee.double a = 0
    · rw [decide_eq_true a0] at ha0
      rw [if_pos a0]
      exact sum_noughts a b mode (ne_false ha.le) (ne_false hb.le) s k0 (ne_false hs.le) FI hz (by simp [bne, ha0]) _ _ _ (Lib.hid fun w => m_signbit a ha.1 w) (Lib.hid fun w => m_signbit b hb.1 w) (Lib.hid fun w => nought_any _ _ mode w) w
    · rw [decide_eq_false a0] at ha0
      rw [if_neg a0]
      exact sum_cancel a b s _ mode (ne_false ha.le) (ne_false hb.le) (ne_false hs.le) k0 FI hz (by simp [bne, ha0]) (Lib.hid fun w => nought_any false true mode w) w
  · rw [decide_eq_false z] at hz
    rw [if_neg z, if_neg z]
    have hR : Fp.Rep Ieee.double (Fp.un Ieee.double s).natAbs := by rw [← (un_nat hs).1]; exact magD_rep hs.2
    obtain ⟨b1, b2, b3, b4⟩ := nud_bounds (L := Fp.un Ieee.double l) z hR
    exact sum_main a b mode (ne_false ha.le) (ne_false hb.le) s k0 (ne_false hs.le) FI hz t u v x l k1 k2 k3 k4 k5 _ _ _ _ _ _ (Lib.hid fun w => nudge_any hs hl z w)
      (Lib.hid fun w => round_S (decide (Fp.un Ieee.double s < 0)) _ _ mode b1 b2 (by omega) (by omega) hmode w) (sWord_bits _ _ mode b1 b2) w hT
end Go.Proofs.YtifgngmebnjfkaaDoor
