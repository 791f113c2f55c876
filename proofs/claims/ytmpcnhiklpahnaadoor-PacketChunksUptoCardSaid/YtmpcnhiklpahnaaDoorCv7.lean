/- Package convert: Narrow, Widen, Fits: walks, and what they come to. -/
import Derived.Test.YtmpcnhiklpahnaaDoorCv6
namespace Go.Proofs.YtmpcnhiklpahnaaDoor
open Go.RowKit

set_option maxRecDepth 100000 in
set_option maxHeartbeats 600000 in
theorem narrow_bad (a : Nat) (mode : Int) (KN : Hid (∀ w, Calls Tryd.prog 54 #[.int .i64 mode] w fun e' w' => e' = .returned (.bool false) ∧ w = w')) (w : World) : Calls Tryd.prog 40 #[.float .f64 a, .int .i64 mode] w fun e' w' => e' = .returned (.tuple #[.float .f32 0, .int .i64 0, .int .i64 20]) ∧ Within w w' := by
  go_enter Tryd.func40, Tryd.ntmps40
  go_wp2_with fail
  refine (KN.out _).mono ?_; rintro e1 w1 ⟨rfl, rfl⟩
  go_wp2
  go_ret3
  exact ⟨rfl, (by repeat (first | with_reducible exact Within.refl _ | with_reducible assumption | with_reducible refine Within.alloc ?_ _ | with_reducible refine Within.drew ?_ | with_reducible refine Within.setCell ?_ (by first | (simp; done) | (simp; omega)) _ | with_reducible refine Within.trans ?_ (by assumption)))⟩

set_option maxRecDepth 100000 in
set_option maxHeartbeats 600000 in
theorem narrow_nan (a : Nat) (mode : Int) (KN : Hid (∀ w, Calls Tryd.prog 54 #[.int .i64 mode] w fun e' w' => e' = .returned (.bool true) ∧ w = w')) (hx : (FloatKind.f64.format.order a a != some .eq) = true) (NO : Hid (∀ w, Calls Tryd.prog 55 #[] w fun e' w' => e' = .returned (.float .f32 2143289344) ∧ Within w w')) (w : World) : Calls Tryd.prog 40 #[.float .f64 a, .int .i64 mode] w fun e' w' => e' = .returned (.tuple #[.float .f32 2143289344, .int .i64 0, .int .i64 0]) ∧ Within w w' := by
  go_enter Tryd.func40, Tryd.ntmps40
  go_wp2_with fail
  refine (KN.out _).mono ?_; rintro e1 w1 ⟨rfl, rfl⟩
  go_wp2_with fail
  refine (NO.out _).mono ?_; rintro e2 w2 ⟨rfl, hb2⟩
  go_wp2
  go_ret3
  exact ⟨rfl, (by repeat (first | with_reducible exact Within.refl _ | with_reducible assumption | with_reducible refine Within.alloc ?_ _ | with_reducible refine Within.drew ?_ | with_reducible refine Within.setCell ?_ (by first | (simp; done) | (simp; omega)) _ | with_reducible refine Within.trans ?_ (by assumption)))⟩

set_option maxRecDepth 100000 in
set_option maxHeartbeats 600000 in
theorem narrow_plain (a s : Nat) (mode : Int) (KN : Hid (∀ w, Calls Tryd.prog 54 #[.int .i64 mode] w fun e' w' => e' = .returned (.bool true) ∧ w = w')) (hx : (FloatKind.f64.format.order a a != some .eq) = false) (PL : Hid (∀ w, Calls Tryd.prog 56 #[.float .f64 a] w fun e' w' => e' = .returned (.bool true) ∧ w = w')) (hc : floatToFloatBits .f64 a .f32 = some s) (w : World) : Calls Tryd.prog 40 #[.float .f64 a, .int .i64 mode] w fun e' w' => e' = .returned (.tuple #[.float .f32 s, .int .i64 0, .int .i64 0]) ∧ Within w w' := by
  have hcv := fun (w : World) => run_convert_float_float (P := Tryd.prog) w 75 78 .f64 .f32 a s (by kernel_rfl) (by kernel_rfl) hc
  clear hc
  go_enter Tryd.func40, Tryd.ntmps40
  go_wp2_with fail
  refine (KN.out _).mono ?_; rintro e1 w1 ⟨rfl, rfl⟩
  go_wp2_with fail
  refine (PL.out _).mono ?_; rintro e2 w2 ⟨rfl, rfl⟩
  go_wp2
  go_ret3
  exact ⟨rfl, (by repeat (first | with_reducible exact Within.refl _ | with_reducible assumption | with_reducible refine Within.alloc ?_ _ | with_reducible refine Within.drew ?_ | with_reducible refine Within.setCell ?_ (by first | (simp; done) | (simp; omega)) _ | with_reducible refine Within.trans ?_ (by assumption)))⟩

set_option maxRecDepth 100000 in
set_option maxHeartbeats 600000 in
theorem narrow_main (a s y m : Nat) (b : Bool) (e mode fl : Int) (KN : Hid (∀ w, Calls Tryd.prog 54 #[.int .i64 mode] w fun e' w' => e' = .returned (.bool true) ∧ w = w')) (hx : (FloatKind.f64.format.order a a != some .eq) = false) (PL : Hid (∀ w, Calls Tryd.prog 56 #[.float .f64 a] w fun e' w' => e' = .returned (.bool false) ∧ w = w')) (TK : Hid (∀ w, Calls Tryd.prog 57 #[.float .f64 a] w fun e' w' => e' = .returned (.agg #[.bool b, .int .u64 m, .int .i64 e]) ∧ Within w w')) (RN : Hid (∀ w, Calls Tryd.prog 58 #[.agg #[.bool b, .int .u64 m, .int .i64 e], .agg #[.int .i64 24, .int .i64 (-126), .int .i64 127], .int .i64 mode] w fun e' w' => e' = .returned (.tuple #[.float .f64 y, .int .i64 fl]) ∧ Within w w')) (hc : floatToFloatBits .f64 y .f32 = some s) (w : World) (hT : FmS w) : Calls Tryd.prog 40 #[.float .f64 a, .int .i64 mode] w fun e' w' => e' = .returned (.tuple #[.float .f32 s, .int .i64 fl, .int .i64 0]) ∧ Within w w' := by
  have hcv := fun (w : World) => run_convert_float_float (P := Tryd.prog) w 75 78 .f64 .f32 y s (by kernel_rfl) (by kernel_rfl) hc
  clear hc
  go_enter Tryd.func40, Tryd.ntmps40
  go_wp2_with fail
  refine (KN.out _).mono ?_; rintro e1 w1 ⟨rfl, rfl⟩
  go_wp2_with fail
  refine (PL.out _).mono ?_; rintro e2 w2 ⟨rfl, rfl⟩
  go_wp2
  refine wp_region_within (by kernel_rfl) (by kernel_rfl) ?_
  repeat
    apply wpq_step rfl
    · intro wq hCq
      have q0 := (hT.of hCq).1; have q1 := (hT.of hCq).2.1; have q2 := (hT.of hCq).2.2
      go_simp
      first | rfl | exact hCq.call (TK.out _) | exact hCq.call (RN.out _) | (trace_state; fail)
    simp only [Act.put, List.setIfInBounds_toArray, List.set_cons_zero, List.set_cons_succ]
  refine wpQuiet_nil ?_
  intro w3 hb3
  go_wp2
  go_ret3
  exact ⟨rfl, (by repeat (first | with_reducible exact Within.refl _ | with_reducible assumption | with_reducible refine Within.alloc ?_ _ | with_reducible refine Within.drew ?_ | with_reducible refine Within.setCell ?_ (by first | (simp; done) | (simp; omega)) _ | with_reducible refine Within.trans ?_ (by assumption)))⟩

/-! what it comes to -/
def magD (a : Nat) : Nat := Fp.mag Ieee.double (a % 9223372036854775808)
def sgnS (b : Bool) : Nat := if b then 2147483648 else 0
def sgnD (b : Bool) : Nat := if b then 9223372036854775808 else 0
def ngD (a : Nat) : Bool := decide (9223372036854775808 ≤ a)
/-- rounded to a single: its word -/
def sWord (neg : Bool) (m : Nat) (e mode : Int) : Nat :=
  (if rOver 24 (-149) 127 neg m e mode then (if rTop neg mode then 2139095039 else 2139095040) else Fp.num Ieee.single false (rQ 24 (-149) neg m e mode * 2 ^ (rK 24 (-149) m e + 149).toNat)) + sgnS neg
def nWord (a : Nat) (mode : Int) : Nat :=
  if ¬ (0 ≤ mode ∧ mode ≤ 4) then 0
  else if 9218868437227405312 < a % 9223372036854775808 then 2143289344
  else if a % 9223372036854775808 = 0 then sgnS (ngD a)
  else if a % 9223372036854775808 = 9218868437227405312 then 2139095040 + sgnS (ngD a)
  else sWord (ngD a) (top53 (magD a)) (((magD a).log2 : Int) - 1126) mode
def nFlags (a : Nat) (mode : Int) : Int :=
  if ¬ (0 ≤ mode ∧ mode ≤ 4) then 0
  else if 9218868437227405312 < a % 9223372036854775808 then 0
  else if a % 9223372036854775808 = 0 then 0
  else if a % 9223372036854775808 = 9218868437227405312 then 0
  else rFlags 24 (-149) 127 (ngD a) (top53 (magD a)) (((magD a).log2 : Int) - 1126) mode
def nErr (mode : Int) : Int := if 0 ≤ mode ∧ mode ≤ 4 then 0 else 20

theorem nbits_num {x s : Nat} (hx : x % 9223372036854775808 < 9218868437227405312) (hs : s % 2147483648 < 2139095040) (hw : Ieee.single.write (Ieee.double.read x) = s) : floatToFloatBits .f64 x .f32 = some s := by
  obtain ⟨m, e, r1, _⟩ := Fp.read_fin Ieee.double x (by rw [Fp.rg64, Fp.dI]; exact hx)
  obtain ⟨n, k, r2, _⟩ := Fp.read_fin Ieee.single s (by rw [Fp.rg32, Fp.sI]; exact hs)
  unfold floatToFloatBits
  rw [if_neg (by decide)]
  show (match Ieee.double.read x with | .nan _ _ => none | .infinity s => some (Ieee.single.write (.infinity s)) | .number s m e => if (Ieee.single.read (Ieee.single.write (.number s m e))).isInfinity then none else some (Ieee.single.write (.number s m e))) = some s
  rw [r1] at hw ⊢
  show (if (Ieee.single.read (Ieee.single.write _)).isInfinity then none else some (Ieee.single.write _)) = some s
  rw [hw, r2]; exact if_neg Bool.false_ne_true
theorem wbits_num {x s : Nat} (hx : x % 2147483648 < 2139095040) (hs : s % 9223372036854775808 < 9218868437227405312) (hw : Ieee.double.write (Ieee.single.read x) = s) : floatToFloatBits .f32 x .f64 = some s := by
  obtain ⟨m, e, r1, _⟩ := Fp.read_fin Ieee.single x (by rw [Fp.rg32, Fp.sI]; exact hx)
  obtain ⟨n, k, r2, _⟩ := Fp.read_fin Ieee.double s (by rw [Fp.rg64, Fp.dI]; exact hs)
  unfold floatToFloatBits
  rw [if_neg (by decide)]
  show (match Ieee.single.read x with | .nan _ _ => none | .infinity s => some (Ieee.double.write (.infinity s)) | .number s m e => if (Ieee.double.read (Ieee.double.write (.number s m e))).isInfinity then none else some (Ieee.double.write (.number s m e))) = some s
  rw [r1] at hw ⊢
  show (if (Ieee.double.read (Ieee.double.write _)).isInfinity then none else some (Ieee.double.write _)) = some s
  rw [hw, r2]; exact if_neg Bool.false_ne_true
theorem nbits_inf (b : Bool) : floatToFloatBits .f64 (9218868437227405312 + sgnD b) .f32 = some (2139095040 + sgnS b) := by cases b <;> decide +kernel
theorem wbits_inf (b : Bool) : floatToFloatBits .f32 (2139095040 + sgnS b) .f64 = some (9218868437227405312 + sgnD b) := by cases b <;> decide +kernel
theorem nbits_zero (b : Bool) : floatToFloatBits .f64 (sgnD b) .f32 = some (sgnS b) := by cases b <;> decide +kernel
theorem num_sgn (b : Bool) (n : Nat) : Fp.num Ieee.double b n = Fp.num Ieee.double false n + sgnD b := by
  unfold Fp.num Ieee.Format.word sgnD
  rw [Fp.dS]
  generalize Fp.grid Ieee.double n 0 = g
  cases b <;> simp
  exact Nat.add_comm _ _
theorem num_sgnS (b : Bool) (n : Nat) : Fp.num Ieee.single b n = Fp.num Ieee.single false n + sgnS b := by
  unfold Fp.num Ieee.Format.word sgnS
  rw [Fp.sS]
  generalize Fp.grid Ieee.single n 0 = g
  cases b <;> simp
  exact Nat.add_comm _ _
theorem num_ltS {n : Nat} (h : Fp.Rep Ieee.single n) : Fp.num Ieee.single false n < 2139095040 := by
  have h1 := h.1
  rw [Fp.sI] at h1
  exact h1
/-- the single that a rounding comes to -/
theorem sAmt_rep (neg : Bool) {m : Nat} (e mode : Int) (h0 : m ≠ 0) (hm : m < 18446744073709551616) (h : rOver 24 (-149) 127 neg m e mode = false) :
    Fp.Rep Ieee.single (rQ 24 (-149) neg m e mode * 2 ^ (rK 24 (-149) m e + 149).toNat) ∧ rAmt 24 (-149) neg m e mode = rQ 24 (-149) neg m e mode * 2 ^ (rK 24 (-149) m e + 149).toNat * 2 ^ Fp.sgap := by
  have hq := (rQ_le (D := 24) (lo := -149) neg e mode h0 hm (by decide)).1
  have hk : -149 ≤ rK 24 (-149) m e := by unfold rK; omega
  have hov : rK 24 (-149) m e + (Lib.bitLen (rQ 24 (-149) neg m e mode) : Nat) ≤ 127 + 1 := by unfold rOver at h; simp at h; omega
  unfold rAmt
  have hq' : rQ 24 (-149) neg m e mode ≤ 16777216 := hq
  generalize rQ 24 (-149) neg m e mode = q at *
  generalize rK 24 (-149) m e = k at *
  refine ⟨?_, ?_⟩
  · have hlt : q * 2 ^ (k + 149).toNat < Fp.mag Ieee.single Ieee.single.infRung := by
      obtain ⟨J, hJ⟩ : ∃ J : Nat, J = 253 := ⟨_, rfl⟩
      have e1 : Fp.mag Ieee.single Ieee.single.infRung = 2 ^ 24 * 2 ^ J := by rw [hJ]; decide +kernel
      rw [e1, ← Nat.pow_add]
      have h1 : q * 2 ^ (k + 149).toNat < 2 ^ Lib.bitLen q * 2 ^ (k + 149).toNat := Nat.mul_lt_mul_of_pos_right (lt_bl (by omega)) (Nat.two_pow_pos _)
      rw [← Nat.pow_add] at h1
      exact Nat.lt_of_lt_of_le h1 (Nat.pow_le_pow_right (by decide) (by omega))
    by_cases hq2 : q = 16777216
    · refine Fp.rep_of Ieee.single 1 (24 + (k + 149).toNat) ?_ (by decide) hlt
      rw [hq2, Nat.pow_add, Nat.one_mul, show (2 : Nat) ^ 24 = 16777216 by decide]
    · exact Fp.rep_of Ieee.single q _ rfl (by show q < 2 ^ 24; omega) hlt
  · have := Fp.sgap_eq
    rw [Nat.mul_assoc, ← Nat.pow_add]; congr 2; omega
theorem sWord_bits (neg : Bool) {m : Nat} (e mode : Int) (h0 : m ≠ 0) (hm : m < 18446744073709551616) :
    floatToFloatBits .f64 (rWord 24 (-149) 127 topS neg m e mode) .f32 = some (sWord neg m e mode) := by
  unfold rWord sWord
  have hsg : (if neg = true then 9223372036854775808 else 0) = sgnD neg := rfl
  rw [hsg]
  cases hov : rOver 24 (-149) 127 neg m e mode
  · rw [if_neg Bool.false_ne_true, if_neg Bool.false_ne_true]
    obtain ⟨r1, r2⟩ := sAmt_rep neg e mode h0 hm hov
    have r3 : Fp.Rep Ieee.double (rAmt 24 (-149) neg m e mode) := rAmt_rep (D := 24) (lo := -149) (most := 127) neg e mode h0 hm (by decide) (by decide) (by decide) hov
    have hI := Fp.Rep.is r3 neg
    have hl := num_lt r3
    have hl2 := num_ltS r1
    rw [r2] at hI
    have hn := Fp.narrow_is hI r1
    rw [← r2, num_sgn, num_sgnS] at hn
    refine nbits_num ?_ ?_ hn
    · unfold sgnD; split <;> omega
    · unfold sgnS; split <;> omega
  · rw [if_pos rfl, if_pos rfl]
    cases ht : rTop neg mode
    · rw [if_neg Bool.false_ne_true, if_neg Bool.false_ne_true]
      exact nbits_inf neg
    · rw [if_pos rfl, if_pos rfl]
      cases neg <;> decide +kernel
theorem sgn_split {a : Nat} (ha : a < 18446744073709551616) : a = a % 9223372036854775808 + sgnD (ngD a) := by
  unfold sgnD ngD
  by_cases h : 9223372036854775808 ≤ a
  · rw [decide_eq_true h, if_pos rfl]; omega
  · rw [decide_eq_false h, if_neg Bool.false_ne_true]; omega
theorem magD_rep {a : Nat} (hf : a % 9223372036854775808 < 9218868437227405312) : Fp.Rep Ieee.double (magD a) := Fp.rep_mag Ieee.double Fp.dF (by rw [Fp.dI]; exact hf)
theorem magD_zero {a : Nat} : magD a = 0 ↔ a % 9223372036854775808 = 0 := by
  unfold magD
  have := Fp.mag_inj Ieee.double (r := a % 9223372036854775808) (r' := 0)
  rwa [Fp.mag_zero] at this

theorem Narrow_any (a : Nat) (mode : Int) (ha : a < 18446744073709551616) (w : World) (hT : FmS w) : Calls Tryd.prog 40 #[.float .f64 a, .int .i64 mode] w fun e' w' => e' = .returned (.tuple #[.float .f32 (nWord a mode), .int .i64 (nFlags a mode), .int .i64 (nErr mode)]) ∧ Within w w' := by
  have KN := Lib.hid (fun w => known_any mode w)
  unfold nWord nFlags nErr
  by_cases hmode : 0 ≤ mode ∧ mode ≤ 4
  · rw [decide_eq_true hmode] at KN
    have hm' : ¬¬(0 ≤ mode ∧ mode ≤ 4) := fun h => h hmode
    rw [if_neg hm', if_neg hm', if_pos hmode]
    have hx := ne_self (a := a)
    by_cases hn : 9218868437227405312 < a % 9223372036854775808
    · rw [decide_eq_true hn] at hx
      rw [if_pos hn, if_pos hn]
      exact narrow_nan a mode KN hx (Lib.hid none_any) w
    rw [decide_eq_false hn] at hx
    rw [if_neg hn, if_neg hn]
    have PL := Lib.hid (fun w => plain_any a ha (by omega) w)
    have hsp := sgn_split ha
    by_cases hz : a % 9223372036854775808 = 0
    · rw [decide_eq_true (.inl hz)] at PL
      rw [if_pos hz, if_pos hz]
      refine narrow_plain a _ mode KN hx PL ?_ w
      rw [hz, Nat.zero_add] at hsp
      conv => lhs; rw [hsp]
      exact nbits_zero _
    rw [if_neg hz, if_neg hz]
    by_cases hi : a % 9223372036854775808 = 9218868437227405312
    · rw [decide_eq_true (.inr hi)] at PL
      rw [if_pos hi, if_pos hi]
      refine narrow_plain a _ mode KN hx PL ?_ w
      rw [hi] at hsp
      conv => lhs; rw [hsp]
      exact nbits_inf _
    rw [if_neg hi, if_neg hi]
    rw [decide_eq_false (show ¬ (a % 9223372036854775808 = 0 ∨ a % 9223372036854775808 = 9218868437227405312) by omega)] at PL
    have h0 : magD a ≠ 0 := fun h => hz (magD_zero.1 h)
    obtain ⟨t1, t2, t3, _⟩ := top53_bounds h0 (magD_rep (by omega))
    have TK := Lib.hid (fun w => take_any a (magD a) ha h0 (by omega) rfl w)
    have RN := Lib.hid (fun w => round_S (ngD a) (top53 (magD a)) (((magD a).log2 : Int) - 1126) mode (by omega) (by omega) (by omega) (by omega) hmode w)
    exact narrow_main a _ _ _ _ _ mode _ KN hx PL TK RN (sWord_bits (ngD a) _ mode (by omega) (by omega)) w hT
  · rw [decide_eq_false hmode] at KN
    rw [if_pos hmode, if_pos hmode, if_neg hmode]
    exact narrow_bad a mode KN w


/-- a single, as a number -/
def wWord (b : Nat) : Nat :=
  if 2139095040 < b % 2147483648 then 9221120237041090561
  else if b % 2147483648 = 2139095040 then 9218868437227405312 + sgnD (decide (2147483648 ≤ b))
  else Fp.num Ieee.double (decide (2147483648 ≤ b)) (Fp.mag Ieee.single (b % 2147483648) * 2 ^ Fp.sgap)
theorem single_is {b : Nat} (hb : b < 4294967296) (hf : b % 2147483648 < 2139095040) : Fp.Is Ieee.single b (decide (2147483648 ≤ b)) (Fp.mag Ieee.single (b % 2147483648)) := by
  have hr : Fp.rg Ieee.single b = b % 2147483648 := Fp.rg32 b
  refine ⟨hb, by rw [hr, Fp.sI]; exact hf, ?_, by rw [hr]⟩
  rw [Fp.sg32]
  by_cases h : 2147483648 ≤ b
  · rw [decide_eq_true h, show b / 2147483648 = 1 by omega]; rfl
  · rw [decide_eq_false h, show b / 2147483648 = 0 by omega]; rfl

set_option maxRecDepth 100000 in
set_option maxHeartbeats 600000 in
theorem widen_core (b x c : Nat) (hc : floatToFloatBits .f32 b .f64 = some x) (CA : Hid (∀ w, Calls Tryd.prog 61 #[.float .f64 x] w fun e w' => e = .returned (.float .f64 c) ∧ Within w w')) (w : World) : Calls Tryd.prog 42 #[.float .f32 b] w fun e w' => e = .returned (.float .f64 c) ∧ Within w w' := by
  have hcv := fun (w : World) => run_convert_float_float (P := Tryd.prog) w 78 75 .f32 .f64 b x (by kernel_rfl) (by kernel_rfl) hc
  clear hc
  go_enter Tryd.func42, Tryd.ntmps42
  go_wp2_with fail
  refine (CA.out _).mono ?_; rintro e1 w1 ⟨rfl, hb1⟩
  go_wp2
  go_ret
  exact ⟨rfl, (by repeat (first | with_reducible exact Within.refl _ | with_reducible assumption | with_reducible refine Within.alloc ?_ _ | with_reducible refine Within.drew ?_ | with_reducible refine Within.setCell ?_ (by first | (simp; done) | (simp; omega)) _ | with_reducible refine Within.trans ?_ (by assumption)))⟩

set_option maxRecDepth 100000 in
set_option maxHeartbeats 600000 in
theorem widen_nan (b t : Nat) (g : Bool) (h : FloatKind.f32.decode b = .nan g t) (w : World) : Calls Tryd.prog 42 #[.float .f32 b] w fun e w' => e = .returned (.float .f64 9221120237041090561) ∧ Within w w' := by
  have hcv := fun (w : World) => run_widen_nan 78 75 .f32 .f64 b Tryd.prog w (by decide) (by kernel_rfl) (by kernel_rfl) g t h
  have HC := Lib.hid (fun t w => Canon_D ((Question.nanConv .f64 b).cut t) (nan_cutD b t).2 w)
  simp only [(nan_cutD _ _).1] at HC
  clear h
  go_enter Tryd.func42, Tryd.ntmps42
  go_wp2_with fail
  refine (HC.out _ _).mono ?_; rintro e1 w1 ⟨rfl, hb1⟩
  go_wp2
  go_ret
  exact ⟨rfl, (by repeat (first | with_reducible exact Within.refl _ | with_reducible assumption | with_reducible refine Within.alloc ?_ _ | with_reducible refine Within.drew ?_ | with_reducible refine Within.setCell ?_ (by first | (simp; done) | (simp; omega)) _ | with_reducible refine Within.trans ?_ (by assumption)))⟩

theorem Widen_any (b : Nat) (hb : b < 4294967296) (w : World) : Calls Tryd.prog 42 #[.float .f32 b] w fun e w' => e = .returned (.float .f64 (wWord b)) ∧ Within w w' := by
  unfold wWord
  by_cases hn : 2139095040 < b % 2147483648
  · rw [if_pos hn]
    have := Fp.read_nan Ieee.single b (by rw [Fp.rg32, Fp.sI]; exact hn) Fp.sBI
    exact widen_nan b _ _ this w
  rw [if_neg hn]
  by_cases hi : b % 2147483648 = 2139095040
  · rw [if_pos hi]
    have hsp : b = 2139095040 + sgnS (decide (2147483648 ≤ b)) := by
      unfold sgnS
      by_cases h : 2147483648 ≤ b
      · rw [decide_eq_true h, if_pos rfl]; omega
      · rw [decide_eq_false h, if_neg Bool.false_ne_true]; omega
    have hc := wbits_inf (decide (2147483648 ≤ b))
    rw [← hsp] at hc
    have hcan : canonD (9218868437227405312 + sgnD (decide (2147483648 ≤ b))) = 9218868437227405312 + sgnD (decide (2147483648 ≤ b)) := by cases decide (2147483648 ≤ b) <;> decide
    have CA := Lib.hid (fun w => Canon_D (9218868437227405312 + sgnD (decide (2147483648 ≤ b))) (by unfold sgnD; split <;> omega) w)
    rw [hcan] at CA
    exact widen_core b _ _ hc CA w
  · rw [if_neg hi]
    have hI := single_is hb (by omega)
    obtain ⟨h1, h2⟩ := Fp.widen_is hI
    have hl := num_lt h2
    have hlt : Fp.num Ieee.double (decide (2147483648 ≤ b)) (Fp.mag Ieee.single (b % 2147483648) * 2 ^ Fp.sgap) % 9223372036854775808 < 9218868437227405312 ∧ Fp.num Ieee.double (decide (2147483648 ≤ b)) (Fp.mag Ieee.single (b % 2147483648) * 2 ^ Fp.sgap) < 18446744073709551616 := by
      rw [num_sgn]; unfold sgnD; split <;> omega
    have hc := wbits_num (by omega) hlt.1 h1
    have CA := Lib.hid (fun w => Canon_D (Fp.num Ieee.double (decide (2147483648 ≤ b)) (Fp.mag Ieee.single (b % 2147483648) * 2 ^ Fp.sgap)) hlt.2 w)
    have hcan : canonD (Fp.num Ieee.double (decide (2147483648 ≤ b)) (Fp.mag Ieee.single (b % 2147483648) * 2 ^ Fp.sgap)) = Fp.num Ieee.double (decide (2147483648 ≤ b)) (Fp.mag Ieee.single (b % 2147483648) * 2 ^ Fp.sgap) := by
      unfold canonD nanD; rw [decide_eq_false (by omega)]; exact if_neg Bool.false_ne_true
    rw [hcan] at CA
    exact widen_core b _ _ hc CA w

end Go.Proofs.YtmpcnhiklpahnaaDoor
