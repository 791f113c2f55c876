/- the document's number of parts: the walk. -/
import Derived.Test.YthjaponkbodooaaDoorRef7
namespace Go.Proofs.YthjaponkbodooaaDoor
open Go.RowKit

theorem may_bits {M : Nat} {E : Int} (h : mayD M E = true) : Lib.bitLen M ≤ 53 ∧ -1074 ≤ E ∧ E ≤ 1024 - (Lib.bitLen M : Nat) := by
  unfold mayD at h; simp only [Bool.and_eq_true, decide_eq_true_eq] at h; omega
theorem may_of {M : Nat} {E E' : Int} (h : mayD M E = true) (h1 : -1074 ≤ E') (h2 : E' ≤ max E 0) : mayD M E' = true := by
  have := may_bits h
  unfold mayD; simp only [Bool.and_eq_true, decide_eq_true_eq]; omega
/-- the number of parts without a sign is its rung -/
theorem pos_word {M : Nat} {E : Int} (h1 : M % 2 = 1) (hM : M < 18446744073709551616) (h2 : mayD M E = true) :
    madeD false M E < 9218868437227405312 ∧ Fp.mag Ieee.double (madeD false M E) = M * 2 ^ (E + 1074).toNat ∧ -1074 ≤ E := by
  obtain ⟨w1, w2, w3, _, w5, w6, _⟩ := word_parts false h1 hM h2
  have hn : nanD (madeD false M E) = false := decide_eq_false (by omega)
  have e : madeD false M E % 9223372036854775808 = madeD false M E := word_of w1 hn ▸ by
    rw [w3]; show _ % 9223372036854775808 = _
    exact Nat.mod_eq_of_lt (by show madeD false M E % 9223372036854775808 < _; omega)
  rw [e] at w2 w5
  exact ⟨w2, w5, w6⟩
theorem neg_word {M : Nat} {E : Int} (h1 : M % 2 = 1) (hM : M < 18446744073709551616) (h2 : mayD M E = true) : madeD true M E = madeD false M E + 9223372036854775808 := by
  obtain ⟨w1, w2, w3, _, w5, w6, _⟩ := word_parts true h1 hM h2
  obtain ⟨p1, p2, _⟩ := pos_word h1 hM h2
  have hn : nanD (madeD true M E) = false := decide_eq_false (by omega)
  have hr : madeD true M E % 9223372036854775808 = madeD false M E := (Fp.mag_inj Ieee.double).1 (by rw [w5, p2])
  have := word_of w1 hn
  rw [w3, hr] at this
  rw [← this]
  show Ieee.double.signWeight + _ = _
  rw [Fp.dS]; omega
theorem up_step {M : Nat} {E : Int} (h1 : M % 2 = 1) (hM : M < 18446744073709551616) (h2 : mayD M E = true) (i : Nat) (hi : (i : Int) < E) :
    Ieee.double.mul (madeD false M i) 4611686018427387904 = some (madeD false M ((i + 1 : Nat) : Int)) := by
  obtain ⟨a1, a2, _⟩ := pos_word h1 hM (may_of (E' := (i : Int)) h2 (by omega) (by omega))
  obtain ⟨b1, b2, _⟩ := pos_word h1 hM (may_of (E' := ((i + 1 : Nat) : Int)) h2 (by omega) (by omega))
  refine scale_up a1 b1 ?_
  rw [a2, b2, show (((i + 1 : Nat) : Int) + 1074).toNat = ((i : Int) + 1074).toNat + 1 by omega, Nat.pow_succ, Nat.mul_comm _ 2, Nat.mul_left_comm]
theorem down_step {M : Nat} {E : Int} (h1 : M % 2 = 1) (hM : M < 18446744073709551616) (h2 : mayD M E = true) (i : Nat) (hi : E < -(i : Int)) :
    Ieee.double.div (madeD false M (-(i : Int))) 4611686018427387904 = some (madeD false M (-((i + 1 : Nat) : Int))) := by
  have hE := may_bits h2
  obtain ⟨a1, a2, _⟩ := pos_word h1 hM (may_of (E' := -(i : Int)) h2 (by omega) (by omega))
  obtain ⟨b1, b2, _⟩ := pos_word h1 hM (may_of (E' := -((i + 1 : Nat) : Int)) h2 (by omega) (by omega))
  have hp := Nat.two_pow_pos (-(i : Int) + 1074).toNat
  refine scale_down a1 (fun h => ?_) b1 ?_
  · rw [h, Fp.mag_zero] at a2
    have : 0 < M * 2 ^ (-(i : Int) + 1074).toNat := Nat.mul_pos (by omega) hp
    omega
  · rw [a2, b2, show (-(i : Int) + 1074).toNat = (-((i + 1 : Nat) : Int) + 1074).toNat + 1 by omega, Nat.pow_succ, Nat.mul_comm _ 2, Nat.mul_left_comm]
theorem int_word {M : Nat} {E : Int} (h1 : M % 2 = 1) (hM : M < 18446744073709551616) (h2 : mayD M E = true) : floatOfInt .f64 (M : Int) = madeD false M 0 := by
  obtain ⟨a1, a2, _⟩ := pos_word h1 hM (may_of (E' := 0) h2 (by omega) (by omega))
  have h := Fp.ofInt_fin Ieee.double Fp.dL0 (M : Int)
  have e : floatOfInt .f64 (M : Int) = Ieee.double.write (.number (decide ((M : Int) < 0)) (M : Int).natAbs 0) := by unfold floatOfInt FloatKind.nearest FloatKind.encode FloatKind.format; rfl
  generalize madeD false M 0 = x at *
  have e2 : ((0 : Int) + 1074).toNat = Fp.deep Ieee.double := by rw [Fp.dD]; omega
  rw [e2] at a2
  rw [e, h, decide_eq_false (by omega), Int.natAbs_natCast, ← a2, Fp.rung_mag Ieee.double Fp.dF _ (by rw [Fp.dI]; omega)]
  exact if_neg (by decide)
theorem run_mul64 {x y r : Nat} (h : Ieee.double.mul x y = some r) (t : TypeId) (P : Program) (w : World) : (binOp .mul t (.float .f64 x) (.float .f64 y)).run P w = .ok (.float .f64 r) w :=
  run_float_arith w _ _ _ _ _ _ h
theorem run_div64 {x y r : Nat} (h : Ieee.double.div x y = some r) (t : TypeId) (P : Program) (w : World) : (binOp .quo t (.float .f64 x) (.float .f64 y)).run P w = .ok (.float .f64 r) w :=
  run_float_arith w _ _ _ _ _ _ h
/-- how often the document's loop halves, and what it comes to -/
theorem strip {mant : Nat} {e : Int} (h0 : mant ≠ 0) (hm : mant < 18446744073709551616) : ∃ n : Nat, n ≤ 64 ∧
    (∀ i, i ≤ n → 0 < mant / 2 ^ i ∧ (i < n → mant / 2 ^ i % 2 = 0 ∧ e + i < 1099511627776) ∧ mant / 2 ^ i / 2 = mant / 2 ^ (i + 1)) ∧
    (mant / 2 ^ n % 2 = 1 ∨ (mant / 2 ^ n % 2 = 0 ∧ 1099511627776 ≤ e + n)) ∧
    mayD (mant / 2 ^ n) (e + n) = mayD (oddM mant) (oddE mant e) ∧ (mayD (mant / 2 ^ n) (e + n) = true → mant / 2 ^ n % 2 = 1 ∧ mant / 2 ^ n = oddM mant ∧ e + n = oddE mant e) := by
  obtain ⟨m, ho, hs, hk⟩ := odd_split h0 hm
  have hE : oddE mant e = e + (Lib.ctz 64 mant : Nat) := rfl
  have hD := mant_down hk hs ho
  generalize Lib.ctz 64 mant = cz at *
  have hhalf : ∀ i, mant / 2 ^ i / 2 = mant / 2 ^ (i + 1) := fun i => by rw [Nat.div_div_eq_div_mul, Nat.pow_succ]
  by_cases h : e + cz ≤ 1099511627776
  · refine ⟨cz, by omega, fun i hi => ⟨(hD i hi).1, fun h1 => ⟨((hD i hi).2.2 h1).1, by omega⟩, hhalf i⟩, .inl ((hD cz (Nat.le_refl _)).2.1 rfl).2, ?_, ?_⟩
    · rw [((hD cz (Nat.le_refl _)).2.1 rfl).1, hE]
    · intro _
      have := (hD cz (Nat.le_refl _)).2.1 rfl
      exact ⟨this.2, this.1, hE.symm⟩
  · obtain ⟨n, hn⟩ : ∃ n : Nat, n = (1099511627776 - e).toNat := ⟨_, rfl⟩
    have hnc : n ≤ cz := by omega
    have hF : mayD (mant / 2 ^ n) (e + n) = false := by
      unfold mayD; simp only [Bool.and_eq_false_iff, decide_eq_false_iff_not]; omega
    refine ⟨n, by omega, fun i hi => ⟨(hD i (by omega)).1, fun h1 => ⟨((hD i (by omega)).2.2 (by omega)).1, by omega⟩, hhalf i⟩, ?_, ?_, fun h1 => by rw [hF] at h1; cases h1⟩
    · by_cases h3 : n < cz
      · exact .inr ⟨((hD n hnc).2.2 h3).1, by omega⟩
      · exact .inl ((hD n hnc).2.1 (by omega)).2
    · rw [hF, hE]
      unfold mayD; symm; simp only [Bool.and_eq_false_iff, decide_eq_false_iff_not]; omega

set_option maxRecDepth 100000 in
set_option maxHeartbeats 600000 in
theorem RofZero_t (e : Int) (w : World) : Calls Tryd.prog 20 #[.agg #[.bool true, .int .u64 0, .int .i64 e]] w fun e' w' => e' = .returned (.tuple #[.float .f64 9223372036854775808, .int .i64 0]) ∧ Within w w' := by
  go_enter Tryd.func20, Tryd.ntmps20
  go_wp2_with fail
  refine (copysign_neg 0 (by decide) _).mono ?_; rintro e1 w1 ⟨rfl, rfl⟩
  go_wp2
  go_ret2
  exact ⟨rfl, (by repeat (first | with_reducible exact Within.refl _ | with_reducible assumption | with_reducible refine Within.alloc ?_ _ | with_reducible refine Within.drew ?_ | with_reducible refine Within.setCell ?_ (by first | (simp; done) | (simp; omega)) _ | with_reducible refine Within.trans ?_ (by assumption)))⟩

set_option maxRecDepth 100000 in
set_option maxHeartbeats 600000 in
theorem RofZero_f (e : Int) (w : World) : Calls Tryd.prog 20 #[.agg #[.bool false, .int .u64 0, .int .i64 e]] w fun e' w' => e' = .returned (.tuple #[.float .f64 0, .int .i64 0]) ∧ Within w w' := by
  go_enter Tryd.func20, Tryd.ntmps20
  go_wp2
  go_ret2
  exact ⟨rfl, (by repeat (first | with_reducible exact Within.refl _ | with_reducible assumption | with_reducible refine Within.alloc ?_ _ | with_reducible refine Within.drew ?_ | with_reducible refine Within.setCell ?_ (by first | (simp; done) | (simp; omega)) _ | with_reducible refine Within.trans ?_ (by assumption)))⟩

set_option maxRecDepth 100000 in
set_option maxHeartbeats 600000 in
theorem RofBad_o (ng : Bool) (mant n M : Nat) (e E : Int) (w : World) (m0 : ((mant : Int) != 0) = true) (HML : Hid (mant < 18446744073709551616)) (HB : Hid (-9223372036854775808 ≤ e)) (HM : Hid (mant / 2 ^ n = M)) (HE : Hid (e + (n : Int) = E)) (HV : Hid (∀ i, i ≤ n → 0 < mant / 2 ^ i ∧ (i < n → mant / 2 ^ i % 2 = 0 ∧ e + i < 1099511627776) ∧ mant / 2 ^ i / 2 = mant / 2 ^ (i + 1))) (MY : Hid (∀ w, Calls Tryd.prog 80 #[.int .u64 M, .int .i64 E, .int .i64 53, .int .i64 (-1074), .int .i64 1024] w fun e' w' => e' = .returned (.bool false) ∧ w = w')) (ho : ((M : Int) % 2 == 0) = false) : Calls Tryd.prog 20 #[.agg #[.bool ng, .int .u64 mant, .int .i64 e]] w fun e' w' => e' = .returned (.tuple #[.float .f64 0, .int .i64 10]) ∧ Within w w' := by
  go_enter Tryd.func20, Tryd.ntmps20
  go_wp2
  go_loop [5, 6] (fun t u => ∃ i : Nat, i ≤ n ∧ t = .int .u64 (mant / 2 ^ i : Nat) ∧ u = .int .i64 (e + i)) (fun _ u => n - (intOf u - e).toNat)
  case atStart => exact ⟨0, Nat.zero_le _, by rw [Nat.pow_zero, Nat.div_one], by rw [show e + ((0 : Nat) : Int) = e by omega]⟩
  case round =>
    obtain ⟨i, hi, rfl, rfl⟩ := hrel
    have V := HV.out i hi
    have HI := Lib.hid hi
    have hvl : mant / 2 ^ i < 18446744073709551616 := Nat.lt_of_le_of_lt (Nat.div_le_self _ _) HML.out
    by_cases hic : i = n
    · subst hic
      rw [HM.out, HE.out]
      clear V hi hvl
      go_wp2_with fail
      refine (MY.out _).mono ?_; rintro e1 w1 ⟨rfl, rfl⟩
      go_wp2
      go_ret2
      exact ⟨rfl, (by repeat (first | with_reducible exact Within.refl _ | with_reducible assumption | with_reducible refine Within.alloc ?_ _ | with_reducible refine Within.drew ?_ | with_reducible refine Within.setCell ?_ (by first | (simp; done) | (simp; omega)) _ | with_reducible refine Within.trans ?_ (by assumption)))⟩
    · have hp : (((mant / 2 ^ i : Nat) : Int) % 2 == 0) = true := by rw [beq_iff_eq]; have := V.2.1 (by omega); omega
      have hq : decide (e + (i : Int) < 1099511627776) = true := decide_eq_true (by have := V.2.1 (by omega); omega)
      have HQ := Lib.hid hq; clear hq
      have hq : True → decide (e + (i : Int) < 1099511627776) = true := fun _ => HQ.out
      have g : IntKind.i64.wrap (e + (i : Int) + 1) = e + ((i + 1 : Nat) : Int) := by have := (V.2.1 (by omega)).2; have := HB.out; rw [IntKind.wrap_i64]; omega
      have HN := Lib.hid hic
      have hd : ((mant / 2 ^ i : Nat) : Int) / 2 = ((mant / 2 ^ (i + 1) : Nat) : Int) := by rw [← V.2.2]; omega
      obtain ⟨v, hv⟩ : ∃ v, mant / 2 ^ i = v := ⟨_, rfl⟩
      rw [hv] at hp hd hvl ⊢
      obtain ⟨v', hv'⟩ : ∃ v', mant / 2 ^ (i + 1) = v' := ⟨_, rfl⟩
      rw [hv'] at hd
      have gw : IntKind.u64.wrap (v' : Int) = v' := by rw [IntKind.wrap_u64]; omega
      have HVL := Lib.hid hv'
      clear V hi hic hv hv' hvl
      go_wp2
      go_round
      case rel => exact ⟨i + 1, by have := HI.out; have := HN.out; omega, by rw [HVL.out], v_int (by omega)⟩
      case measure => have := HI.out; have := HN.out; simp [intOf]; omega

set_option maxRecDepth 100000 in
set_option maxHeartbeats 600000 in
theorem RofBad_e (ng : Bool) (mant n M : Nat) (e E : Int) (w : World) (m0 : ((mant : Int) != 0) = true) (HML : Hid (mant < 18446744073709551616)) (HB : Hid (-9223372036854775808 ≤ e)) (HM : Hid (mant / 2 ^ n = M)) (HE : Hid (e + (n : Int) = E)) (HV : Hid (∀ i, i ≤ n → 0 < mant / 2 ^ i ∧ (i < n → mant / 2 ^ i % 2 = 0 ∧ e + i < 1099511627776) ∧ mant / 2 ^ i / 2 = mant / 2 ^ (i + 1))) (MY : Hid (∀ w, Calls Tryd.prog 80 #[.int .u64 M, .int .i64 E, .int .i64 53, .int .i64 (-1074), .int .i64 1024] w fun e' w' => e' = .returned (.bool false) ∧ w = w')) (ho : ((M : Int) % 2 == 0) = true) (hb : True → decide (E < 1099511627776) = false) : Calls Tryd.prog 20 #[.agg #[.bool ng, .int .u64 mant, .int .i64 e]] w fun e' w' => e' = .returned (.tuple #[.float .f64 0, .int .i64 10]) ∧ Within w w' := by
  go_enter Tryd.func20, Tryd.ntmps20
  go_wp2
  go_loop [5, 6] (fun t u => ∃ i : Nat, i ≤ n ∧ t = .int .u64 (mant / 2 ^ i : Nat) ∧ u = .int .i64 (e + i)) (fun _ u => n - (intOf u - e).toNat)
  case atStart => exact ⟨0, Nat.zero_le _, by rw [Nat.pow_zero, Nat.div_one], by rw [show e + ((0 : Nat) : Int) = e by omega]⟩
  case round =>
    obtain ⟨i, hi, rfl, rfl⟩ := hrel
    have V := HV.out i hi
    have HI := Lib.hid hi
    have hvl : mant / 2 ^ i < 18446744073709551616 := Nat.lt_of_le_of_lt (Nat.div_le_self _ _) HML.out
    by_cases hic : i = n
    · subst hic
      rw [HM.out, HE.out]
      clear V hi hvl
      go_wp2_with fail
      refine (MY.out _).mono ?_; rintro e1 w1 ⟨rfl, rfl⟩
      go_wp2
      go_ret2
      exact ⟨rfl, (by repeat (first | with_reducible exact Within.refl _ | with_reducible assumption | with_reducible refine Within.alloc ?_ _ | with_reducible refine Within.drew ?_ | with_reducible refine Within.setCell ?_ (by first | (simp; done) | (simp; omega)) _ | with_reducible refine Within.trans ?_ (by assumption)))⟩
    · have hp : (((mant / 2 ^ i : Nat) : Int) % 2 == 0) = true := by rw [beq_iff_eq]; have := V.2.1 (by omega); omega
      have hq : decide (e + (i : Int) < 1099511627776) = true := decide_eq_true (by have := V.2.1 (by omega); omega)
      have HQ := Lib.hid hq; clear hq
      have hq : True → decide (e + (i : Int) < 1099511627776) = true := fun _ => HQ.out
      have g : IntKind.i64.wrap (e + (i : Int) + 1) = e + ((i + 1 : Nat) : Int) := by have := (V.2.1 (by omega)).2; have := HB.out; rw [IntKind.wrap_i64]; omega
      have HN := Lib.hid hic
      have hd : ((mant / 2 ^ i : Nat) : Int) / 2 = ((mant / 2 ^ (i + 1) : Nat) : Int) := by rw [← V.2.2]; omega
      obtain ⟨v, hv⟩ : ∃ v, mant / 2 ^ i = v := ⟨_, rfl⟩
      rw [hv] at hp hd hvl ⊢
      obtain ⟨v', hv'⟩ : ∃ v', mant / 2 ^ (i + 1) = v' := ⟨_, rfl⟩
      rw [hv'] at hd
      have gw : IntKind.u64.wrap (v' : Int) = v' := by rw [IntKind.wrap_u64]; omega
      have HVL := Lib.hid hv'
      clear V hi hic hv hv' hvl
      go_wp2
      go_round
      case rel => exact ⟨i + 1, by have := HI.out; have := HN.out; omega, by rw [HVL.out], v_int (by omega)⟩
      case measure => have := HI.out; have := HN.out; simp [intOf]; omega

set_option maxRecDepth 100000 in
set_option maxHeartbeats 600000 in
theorem RofUp (ng : Bool) (mant n M : Nat) (e E : Int) (w : World) (m0 : ((mant : Int) != 0) = true) (HML : Hid (mant < 18446744073709551616)) (HB : Hid (-9223372036854775808 ≤ e)) (HM : Hid (mant / 2 ^ n = M)) (HE : Hid (e + (n : Int) = E)) (HV : Hid (∀ i, i ≤ n → 0 < mant / 2 ^ i ∧ (i < n → mant / 2 ^ i % 2 = 0 ∧ e + i < 1099511627776) ∧ mant / 2 ^ i / 2 = mant / 2 ^ (i + 1))) (MY : Hid (∀ w, Calls Tryd.prog 80 #[.int .u64 M, .int .i64 E, .int .i64 53, .int .i64 (-1074), .int .i64 1024] w fun e' w' => e' = .returned (.bool true) ∧ w = w')) (ho : ((M : Int) % 2 == 0) = false) (X : Nat → Nat) (K : Nat) (HKL : Hid (K ≤ 1024)) (CV : Hid (floatOfInt .f64 (M : Int) = X 0)) (UP : Hid (∀ k, k < K → Ieee.double.mul (X k) 4611686018427387904 = some (X (k + 1)))) (HEK : Hid (E = (K : Int))) (CS : Hid (∀ w, Calls Tryd.prog 81 #[.float .f64 (X K), .float .f64 13830554455654793216] w fun e' w' => e' = .returned (.float .f64 (X K + 9223372036854775808)) ∧ w = w')) : Calls Tryd.prog 20 #[.agg #[.bool ng, .int .u64 mant, .int .i64 e]] w fun e' w' => e' = .returned (.tuple #[.float .f64 (if ng then X K + 9223372036854775808 else X K), .int .i64 0]) ∧ Within w w' := by
  have hcv := fun (w : World) => run_convert_int_float (P := Tryd.prog) w 22 29 .u64 .f64 (M : Int) (by kernel_rfl) (by kernel_rfl)
  rw [CV.out] at hcv
  go_enter Tryd.func20, Tryd.ntmps20
  go_wp2
  go_loop [5, 6] (fun t u => ∃ i : Nat, i ≤ n ∧ t = .int .u64 (mant / 2 ^ i : Nat) ∧ u = .int .i64 (e + i)) (fun _ u => n - (intOf u - e).toNat)
  case atStart => exact ⟨0, Nat.zero_le _, by rw [Nat.pow_zero, Nat.div_one], by rw [show e + ((0 : Nat) : Int) = e by omega]⟩
  case round =>
    obtain ⟨i, hi, rfl, rfl⟩ := hrel
    have V := HV.out i hi
    have HI := Lib.hid hi
    have hvl : mant / 2 ^ i < 18446744073709551616 := Nat.lt_of_le_of_lt (Nat.div_le_self _ _) HML.out
    by_cases hic : i = n
    · subst hic
      rw [HM.out, HE.out]
      clear V hi hvl
      go_wp2_with fail
      refine (MY.out _).mono ?_; rintro e1 w1 ⟨rfl, rfl⟩
      go_wp2
      rw [HEK.out]
      go_loop [4, 6] (fun t u => ∃ k : Nat, k ≤ K ∧ t = .float .f64 (X k) ∧ u = .int .i64 ((K - k : Nat) : Int)) (fun _ u => (intOf u).toNat)
      case atStart => exact ⟨0, Nat.zero_le _, rfl, rfl⟩
      case round =>
        obtain ⟨k, hk, rfl, rfl⟩ := hrel
        have HK := Lib.hid hk
        by_cases hkc : k = K
        · subst hkc
          rw [Nat.sub_self]
          clear hk
          go_wp2
          refine wp_loop_rounds 1 ?_
          rw [rounds_succ]
          cases ng
          · go_wp2
            go_ret2
            exact ⟨rfl, (by repeat (first | with_reducible exact Within.refl _ | with_reducible assumption | with_reducible refine Within.alloc ?_ _ | with_reducible refine Within.drew ?_ | with_reducible refine Within.setCell ?_ (by first | (simp; done) | (simp; omega)) _ | with_reducible refine Within.trans ?_ (by assumption)))⟩
          · go_wp2_with fail
            refine (CS.out _).mono ?_; rintro e2 w2 ⟨rfl, rfl⟩
            go_wp2
            go_ret2
            exact ⟨rfl, (by repeat (first | with_reducible exact Within.refl _ | with_reducible assumption | with_reducible refine Within.alloc ?_ _ | with_reducible refine Within.drew ?_ | with_reducible refine Within.setCell ?_ (by first | (simp; done) | (simp; omega)) _ | with_reducible refine Within.trans ?_ (by assumption)))⟩
        · have hs := run_mul64 (UP.out k (by omega))
          obtain ⟨j, hj⟩ : ∃ j, K - k = j + 1 := ⟨K - k - 1, by omega⟩
          have hj' : K - (k + 1) = j := by omega
          have hjl : j < 100000 := by have := HKL.out; omega
          rw [hj]
          obtain ⟨x, hx⟩ : ∃ x, X k = x := ⟨_, rfl⟩
          obtain ⟨y, hy⟩ : ∃ y, X (k + 1) = y := ⟨_, rfl⟩
          rw [hx, hy] at hs; rw [hx]
          have HN := Lib.hid (And.intro hkc (And.intro hy hj'))
          have d : decide (((j + 1 : Nat) : Int) > 0) = true := decide_eq_true (by omega)
          have g : IntKind.i64.wrap (((j + 1 : Nat) : Int) - 1) = (j : Int) := by rw [IntKind.wrap_i64]; omega
          obtain ⟨q, hq⟩ : ∃ q, j + 1 = q := ⟨_, rfl⟩
          rw [hq] at d g; rw [hq]
          have tq : 0 < q := by omega
          have HQ := Lib.hid hq
          clear hk hkc hx hy hj hj' hjl hq
          go_wp2
          go_round
          case rel => exact ⟨k + 1, by have := HK.out; have := HN.out.1; omega, by rw [HN.out.2.1], by rw [HN.out.2.2]⟩
          case measure => have := HQ.out; simp [intOf]; omega
    · have hp : (((mant / 2 ^ i : Nat) : Int) % 2 == 0) = true := by rw [beq_iff_eq]; have := V.2.1 (by omega); omega
      have hq : decide (e + (i : Int) < 1099511627776) = true := decide_eq_true (by have := V.2.1 (by omega); omega)
      have HQ := Lib.hid hq; clear hq
      have hq : True → decide (e + (i : Int) < 1099511627776) = true := fun _ => HQ.out
      have g : IntKind.i64.wrap (e + (i : Int) + 1) = e + ((i + 1 : Nat) : Int) := by have := (V.2.1 (by omega)).2; have := HB.out; rw [IntKind.wrap_i64]; omega
      have HN := Lib.hid hic
      have hd : ((mant / 2 ^ i : Nat) : Int) / 2 = ((mant / 2 ^ (i + 1) : Nat) : Int) := by rw [← V.2.2]; omega
      obtain ⟨v, hv⟩ : ∃ v, mant / 2 ^ i = v := ⟨_, rfl⟩
      rw [hv] at hp hd hvl ⊢
      obtain ⟨v', hv'⟩ : ∃ v', mant / 2 ^ (i + 1) = v' := ⟨_, rfl⟩
      rw [hv'] at hd
      have gw : IntKind.u64.wrap (v' : Int) = v' := by rw [IntKind.wrap_u64]; omega
      have HVL := Lib.hid hv'
      clear V hi hic hv hv' hvl
      go_wp2
      go_round
      case rel => exact ⟨i + 1, by have := HI.out; have := HN.out; omega, by rw [HVL.out], v_int (by omega)⟩
      case measure => have := HI.out; have := HN.out; simp [intOf]; omega

set_option maxRecDepth 100000 in
set_option maxHeartbeats 600000 in
theorem RofDown (ng : Bool) (mant n M : Nat) (e E : Int) (w : World) (m0 : ((mant : Int) != 0) = true) (HML : Hid (mant < 18446744073709551616)) (HB : Hid (-9223372036854775808 ≤ e)) (HM : Hid (mant / 2 ^ n = M)) (HE : Hid (e + (n : Int) = E)) (HV : Hid (∀ i, i ≤ n → 0 < mant / 2 ^ i ∧ (i < n → mant / 2 ^ i % 2 = 0 ∧ e + i < 1099511627776) ∧ mant / 2 ^ i / 2 = mant / 2 ^ (i + 1))) (MY : Hid (∀ w, Calls Tryd.prog 80 #[.int .u64 M, .int .i64 E, .int .i64 53, .int .i64 (-1074), .int .i64 1024] w fun e' w' => e' = .returned (.bool true) ∧ w = w')) (ho : ((M : Int) % 2 == 0) = false) (X : Nat → Nat) (K : Nat) (HKL : Hid (0 < K ∧ K ≤ 1074)) (CV : Hid (floatOfInt .f64 (M : Int) = X 0)) (UP : Hid (∀ k, k < K → Ieee.double.div (X k) 4611686018427387904 = some (X (k + 1)))) (HEK : Hid (E = -(K : Int))) (CS : Hid (∀ w, Calls Tryd.prog 81 #[.float .f64 (X K), .float .f64 13830554455654793216] w fun e' w' => e' = .returned (.float .f64 (X K + 9223372036854775808)) ∧ w = w')) : Calls Tryd.prog 20 #[.agg #[.bool ng, .int .u64 mant, .int .i64 e]] w fun e' w' => e' = .returned (.tuple #[.float .f64 (if ng then X K + 9223372036854775808 else X K), .int .i64 0]) ∧ Within w w' := by
  have hcv := fun (w : World) => run_convert_int_float (P := Tryd.prog) w 22 29 .u64 .f64 (M : Int) (by kernel_rfl) (by kernel_rfl)
  rw [CV.out] at hcv
  go_enter Tryd.func20, Tryd.ntmps20
  go_wp2
  go_loop [5, 6] (fun t u => ∃ i : Nat, i ≤ n ∧ t = .int .u64 (mant / 2 ^ i : Nat) ∧ u = .int .i64 (e + i)) (fun _ u => n - (intOf u - e).toNat)
  case atStart => exact ⟨0, Nat.zero_le _, by rw [Nat.pow_zero, Nat.div_one], by rw [show e + ((0 : Nat) : Int) = e by omega]⟩
  case round =>
    obtain ⟨i, hi, rfl, rfl⟩ := hrel
    have V := HV.out i hi
    have HI := Lib.hid hi
    have hvl : mant / 2 ^ i < 18446744073709551616 := Nat.lt_of_le_of_lt (Nat.div_le_self _ _) HML.out
    by_cases hic : i = n
    · subst hic
      rw [HM.out, HE.out]
      clear V hi hvl
      go_wp2_with fail
      refine (MY.out _).mono ?_; rintro e1 w1 ⟨rfl, rfl⟩
      go_wp2
      rw [HEK.out]
      refine wp_loop_rounds 1 ?_
      rw [rounds_succ]
      have hn0 : decide (-(K : Int) > 0) = false := decide_eq_false (by omega)
      go_wp2
      go_loop [4, 6] (fun t u => ∃ k : Nat, k ≤ K ∧ t = .float .f64 (X k) ∧ u = .int .i64 (-((K - k : Nat) : Int))) (fun _ u => (-(intOf u)).toNat)
      case atStart => exact ⟨0, Nat.zero_le _, rfl, rfl⟩
      case round =>
        obtain ⟨k, hk, rfl, rfl⟩ := hrel
        have HK := Lib.hid hk
        by_cases hkc : k = K
        · subst hkc
          rw [Nat.sub_self, show -((0 : Nat) : Int) = 0 from rfl]
          clear hk
          cases ng
          · go_wp2
            go_ret2
            exact ⟨rfl, (by repeat (first | with_reducible exact Within.refl _ | with_reducible assumption | with_reducible refine Within.alloc ?_ _ | with_reducible refine Within.drew ?_ | with_reducible refine Within.setCell ?_ (by first | (simp; done) | (simp; omega)) _ | with_reducible refine Within.trans ?_ (by assumption)))⟩
          · go_wp2_with fail
            refine (CS.out _).mono ?_; rintro e2 w2 ⟨rfl, rfl⟩
            go_wp2
            go_ret2
            exact ⟨rfl, (by repeat (first | with_reducible exact Within.refl _ | with_reducible assumption | with_reducible refine Within.alloc ?_ _ | with_reducible refine Within.drew ?_ | with_reducible refine Within.setCell ?_ (by first | (simp; done) | (simp; omega)) _ | with_reducible refine Within.trans ?_ (by assumption)))⟩
        · have hs := run_div64 (UP.out k (by omega))
          obtain ⟨j, hj⟩ : ∃ j, K - k = j + 1 := ⟨K - k - 1, by omega⟩
          have hj' : K - (k + 1) = j := by omega
          have hjl : j < 100000 := by have := HKL.out; omega
          rw [hj]
          obtain ⟨x, hx⟩ : ∃ x, X k = x := ⟨_, rfl⟩
          obtain ⟨y, hy⟩ : ∃ y, X (k + 1) = y := ⟨_, rfl⟩
          rw [hx, hy] at hs; rw [hx]
          have HN := Lib.hid (And.intro hkc (And.intro hy hj'))
          have d : decide (-((j + 1 : Nat) : Int) < 0) = true := decide_eq_true (by omega)
          have g : IntKind.i64.wrap (-((j + 1 : Nat) : Int) + 1) = -(j : Int) := by rw [IntKind.wrap_i64]; omega
          obtain ⟨q, hq⟩ : ∃ q, j + 1 = q := ⟨_, rfl⟩
          rw [hq] at d g; rw [hq]
          have tq : 0 < q := by omega
          have HQ := Lib.hid hq
          clear hk hkc hx hy hj hj' hjl hq
          go_wp2
          go_round
          case rel => exact ⟨k + 1, by have := HK.out; have := HN.out.1; omega, by rw [HN.out.2.1], by rw [HN.out.2.2]⟩
          case measure => have := HQ.out; simp [intOf]; omega
    · have hp : (((mant / 2 ^ i : Nat) : Int) % 2 == 0) = true := by rw [beq_iff_eq]; have := V.2.1 (by omega); omega
      have hq : decide (e + (i : Int) < 1099511627776) = true := decide_eq_true (by have := V.2.1 (by omega); omega)
      have HQ := Lib.hid hq; clear hq
      have hq : True → decide (e + (i : Int) < 1099511627776) = true := fun _ => HQ.out
      have g : IntKind.i64.wrap (e + (i : Int) + 1) = e + ((i + 1 : Nat) : Int) := by have := (V.2.1 (by omega)).2; have := HB.out; rw [IntKind.wrap_i64]; omega
      have HN := Lib.hid hic
      have hd : ((mant / 2 ^ i : Nat) : Int) / 2 = ((mant / 2 ^ (i + 1) : Nat) : Int) := by rw [← V.2.2]; omega
      obtain ⟨v, hv⟩ : ∃ v, mant / 2 ^ i = v := ⟨_, rfl⟩
      rw [hv] at hp hd hvl ⊢
      obtain ⟨v', hv'⟩ : ∃ v', mant / 2 ^ (i + 1) = v' := ⟨_, rfl⟩
      rw [hv'] at hd
      have gw : IntKind.u64.wrap (v' : Int) = v' := by rw [IntKind.wrap_u64]; omega
      have HVL := Lib.hid hv'
      clear V hi hic hv hv' hvl
      go_wp2
      go_round
      case rel => exact ⟨i + 1, by have := HI.out; have := HN.out; omega, by rw [HVL.out], v_int (by omega)⟩
      case measure => have := HI.out; have := HN.out; simp [intOf]; omega

end Go.Proofs.YthjaponkbodooaaDoor
