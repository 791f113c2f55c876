/- the document's neighbours of numbers: walks. -/
import Derived.Test.YthjaponkbodooaaDoorSteps
namespace Go.Proofs.YthjaponkbodooaaDoor
open Go.RowKit

theorem zero32 (a : Nat) (hn : nanS a = false) : (FloatKind.f32.format.order a 0 == some .eq) = decide (a % 2147483648 = 0) := by
  show (Ieee.single.order a 0 == some .eq) = _
  rw [Fp.eq32 a 0 hn (by decide), Bool.eq_iff_iff, decide_eq_true_iff, decide_eq_true_iff]
  unfold Fp.key32; split <;> split <;> omega
theorem nan_zero64 (a : Nat) (hn : nanD a = true) : (FloatKind.f64.format.order a 0 == some .eq) = false := by
  show (Ieee.double.order a 0 == some .eq) = _
  rw [Fp.order64_nan a 0 (.inl hn)]; rfl
@[go_sem] theorem run_neg64 (P : Program) (a : Nat) (w : World) : Sem.run P (Op.unary UnOp.neg (Value.float .f64 a)) w = .ok (.float .f64 (Go.Op.negFloat .f64 a)) w := rfl
@[go_sem] theorem run_neg32 (P : Program) (a : Nat) (w : World) : Sem.run P (Op.unary UnOp.neg (Value.float .f32 a)) w = .ok (.float .f32 (Go.Op.negFloat .f32 a)) w := rfl
theorem neg64 (a : Nat) (ha : a < 18446744073709551616) : Go.Op.negFloat .f64 a = turnD a := by
  unfold turnD
  have h := u64_xsign a ha
  rw [show (9223372036854775808 : Int) = ((9223372036854775808 : Nat) : Int) from rfl, u64_xor_nat a _ ha (by decide)] at h
  exact Int.ofNat.inj h
theorem neg32 (a : Nat) (ha : a < 4294967296) : Go.Op.negFloat .f32 a = turnS a := by
  unfold turnS
  have h := u64_xsign32 a ha
  rw [show (2147483648 : Int) = ((2147483648 : Nat) : Int) from rfl, u64_xor_nat a _ (by omega) (by decide)] at h
  exact Int.ofNat.inj h

set_option maxRecDepth 100000 in
set_option maxHeartbeats 600000 in
theorem RnextStay (a : Nat) (p : Int) (w : World) (HK : Hid (∀ w, Calls Tryd.prog 64 #[.float .f64 a] w fun e w' => e = .returned (.int .i64 p) ∧ w = w')) (z : (FloatKind.f64.format.order a 0 == some .eq) = false) (hp : 9218868437227405312 ≤ p) : Calls Tryd.prog 50 #[.float .f64 a] w fun e w' => e = .returned (.float .f64 (canonD a)) ∧ w = w' := by
  have d : True → decide (p ≥ 9218868437227405312) = true := fun _ => decide_eq_true (by omega)
  clear hp
  go_enter Tryd.func50, Tryd.ntmps50
  go_wp2_with fail
  refine (HK.out _).mono ?_; rintro e1 w1 ⟨rfl, rfl⟩
  go_wp2_with fail
  refine (Rcanon_D a _).mono ?_; rintro e2 w2 ⟨rfl, rfl⟩
  go_wp2
  go_ret
  exact ⟨rfl, rfl⟩

set_option maxRecDepth 100000 in
set_option maxHeartbeats 600000 in
theorem RnextZero (a : Nat) (p : Int) (w : World) (HK : Hid (∀ w, Calls Tryd.prog 64 #[.float .f64 a] w fun e w' => e = .returned (.int .i64 p) ∧ w = w')) (z : (FloatKind.f64.format.order a 0 == some .eq) = true) : Calls Tryd.prog 50 #[.float .f64 a] w fun e w' => e = .returned (.float .f64 1) ∧ w = w' := by
  have UK := Lib.hid (fun w => Runkey_any 1 (by decide) (by decide) w)
  rw [show unkeyB 1 = 1 by decide] at UK
  go_enter Tryd.func50, Tryd.ntmps50
  go_wp2_with fail
  refine (HK.out _).mono ?_; rintro e1 w1 ⟨rfl, rfl⟩
  go_wp2_with fail
  refine (UK.out _).mono ?_; rintro e2 w2 ⟨rfl, rfl⟩
  go_wp2
  go_ret
  exact ⟨rfl, rfl⟩

set_option maxRecDepth 100000 in
set_option maxHeartbeats 600000 in
theorem RnextGo (a : Nat) (p : Int) (w : World) (HK : Hid (∀ w, Calls Tryd.prog 64 #[.float .f64 a] w fun e w' => e = .returned (.int .i64 p) ∧ w = w')) (z : (FloatKind.f64.format.order a 0 == some .eq) = false) (hp : p < 9218868437227405312) (hp2 : -9218868437227405313 ≤ p) : Calls Tryd.prog 50 #[.float .f64 a] w fun e w' => e = .returned (.float .f64 (unkeyB (p + 1))) ∧ w = w' := by
  have UK := Lib.hid (fun w => Runkey_any (p + 1) (by omega) (by omega) w)
  have g : IntKind.i64.wrap (p + 1) = p + 1 := by rw [IntKind.wrap_i64]; omega
  have d : True → decide (p ≥ 9218868437227405312) = false := fun _ => decide_eq_false (by omega)
  clear hp hp2
  go_enter Tryd.func50, Tryd.ntmps50
  go_wp2_with fail
  refine (HK.out _).mono ?_; rintro e1 w1 ⟨rfl, rfl⟩
  go_wp2_with fail
  refine (UK.out _).mono ?_; rintro e2 w2 ⟨rfl, rfl⟩
  go_wp2
  go_ret
  exact ⟨rfl, rfl⟩

theorem Rnext_D (a : Nat) (ha : a < 18446744073709551616) (w : World) : Calls Tryd.prog 50 #[.float .f64 a] w fun e w' => e = .returned (.float .f64 (nextD a)) ∧ w = w' := by
  have HK := Lib.hid (fun w => Rkey_any a ha w)
  cases hn : nanD a
  · by_cases hz : a % 9223372036854775808 = 0
    · have e : nextD a = 1 := by
        unfold nextD; rw [canonD_id hn, if_neg (by omega), if_pos hz]
      rw [e]; exact RnextZero a _ w HK (by rw [zero64 a hn]; exact decide_eq_true hz)
    · have z : (FloatKind.f64.format.order a 0 == some .eq) = false := by rw [zero64 a hn]; exact decide_eq_false hz
      by_cases hp : place a < 9218868437227405312
      · have h := place_next ha hn (by omega) hp
        have e : unkeyB (place a + 1) = nextD a := by rw [← h.1]; exact unkey_place h.2.2 h.2.1
        rw [← e]; exact RnextGo a _ w HK z hp (place_range a ha).1
      · have h : a = 9218868437227405312 := by rcases place_cases ha hn with ⟨_, h⟩ | ⟨_, _, h⟩ <;> omega
        have e : nextD a = canonD a := by unfold nextD; rw [canonD_id hn, if_pos (.inr h)]
        rw [e]; exact RnextStay a _ w HK z (by omega)
  · have e : nextD a = canonD a := by unfold nextD; rw [canonD_nan hn, if_pos (.inl rfl)]
    rw [e]; exact RnextStay a _ w HK (nan_zero64 a hn) (by rw [place_nan hn]; omega)

set_option maxRecDepth 100000 in
set_option maxHeartbeats 600000 in
theorem RnextNan_S (a c : Nat) (w : World) (HB : Hid (∀ w, Calls Tryd.prog 85 #[.float .f32 a] w fun e w' => e = .returned (.int .u32 c) ∧ w = w')) (hx : (FloatKind.f32.format.order a a != some .eq) = true) : Calls Tryd.prog 56 #[.float .f32 a] w fun e w' => e = .returned (.float .f32 (canonS a)) ∧ w = w' := by
  go_enter Tryd.func56, Tryd.ntmps56
  go_wp2_with fail
  refine (HB.out _).mono ?_; rintro e1 w1 ⟨rfl, rfl⟩
  go_wp2_with fail
  refine (Rcanon_S a _).mono ?_; rintro e2 w2 ⟨rfl, rfl⟩
  go_wp2
  go_ret
  exact ⟨rfl, rfl⟩

set_option maxRecDepth 100000 in
set_option maxHeartbeats 600000 in
theorem RnextInf_S (a c : Nat) (w : World) (HB : Hid (∀ w, Calls Tryd.prog 85 #[.float .f32 a] w fun e w' => e = .returned (.int .u32 c) ∧ w = w')) (hx : (FloatKind.f32.format.order a a != some .eq) = false) (hc : c = 2139095040) : Calls Tryd.prog 56 #[.float .f32 a] w fun e w' => e = .returned (.float .f32 (canonS a)) ∧ w = w' := by
  subst hc
  go_enter Tryd.func56, Tryd.ntmps56
  go_wp2_with fail
  refine (HB.out _).mono ?_; rintro e1 w1 ⟨rfl, rfl⟩
  go_wp2_with fail
  refine (Rcanon_S a _).mono ?_; rintro e2 w2 ⟨rfl, rfl⟩
  go_wp2
  go_ret
  exact ⟨rfl, rfl⟩

set_option maxRecDepth 100000 in
set_option maxHeartbeats 600000 in
theorem RnextZero_S (a c : Nat) (w : World) (HB : Hid (∀ w, Calls Tryd.prog 85 #[.float .f32 a] w fun e w' => e = .returned (.int .u32 c) ∧ w = w')) (hx : (FloatKind.f32.format.order a a != some .eq) = false) (hc : c ≠ 2139095040) (z : (FloatKind.f32.format.order a 0 == some .eq) = true) : Calls Tryd.prog 56 #[.float .f32 a] w fun e w' => e = .returned (.float .f32 1) ∧ w = w' := by
  have n : ((c : Int) == 2139095040) = false := by rw [beq_eq_false_iff_ne]; omega
  clear hc
  go_enter Tryd.func56, Tryd.ntmps56
  go_wp2_with fail
  refine (HB.out _).mono ?_; rintro e1 w1 ⟨rfl, rfl⟩
  go_wp2
  go_ret
  exact ⟨rfl, rfl⟩

set_option maxRecDepth 100000 in
set_option maxHeartbeats 600000 in
theorem RnextNeg_S (a c : Nat) (w : World) (HB : Hid (∀ w, Calls Tryd.prog 85 #[.float .f32 a] w fun e w' => e = .returned (.int .u32 c) ∧ w = w')) (hx : (FloatKind.f32.format.order a a != some .eq) = false) (hc : c ≠ 2139095040) (z : (FloatKind.f32.format.order a 0 == some .eq) = false) (hs : 2147483648 ≤ c) (hl : c < 4294967296) : Calls Tryd.prog 56 #[.float .f32 a] w fun e w' => e = .returned (.float .f32 (c - 1)) ∧ w = w' := by
  have n : ((c : Int) == 2139095040) = false := by rw [beq_eq_false_iff_ne]; omega
  have e : ((c : Int) / 2147483648 == 1) = true := by rw [beq_iff_eq]; omega
  obtain ⟨r, hr⟩ : ∃ r : Nat, c - 1 = r := ⟨_, rfl⟩
  have g : IntKind.u32.wrap ((c : Int) - 1) = r := by rw [IntKind.wrap_u32]; omega
  have g' : ((c : Int) - 1) % 4294967296 = r := by omega
  rw [hr]
  clear hc hs hl hr
  go_enter Tryd.func56, Tryd.ntmps56
  go_wp2_with fail
  refine (HB.out _).mono ?_; rintro e1 w1 ⟨rfl, rfl⟩
  go_wp2
  go_ret
  exact ⟨rfl, rfl⟩

set_option maxRecDepth 100000 in
set_option maxHeartbeats 600000 in
theorem RnextPos_S (a c : Nat) (w : World) (HB : Hid (∀ w, Calls Tryd.prog 85 #[.float .f32 a] w fun e w' => e = .returned (.int .u32 c) ∧ w = w')) (hx : (FloatKind.f32.format.order a a != some .eq) = false) (hc : c ≠ 2139095040) (z : (FloatKind.f32.format.order a 0 == some .eq) = false) (hs : c < 2147483648) (hl : c < 4294967296) : Calls Tryd.prog 56 #[.float .f32 a] w fun e w' => e = .returned (.float .f32 (c + 1)) ∧ w = w' := by
  have n : ((c : Int) == 2139095040) = false := by rw [beq_eq_false_iff_ne]; omega
  have e : ((c : Int) / 2147483648 == 1) = false := by rw [beq_eq_false_iff_ne]; omega
  obtain ⟨r, hr⟩ : ∃ r : Nat, c + 1 = r := ⟨_, rfl⟩
  have g : IntKind.u32.wrap ((c : Int) + 1) = r := by rw [IntKind.wrap_u32]; omega
  have g' : ((c : Int) + 1) % 4294967296 = r := by omega
  rw [hr]
  clear hc hs hl hr
  go_enter Tryd.func56, Tryd.ntmps56
  go_wp2_with fail
  refine (HB.out _).mono ?_; rintro e1 w1 ⟨rfl, rfl⟩
  go_wp2
  go_ret
  exact ⟨rfl, rfl⟩

theorem Rnext_S (a : Nat) (ha : a < 4294967296) (w : World) : Calls Tryd.prog 56 #[.float .f32 a] w fun e w' => e = .returned (.float .f32 (nextS a)) ∧ w = w' := by
  have HB := Lib.hid (fun w => Rbits_S a w)
  have hx := ne_self32 a
  cases hn : nanS a
  · rw [hn] at hx; have hc := canonS_id hn
    unfold nextS; rw [hc]; have hc' := hc; rw [hc] at HB
    by_cases hi : a = 2139095040
    · rw [if_pos (.inr hi)]; have h := RnextInf_S a a w HB hx hi; rw [hc'] at h; exact h
    have hq : a ≠ 2143289344 := fun h => by rw [h] at hn; exact absurd hn (by decide)
    rw [if_neg (by omega)]
    by_cases hz : a % 2147483648 = 0
    · rw [if_pos hz]; exact RnextZero_S a a w HB hx hi (by rw [zero32 a hn]; exact decide_eq_true hz)
    have z : (FloatKind.f32.format.order a 0 == some .eq) = false := by rw [zero32 a hn]; exact decide_eq_false hz
    rw [if_neg hz]
    by_cases hs : 2147483648 ≤ a
    · rw [if_pos hs]; exact RnextNeg_S a a w HB hx hi z hs ha
    · rw [if_neg hs]; exact RnextPos_S a a w HB hx hi z (by omega) ha
  · rw [hn] at hx; have hc := canonS_nan hn
    have e : nextS a = canonS a := by unfold nextS; rw [hc, if_pos (.inl rfl)]
    rw [e]; exact RnextNan_S a _ w HB hx

set_option maxRecDepth 100000 in
set_option maxHeartbeats 600000 in
theorem Rprev_D (a : Nat) (ha : a < 18446744073709551616) (w : World) : Calls Tryd.prog 52 #[.float .f64 a] w fun e w' => e = .returned (.float .f64 (prevD a)) ∧ w = w' := by
  have hx := ne_self64 a
  have n1 := neg64 a ha
  have n2 := neg64 (nextD (turnD a)) (nextD_lt (turnD_lt a))
  have NX := Lib.hid (fun w => Rnext_D (turnD a) (turnD_lt a) w)
  unfold prevD
  cases hn : nanD a
  · rw [hn] at hx; rw [if_neg (by simp)]
    clear hn ha
    generalize turnD (nextD (turnD a)) = u at *
    generalize nextD (turnD a) = v at *
    generalize turnD a = t at *
    go_enter Tryd.func52, Tryd.ntmps52
    go_wp2_with fail
    refine (NX.out _).mono ?_; rintro e1 w1 ⟨rfl, rfl⟩
    go_wp2
    go_ret
    exact ⟨rfl, rfl⟩
  · rw [hn] at hx; rw [if_pos (by simp), canonD_nan hn]
    clear hn ha n1 n2 NX
    go_enter Tryd.func52, Tryd.ntmps52
    go_wp2_with fail
    refine (Rnan_D _).mono ?_; rintro e1 w1 ⟨rfl, rfl⟩
    go_wp2
    go_ret
    exact ⟨rfl, rfl⟩

set_option maxRecDepth 100000 in
set_option maxHeartbeats 600000 in
theorem Rprev_S (a : Nat) (ha : a < 4294967296) (w : World) : Calls Tryd.prog 58 #[.float .f32 a] w fun e w' => e = .returned (.float .f32 (prevS a)) ∧ w = w' := by
  have hx := ne_self32 a
  have n1 := neg32 a ha
  have n2 := neg32 (nextS (turnS a)) (nextS_lt (turnS_lt a))
  have NX := Lib.hid (fun w => Rnext_S (turnS a) (turnS_lt a) w)
  unfold prevS
  cases hn : nanS a
  · rw [hn] at hx; rw [if_neg (by simp)]
    clear hn ha
    generalize turnS (nextS (turnS a)) = u at *
    generalize nextS (turnS a) = v at *
    generalize turnS a = t at *
    go_enter Tryd.func58, Tryd.ntmps58
    go_wp2_with fail
    refine (NX.out _).mono ?_; rintro e1 w1 ⟨rfl, rfl⟩
    go_wp2
    go_ret
    exact ⟨rfl, rfl⟩
  · rw [hn] at hx; rw [if_pos (by simp)]
    clear hn ha n1 n2 NX
    go_enter Tryd.func58, Tryd.ntmps58
    go_wp2_with fail
    refine (Rcanon_S a _).mono ?_; rintro e1 w1 ⟨rfl, rfl⟩
    go_wp2
    go_ret
    exact ⟨rfl, rfl⟩

end Go.Proofs.YthjaponkbodooaaDoor
