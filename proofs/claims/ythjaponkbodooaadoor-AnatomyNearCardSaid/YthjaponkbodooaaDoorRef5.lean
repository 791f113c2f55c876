/- the document's step of a number, and AnatomyNext: the walks. -/
import Derived.Test.YthjaponkbodooaaDoorRef4
import Derived.Test.YthjaponkbodooaaDoorUlp
namespace Go.Proofs.YthjaponkbodooaaDoor
open Go.RowKit

set_option maxRecDepth 100000 in
set_option maxHeartbeats 600000 in
theorem abs_any (a : Nat) (ha : a < 18446744073709551616) (w : World) : Calls Tryd.prog 69 #[.float .f64 a] w fun e w' => e = .returned (.float .f64 (a % 9223372036854775808)) ∧ w = w' := by
  have h := u64_unsign a ha
  generalize a % 9223372036854775808 = m at *
  clear ha
  go_enter Tryd.func69, Tryd.ntmps69
  go_wp2
  go_ret
  exact ⟨rfl, rfl⟩

theorem max64 (m : Nat) (hm : m < 9218868437227405312) : (FloatKind.f64.format.order m 9218868437227405311 == some .eq) = decide (m = 9218868437227405311) := by
  show (Ieee.double.order m 9218868437227405311 == some .eq) = _
  rw [Fp.eq64 m 9218868437227405311 (decide_eq_false (by omega)) (by decide), Bool.eq_iff_iff, decide_eq_true_iff, decide_eq_true_iff]
  unfold Fp.key64; rw [if_neg (by omega), if_neg (by decide)]; omega
theorem next_finD (m : Nat) (hm : m < 9218868437227405312) : nextD m = m + 1 := by
  have hn : nanD m = false := decide_eq_false (by omega)
  unfold nextD; rw [canonD_id hn, if_neg (by omega)]
  by_cases h : m % 9223372036854775808 = 0
  · rw [if_pos h]; omega
  · rw [if_neg h, if_neg (by omega)]
theorem step_maxD : stepRD (9218868437227405311 - 1) = stepRD 9218868437227405311 := by decide
theorem prev_maxD : prevD 9218868437227405311 = 9218868437227405311 - 1 := by decide
theorem finD {a : Nat} (ha : a < 18446744073709551616) (h : a % 9223372036854775808 < 9218868437227405312) : 2 < classD a := by
  have hn : nanD a = false := decide_eq_false (by omega)
  have he : expD a ≠ 2047 := by unfold expD; rw [canonD_id hn]; omega
  unfold classD classOf
  rw [if_neg (by omega), if_neg he]; split <;> (try split) <;> omega
theorem infinD {a : Nat} (h : 9218868437227405312 ≤ a % 9223372036854775808) : ¬ 2 < classD a ∧ ulpD a = canonD (a % 9223372036854775808) := by
  have he : expD a = 2047 := by
    unfold expD canonD
    cases hn : nanD a
    · have := nanD_false hn
      rw [if_neg (by simp)]; omega
    · rw [if_pos rfl]
  constructor
  · unfold classD classOf; rw [he]; split
    · omega
    · rw [if_pos rfl]; omega
  · unfold ulpD; rw [if_pos he]
    cases hn : nanD a
    · have := nanD_false hn
      have hm : a % 9223372036854775808 = 9218868437227405312 := by omega
      have hf : fracD a = 0 := by unfold fracD; rw [canonD_id hn]; omega
      rw [if_pos hf, hm]; decide
    · have hm : nanD (a % 9223372036854775808) = true := by have h := hn; unfold nanD at h ⊢; rw [Nat.mod_mod]; exact h
      have hf : fracD a ≠ 0 := by unfold fracD; rw [canonD_nan hn]; decide
      rw [if_neg hf, canonD_nan hn, canonD_nan hm]

theorem max32 (m : Nat) (hm : m < 2139095040) : (FloatKind.f32.format.order m 2139095039 == some .eq) = decide (m = 2139095039) := by
  show (Ieee.single.order m 2139095039 == some .eq) = _
  rw [Fp.eq32 m 2139095039 (decide_eq_false (by omega)) (by decide), Bool.eq_iff_iff, decide_eq_true_iff, decide_eq_true_iff]
  unfold Fp.key32; rw [if_neg (by omega), if_neg (by decide)]; omega
theorem next_finS (m : Nat) (hm : m < 2139095040) : nextS m = m + 1 := by
  have hn : nanS m = false := decide_eq_false (by omega)
  unfold nextS; rw [canonS_id hn, if_neg (by omega)]
  by_cases h : m % 2147483648 = 0
  · rw [if_pos h]; omega
  · rw [if_neg h, if_neg (by omega)]
theorem step_maxS : stepRS (2139095039 - 1) = stepRS 2139095039 := by decide
theorem prev_maxS : prevS 2139095039 = 2139095039 - 1 := by decide
theorem finS {a : Nat} (ha : a < 4294967296) (h : a % 2147483648 < 2139095040) : 2 < classS a := by
  have hn : nanS a = false := decide_eq_false (by omega)
  have he : expS a ≠ 255 := by unfold expS; rw [canonS_id hn]; omega
  unfold classS classOf
  rw [if_neg (by omega), if_neg he]; split <;> (try split) <;> omega
theorem infinS {a : Nat} (h : 2139095040 ≤ a % 2147483648) : ¬ 2 < classS a ∧ ulpS a = canonS (a % 2147483648) := by
  have he : expS a = 255 := by
    unfold expS canonS
    cases hn : nanS a
    · have := nanS_false hn
      rw [if_neg (by simp)]; omega
    · rw [if_pos rfl]
  constructor
  · unfold classS classOf; rw [he]; split
    · omega
    · rw [if_pos rfl]; omega
  · unfold ulpS; rw [if_pos he]
    cases hn : nanS a
    · have := nanS_false hn
      have hm : a % 2147483648 = 2139095040 := by omega
      have hf : fracS a = 0 := by unfold fracS; rw [canonS_id hn]; omega
      rw [if_pos hf, hm]; decide
    · have hm : nanS (a % 2147483648) = true := by have h := hn; unfold nanS at h ⊢; rw [Nat.mod_mod]; exact h
      have hf : fracS a ≠ 0 := by unfold fracS; rw [canonS_nan hn]; decide
      rw [if_neg hf, canonS_nan hn, canonS_nan hm]

set_option maxRecDepth 100000 in
set_option maxHeartbeats 600000 in
theorem RulpInf_D (a : Nat) (ha : a < 18446744073709551616) (h : 9218868437227405312 ≤ a % 9223372036854775808) (w : World) : Calls Tryd.prog 54 #[.float .f64 a] w fun e w' => e = .returned (.float .f64 (ulpD a)) ∧ w = w' := by
  have HA := Lib.hid (fun w => abs_any a ha w)
  have HF := Lib.hid (fun w => Rfinite a ha w)
  have hi := infinD h
  rw [decide_eq_false hi.1] at HF
  rw [hi.2]
  clear ha h hi
  generalize a % 9223372036854775808 = m at *
  go_enter Tryd.func54, Tryd.ntmps54
  go_wp2_with fail
  refine (HA.out _).mono ?_; rintro e1 w1 ⟨rfl, rfl⟩
  go_wp2_with fail
  refine (HF.out _).mono ?_; rintro e2 w2 ⟨rfl, rfl⟩
  go_wp2_with fail
  refine (Rcanon_D m _).mono ?_; rintro e3 w3 ⟨rfl, rfl⟩
  go_wp2
  go_ret
  exact ⟨rfl, rfl⟩

set_option maxRecDepth 100000 in
set_option maxHeartbeats 600000 in
theorem RulpMax_D (a : Nat) (ha : a < 18446744073709551616) (h : a % 9223372036854775808 = 9218868437227405311) (w : World) : Calls Tryd.prog 54 #[.float .f64 a] w fun e w' => e = .returned (.float .f64 (ulpD a)) ∧ w = w' := by
  have HA := Lib.hid (fun w => abs_any a ha w)
  have HF := Lib.hid (fun w => Rfinite a ha w)
  rw [decide_eq_true (finD ha (by omega))] at HF
  have HP := Lib.hid (fun w => Rprev_D 9218868437227405311 (by decide) w)
  rw [prev_maxD] at HP
  have hz := max64 9218868437227405311 (by decide)
  rw [decide_eq_true rfl] at hz
  have hs := run_sub64 (sub_nextD (9218868437227405311 - 1) (by decide))
  rw [step_maxD] at hs
  rw [ulp_finD a ha (by omega), h]
  rw [h] at HA
  simp only [Nat.reduceSub, Nat.reduceAdd] at HP hs
  generalize stepRD 9218868437227405311 = r at *
  clear ha h
  go_enter Tryd.func54, Tryd.ntmps54
  go_wp2_with fail
  refine (HA.out _).mono ?_; rintro e1 w1 ⟨rfl, rfl⟩
  go_wp2_with fail
  refine (HF.out _).mono ?_; rintro e2 w2 ⟨rfl, rfl⟩
  go_wp2_with fail
  refine (HP.out _).mono ?_; rintro e3 w3 ⟨rfl, rfl⟩
  go_wp2
  go_ret
  exact ⟨rfl, rfl⟩

set_option maxRecDepth 100000 in
set_option maxHeartbeats 600000 in
theorem RulpFin_D (a : Nat) (ha : a < 18446744073709551616) (h : a % 9223372036854775808 < 9218868437227405311) (w : World) : Calls Tryd.prog 54 #[.float .f64 a] w fun e w' => e = .returned (.float .f64 (ulpD a)) ∧ w = w' := by
  have HA := Lib.hid (fun w => abs_any a ha w)
  have HF := Lib.hid (fun w => Rfinite a ha w)
  rw [decide_eq_true (finD ha (by omega))] at HF
  have HN := Lib.hid (fun w => Rnext_D (a % 9223372036854775808) (by omega) w)
  rw [next_finD _ (by omega)] at HN
  have hz := max64 (a % 9223372036854775808) (by omega)
  rw [decide_eq_false (by omega)] at hz
  have hs := run_sub64 (sub_nextD (a % 9223372036854775808) (by omega))
  rw [ulp_finD a ha (by omega)]
  generalize stepRD (a % 9223372036854775808) = r at *
  generalize a % 9223372036854775808 = m at *
  obtain ⟨n, hn⟩ : ∃ n, m + 1 = n := ⟨_, rfl⟩
  rw [hn] at HN hs
  clear ha h hn
  go_enter Tryd.func54, Tryd.ntmps54
  go_wp2_with fail
  refine (HA.out _).mono ?_; rintro e1 w1 ⟨rfl, rfl⟩
  go_wp2_with fail
  refine (HF.out _).mono ?_; rintro e2 w2 ⟨rfl, rfl⟩
  go_wp2_with fail
  refine (HN.out _).mono ?_; rintro e3 w3 ⟨rfl, rfl⟩
  go_wp2
  go_ret
  exact ⟨rfl, rfl⟩

theorem Rulp_D (a : Nat) (ha : a < 18446744073709551616) (w : World) : Calls Tryd.prog 54 #[.float .f64 a] w fun e w' => e = .returned (.float .f64 (ulpD a)) ∧ w = w' := by
  by_cases h1 : 9218868437227405312 ≤ a % 9223372036854775808
  · exact RulpInf_D a ha h1 w
  by_cases h2 : a % 9223372036854775808 = 9218868437227405311
  · exact RulpMax_D a ha h2 w
  · exact RulpFin_D a ha (by omega) w

set_option maxRecDepth 100000 in
set_option maxHeartbeats 600000 in
theorem RulpNan_Sn (a m r n c : Nat) (w : World) (e1 : ((a : Int) / 2147483648 == 1) = true) (n1 : Go.Op.negFloat .f32 a = m) (hx : (FloatKind.f32.format.order a a != some .eq) = true) (HC : Hid (∀ w, Calls Tryd.prog 88 #[.float .f32 m] w fun e w' => e = .returned (.float .f32 c) ∧ w = w')) : Calls Tryd.prog 60 #[.float .f32 a] w fun e w' => e = .returned (.float .f32 c) ∧ w = w' := by
  go_enter Tryd.func60, Tryd.ntmps60
  go_wp2_with fail
  refine (HC.out _).mono ?_; rintro e1 w1 ⟨rfl, rfl⟩
  go_wp2
  go_ret
  exact ⟨rfl, rfl⟩

set_option maxRecDepth 100000 in
set_option maxHeartbeats 600000 in
theorem RulpNan_Sp (a r n c : Nat) (w : World) (e1 : ((a : Int) / 2147483648 == 1) = false) (hx : (FloatKind.f32.format.order a a != some .eq) = true) (HC : Hid (∀ w, Calls Tryd.prog 88 #[.float .f32 a] w fun e w' => e = .returned (.float .f32 c) ∧ w = w')) : Calls Tryd.prog 60 #[.float .f32 a] w fun e w' => e = .returned (.float .f32 c) ∧ w = w' := by
  go_enter Tryd.func60, Tryd.ntmps60
  go_wp2_with fail
  refine (HC.out _).mono ?_; rintro e1 w1 ⟨rfl, rfl⟩
  go_wp2
  go_ret
  exact ⟨rfl, rfl⟩

set_option maxRecDepth 100000 in
set_option maxHeartbeats 600000 in
theorem RulpInf_Sn (a m r n c : Nat) (w : World) (e1 : ((a : Int) / 2147483648 == 1) = true) (n1 : Go.Op.negFloat .f32 a = m) (hx : (FloatKind.f32.format.order a a != some .eq) = false) (HC : Hid (∀ w, Calls Tryd.prog 88 #[.float .f32 m] w fun e w' => e = .returned (.float .f32 c) ∧ w = w')) (HB : Hid (∀ w, Calls Tryd.prog 85 #[.float .f32 m] w fun e w' => e = .returned (.int .u32 (2139095040 : Nat)) ∧ w = w')) : Calls Tryd.prog 60 #[.float .f32 a] w fun e w' => e = .returned (.float .f32 c) ∧ w = w' := by
  go_enter Tryd.func60, Tryd.ntmps60
  go_wp2_with fail
  refine (HB.out _).mono ?_; rintro e1 w1 ⟨rfl, rfl⟩
  go_wp2_with fail
  refine (HC.out _).mono ?_; rintro e2 w2 ⟨rfl, rfl⟩
  go_wp2
  go_ret
  exact ⟨rfl, rfl⟩

set_option maxRecDepth 100000 in
set_option maxHeartbeats 600000 in
theorem RulpInf_Sp (a r n c : Nat) (w : World) (e1 : ((a : Int) / 2147483648 == 1) = false) (hx : (FloatKind.f32.format.order a a != some .eq) = false) (HC : Hid (∀ w, Calls Tryd.prog 88 #[.float .f32 a] w fun e w' => e = .returned (.float .f32 c) ∧ w = w')) (HB : Hid (∀ w, Calls Tryd.prog 85 #[.float .f32 a] w fun e w' => e = .returned (.int .u32 (2139095040 : Nat)) ∧ w = w')) : Calls Tryd.prog 60 #[.float .f32 a] w fun e w' => e = .returned (.float .f32 c) ∧ w = w' := by
  go_enter Tryd.func60, Tryd.ntmps60
  go_wp2_with fail
  refine (HB.out _).mono ?_; rintro e1 w1 ⟨rfl, rfl⟩
  go_wp2_with fail
  refine (HC.out _).mono ?_; rintro e2 w2 ⟨rfl, rfl⟩
  go_wp2
  go_ret
  exact ⟨rfl, rfl⟩

set_option maxRecDepth 100000 in
set_option maxHeartbeats 600000 in
theorem RulpMax_Sn (a m r n c : Nat) (w : World) (e1 : ((a : Int) / 2147483648 == 1) = true) (n1 : Go.Op.negFloat .f32 a = m) (hx : (FloatKind.f32.format.order a a != some .eq) = false) (HB : Hid (∀ w, Calls Tryd.prog 85 #[.float .f32 m] w fun e w' => e = .returned (.int .u32 c) ∧ w = w')) (hc : ((c : Int) == 2139095040) = false) (hz : (FloatKind.f32.format.order m 2139095039 == some .eq) = true) (HP : Hid (∀ w, Calls Tryd.prog 58 #[.float .f32 m] w fun e w' => e = .returned (.float .f32 n) ∧ w = w')) (hs : ∀ (t : TypeId) (P : Program) (w : World), (binOp .sub t (.float .f32 m) (.float .f32 n)).run P w = .ok (.float .f32 r) w) : Calls Tryd.prog 60 #[.float .f32 a] w fun e w' => e = .returned (.float .f32 r) ∧ w = w' := by
  go_enter Tryd.func60, Tryd.ntmps60
  go_wp2_with fail
  refine (HB.out _).mono ?_; rintro e1 w1 ⟨rfl, rfl⟩
  go_wp2_with fail
  refine (HP.out _).mono ?_; rintro e2 w2 ⟨rfl, rfl⟩
  go_wp2
  go_ret
  exact ⟨rfl, rfl⟩

set_option maxRecDepth 100000 in
set_option maxHeartbeats 600000 in
theorem RulpMax_Sp (a r n c : Nat) (w : World) (e1 : ((a : Int) / 2147483648 == 1) = false) (hx : (FloatKind.f32.format.order a a != some .eq) = false) (HB : Hid (∀ w, Calls Tryd.prog 85 #[.float .f32 a] w fun e w' => e = .returned (.int .u32 c) ∧ w = w')) (hc : ((c : Int) == 2139095040) = false) (hz : (FloatKind.f32.format.order a 2139095039 == some .eq) = true) (HP : Hid (∀ w, Calls Tryd.prog 58 #[.float .f32 a] w fun e w' => e = .returned (.float .f32 n) ∧ w = w')) (hs : ∀ (t : TypeId) (P : Program) (w : World), (binOp .sub t (.float .f32 a) (.float .f32 n)).run P w = .ok (.float .f32 r) w) : Calls Tryd.prog 60 #[.float .f32 a] w fun e w' => e = .returned (.float .f32 r) ∧ w = w' := by
  go_enter Tryd.func60, Tryd.ntmps60
  go_wp2_with fail
  refine (HB.out _).mono ?_; rintro e1 w1 ⟨rfl, rfl⟩
  go_wp2_with fail
  refine (HP.out _).mono ?_; rintro e2 w2 ⟨rfl, rfl⟩
  go_wp2
  go_ret
  exact ⟨rfl, rfl⟩

set_option maxRecDepth 100000 in
set_option maxHeartbeats 600000 in
theorem RulpFin_Sn (a m r n c : Nat) (w : World) (e1 : ((a : Int) / 2147483648 == 1) = true) (n1 : Go.Op.negFloat .f32 a = m) (hx : (FloatKind.f32.format.order a a != some .eq) = false) (HB : Hid (∀ w, Calls Tryd.prog 85 #[.float .f32 m] w fun e w' => e = .returned (.int .u32 c) ∧ w = w')) (hc : ((c : Int) == 2139095040) = false) (hz : (FloatKind.f32.format.order m 2139095039 == some .eq) = false) (HN : Hid (∀ w, Calls Tryd.prog 56 #[.float .f32 m] w fun e w' => e = .returned (.float .f32 n) ∧ w = w')) (hs : ∀ (t : TypeId) (P : Program) (w : World), (binOp .sub t (.float .f32 n) (.float .f32 m)).run P w = .ok (.float .f32 r) w) : Calls Tryd.prog 60 #[.float .f32 a] w fun e w' => e = .returned (.float .f32 r) ∧ w = w' := by
  go_enter Tryd.func60, Tryd.ntmps60
  go_wp2_with fail
  refine (HB.out _).mono ?_; rintro e1 w1 ⟨rfl, rfl⟩
  go_wp2_with fail
  refine (HN.out _).mono ?_; rintro e2 w2 ⟨rfl, rfl⟩
  go_wp2
  go_ret
  exact ⟨rfl, rfl⟩

set_option maxRecDepth 100000 in
set_option maxHeartbeats 600000 in
theorem RulpFin_Sp (a r n c : Nat) (w : World) (e1 : ((a : Int) / 2147483648 == 1) = false) (hx : (FloatKind.f32.format.order a a != some .eq) = false) (HB : Hid (∀ w, Calls Tryd.prog 85 #[.float .f32 a] w fun e w' => e = .returned (.int .u32 c) ∧ w = w')) (hc : ((c : Int) == 2139095040) = false) (hz : (FloatKind.f32.format.order a 2139095039 == some .eq) = false) (HN : Hid (∀ w, Calls Tryd.prog 56 #[.float .f32 a] w fun e w' => e = .returned (.float .f32 n) ∧ w = w')) (hs : ∀ (t : TypeId) (P : Program) (w : World), (binOp .sub t (.float .f32 n) (.float .f32 a)).run P w = .ok (.float .f32 r) w) : Calls Tryd.prog 60 #[.float .f32 a] w fun e w' => e = .returned (.float .f32 r) ∧ w = w' := by
  go_enter Tryd.func60, Tryd.ntmps60
  go_wp2_with fail
  refine (HB.out _).mono ?_; rintro e1 w1 ⟨rfl, rfl⟩
  go_wp2_with fail
  refine (HN.out _).mono ?_; rintro e2 w2 ⟨rfl, rfl⟩
  go_wp2
  go_ret
  exact ⟨rfl, rfl⟩

theorem Rulp_S (a : Nat) (ha : a < 4294967296) (w : World) : Calls Tryd.prog 60 #[.float .f32 a] w fun e w' => e = .returned (.float .f32 (ulpS a)) ∧ w = w' := by
  have hx := ne_self32 a
  have key : ∀ m, m = a % 2147483648 → (2147483648 ≤ a → Go.Op.negFloat .f32 a = m) ∧ (¬ 2147483648 ≤ a → a = m) := fun m hm => ⟨fun h => by rw [neg32 a ha]; unfold turnS; omega, fun h => by omega⟩
  have e1 : ((a : Int) / 2147483648 == 1) = decide (2147483648 ≤ a) := by rw [Bool.eq_iff_iff, beq_iff_eq, decide_eq_true_iff]; omega
  obtain ⟨m, hm⟩ : ∃ m, m = a % 2147483648 := ⟨_, rfl⟩
  have K := key m hm
  cases hn : nanS a
  · rw [hn] at hx
    have hle := nanS_false hn
    by_cases h1 : 2139095040 ≤ m
    · have hmi : m = 2139095040 := by omega
      have hu : ulpS a = 2139095040 := by rw [(infinS (by omega)).2, ← hm, hmi]; decide
      rw [hu]
      have HC : Hid (∀ w, Calls Tryd.prog 88 #[.float .f32 2139095040] w fun e w' => e = .returned (.float .f32 2139095040) ∧ w = w') := fun w => Rcanon_S 2139095040 w
      have HB : Hid (∀ w, Calls Tryd.prog 85 #[.float .f32 2139095040] w fun e w' => e = .returned (.int .u32 (2139095040 : Nat)) ∧ w = w') := fun w => Rbits_S 2139095040 w
      by_cases hs : 2147483648 ≤ a
      · rw [decide_eq_true hs] at e1
        have n1 := K.1 hs
        rw [hmi] at n1
        exact RulpInf_Sn a 2139095040 0 0 2139095040 w e1 n1 hx HC HB
      · rw [decide_eq_false hs] at e1
        have n1 := K.2 hs
        rw [hmi] at n1
        subst n1
        exact RulpInf_Sp _ 0 0 2139095040 w e1 hx HC HB
    · have hmn : nanS m = false := decide_eq_false (by omega)
      have HB : Hid (∀ w, Calls Tryd.prog 85 #[.float .f32 m] w fun e w' => e = .returned (.int .u32 m) ∧ w = w') := fun w => by have h := Rbits_S m w; rw [canonS_id hmn] at h; exact h
      have hc : ((m : Int) == 2139095040) = false := by rw [beq_eq_false_iff_ne]; omega
      have hu : ulpS a = stepRS m := by rw [ulp_finS a ha (by omega), ← hm]
      have hz := max32 m (by omega)
      rw [hu]
      by_cases h2 : m = 2139095039
      · rw [decide_eq_true h2] at hz
        have HP : Hid (∀ w, Calls Tryd.prog 58 #[.float .f32 m] w fun e w' => e = .returned (.float .f32 2139095038) ∧ w = w') := fun w => by have h := Rprev_S m (by omega) w; rw [h2, prev_maxS] at h; rw [h2]; exact h
        have hsb : ∀ (t : TypeId) (P : Program) (w : World), (binOp .sub t (.float .f32 m) (.float .f32 2139095038)).run P w = .ok (.float .f32 (stepRS m)) w := by
          have h := run_sub32 (sub_nextS (2139095039 - 1) (by decide)); rw [step_maxS] at h; rw [h2]; exact h
        by_cases hs : 2147483648 ≤ a
        · rw [decide_eq_true hs] at e1
          exact RulpMax_Sn a m _ _ m w e1 (K.1 hs) hx HB hc hz HP hsb
        · rw [decide_eq_false hs] at e1
          have n1 := K.2 hs
          subst n1
          exact RulpMax_Sp a _ _ a w e1 hx HB hc hz HP hsb
      · rw [decide_eq_false h2] at hz
        have HN : Hid (∀ w, Calls Tryd.prog 56 #[.float .f32 m] w fun e w' => e = .returned (.float .f32 (m + 1)) ∧ w = w') := fun w => by have h := Rnext_S m (by omega) w; rw [next_finS m (by omega)] at h; exact h
        have hsb := run_sub32 (sub_nextS m (by omega))
        by_cases hs : 2147483648 ≤ a
        · rw [decide_eq_true hs] at e1
          exact RulpFin_Sn a m _ _ m w e1 (K.1 hs) hx HB hc hz HN hsb
        · rw [decide_eq_false hs] at e1
          have n1 := K.2 hs
          subst n1
          exact RulpFin_Sp a _ _ a w e1 hx HB hc hz HN hsb
  · rw [hn] at hx
    have hle : 2139095040 < a % 2147483648 := by have h := hn; unfold nanS at h; simpa using h
    have hmn : nanS m = true := decide_eq_true (by omega)
    have hu : ulpS a = 2143289344 := by rw [(infinS (by omega)).2, ← hm, canonS_nan hmn]
    rw [hu]
    have HC : Hid (∀ w, Calls Tryd.prog 88 #[.float .f32 m] w fun e w' => e = .returned (.float .f32 2143289344) ∧ w = w') := fun w => by have h := Rcanon_S m w; rw [canonS_nan hmn] at h; exact h
    by_cases hs : 2147483648 ≤ a
    · rw [decide_eq_true hs] at e1
      exact RulpNan_Sn a m 0 0 2143289344 w e1 (K.1 hs) hx HC
    · rw [decide_eq_false hs] at e1
      have n1 := K.2 hs
      subst n1
      exact RulpNan_Sp a 0 0 2143289344 w e1 hx HC

theorem canon_nextD (a : Nat) (ha : a < 18446744073709551616) : canonD (nextD a) = nextD a := by
  cases hn : nanD a
  · unfold nextD
    have h := nanD_false hn
    rw [canonD_id hn]
    split
    · exact canonD_id hn
    · split
      · decide
      · split
        · exact canonD_id (decide_eq_false (by omega))
        · exact canonD_id (decide_eq_false (by omega))
  · unfold nextD; rw [canonD_nan hn, if_pos (.inl rfl)]; decide
theorem canon_prevD (a : Nat) (ha : a < 18446744073709551616) : canonD (prevD a) = prevD a := by
  cases hn : nanD a
  · unfold prevD
    have h := nanD_false hn
    rw [if_neg (by rw [hn]; simp)]
    have ht : nanD (turnD a) = false := by unfold nanD turnD; exact decide_eq_false (by omega)
    have hN : nanD (nextD (turnD a)) = false := by
      have h2 := nanD_false ht
      unfold nextD; rw [canonD_id ht]
      split
      · exact ht
      · split
        · decide
        · split <;> exact decide_eq_false (by omega)
    have h3 := nanD_false hN
    exact canonD_id (by unfold turnD at h3 ⊢; unfold nanD; exact decide_eq_false (by omega))
  · unfold prevD; rw [if_pos hn, canonD_nan hn]; decide
theorem canon_ulpD (a : Nat) (ha : a < 18446744073709551616) : canonD (ulpD a) = ulpD a := by
  by_cases h : a % 9223372036854775808 < 9218868437227405312
  · rw [ulp_finD a ha h]
    have := stepRD_le _ h
    exact canonD_id (decide_eq_false (by omega))
  · rw [(infinD (by omega)).2]
    cases hn : nanD (a % 9223372036854775808)
    · rw [canonD_id hn, canonD_id hn]
    · rw [canonD_nan hn]; decide
theorem canon_nextS (a : Nat) (ha : a < 4294967296) : canonS (nextS a) = nextS a := by
  cases hn : nanS a
  · unfold nextS
    have h := nanS_false hn
    rw [canonS_id hn]
    split
    · exact canonS_id hn
    · split
      · decide
      · split
        · exact canonS_id (decide_eq_false (by omega))
        · exact canonS_id (decide_eq_false (by omega))
  · unfold nextS; rw [canonS_nan hn, if_pos (.inl rfl)]; decide
theorem canon_prevS (a : Nat) (ha : a < 4294967296) : canonS (prevS a) = prevS a := by
  cases hn : nanS a
  · unfold prevS
    have h := nanS_false hn
    rw [if_neg (by rw [hn]; simp)]
    have ht : nanS (turnS a) = false := by unfold nanS turnS; exact decide_eq_false (by omega)
    have hN : nanS (nextS (turnS a)) = false := by
      have h2 := nanS_false ht
      unfold nextS; rw [canonS_id ht]
      split
      · exact ht
      · split
        · decide
        · split <;> exact decide_eq_false (by omega)
    have h3 := nanS_false hN
    exact canonS_id (by unfold turnS at h3 ⊢; unfold nanS; exact decide_eq_false (by omega))
  · unfold prevS; rw [if_pos hn, canonS_nan hn]; decide
theorem canon_ulpS (a : Nat) (ha : a < 4294967296) : canonS (ulpS a) = ulpS a := by
  by_cases h : a % 2147483648 < 2139095040
  · rw [ulp_finS a ha h]
    have := stepRS_le _ h
    exact canonS_id (decide_eq_false (by omega))
  · rw [(infinS (by omega)).2]
    cases hn : nanS (a % 2147483648)
    · rw [canonS_id hn, canonS_id hn]
    · rw [canonS_nan hn]; decide

set_option maxRecDepth 100000 in
set_option maxHeartbeats 600000 in
theorem next_walk (a b : Nat) (ha : a < 18446744073709551616) (hb : b < 4294967296) (w : World) (hT : Tab w) : Calls Tryd.prog 8 #[.int .u64 a, .int .u32 b] w fun e w' => e = .returned (.bool true) ∧ Within w w' := by
  have NextD := Lib.hid (fun w => Next_D a ha w); have RNextD := Lib.hid (fun w => Rnext_D a ha w)
  have SNextD := Lib.hid (fun w => same_D (nextD a) (nextD a) w); rw [canon_nextD a ha, decide_eq_true (rfl : nextD a = nextD a)] at SNextD
  have PrevD := Lib.hid (fun w => Prev_D a ha w); have RPrevD := Lib.hid (fun w => Rprev_D a ha w)
  have SPrevD := Lib.hid (fun w => same_D (prevD a) (prevD a) w); rw [canon_prevD a ha, decide_eq_true (rfl : prevD a = prevD a)] at SPrevD
  have UlpD := Lib.hid (fun w => Ulp_D a ha w); have RUlpD := Lib.hid (fun w => Rulp_D a ha w)
  have SUlpD := Lib.hid (fun w => same_D (ulpD a) (ulpD a) w); rw [canon_ulpD a ha, decide_eq_true (rfl : ulpD a = ulpD a)] at SUlpD
  have NextS := Lib.hid (fun w => Next_S b hb w); have RNextS := Lib.hid (fun w => Rnext_S b hb w)
  have SNextS := Lib.hid (fun w => same_S (nextS b) (nextS b) w); rw [canon_nextS b hb, decide_eq_true (rfl : nextS b = nextS b)] at SNextS
  have PrevS := Lib.hid (fun w => Prev_S b hb w); have RPrevS := Lib.hid (fun w => Rprev_S b hb w)
  have SPrevS := Lib.hid (fun w => same_S (prevS b) (prevS b) w); rw [canon_prevS b hb, decide_eq_true (rfl : prevS b = prevS b)] at SPrevS
  have UlpS := Lib.hid (fun w => Ulp_S b hb w); have RUlpS := Lib.hid (fun w => Rulp_S b hb w)
  have SUlpS := Lib.hid (fun w => same_S (ulpS b) (ulpS b) w); rw [canon_ulpS b hb, decide_eq_true (rfl : ulpS b = ulpS b)] at SUlpS
  clear ha hb
  generalize nextD a = na at *
  generalize prevD a = pa at *
  generalize ulpD a = ua at *
  generalize nextS b = nb at *
  generalize prevS b = pb at *
  generalize ulpS b = ub at *
  go_enter Tryd.func8, Tryd.ntmps8
  go_wp2_with fail
  refine (f_any a _).mono ?_; rintro e1 w1 ⟨rfl, rfl⟩
  go_wp2_with fail
  refine (g_any b _).mono ?_; rintro e2 w2 ⟨rfl, rfl⟩
  go_wp2_with fail
  refine (NextD.out _).mono ?_; rintro e3 w3 ⟨rfl, hb3⟩
  have hc3 := hb3.cells; have hf3 := hb3.frozens
  go_wp2_with fail
  refine (RNextD.out _).mono ?_; rintro e4 w4 ⟨rfl, rfl⟩
  go_wp2_with fail
  refine (SNextD.out _).mono ?_; rintro e5 w5 ⟨rfl, rfl⟩
  go_wp2_with fail
  refine (PrevD.out _).mono ?_; rintro e6 w6 ⟨rfl, hb6⟩
  have hc6 := hb6.cells; have hf6 := hb6.frozens
  go_wp2_with fail
  refine (RPrevD.out _).mono ?_; rintro e7 w7 ⟨rfl, rfl⟩
  go_wp2_with fail
  refine (SPrevD.out _).mono ?_; rintro e8 w8 ⟨rfl, rfl⟩
  go_wp2_with fail
  refine (UlpD.out _ (hT.of (by repeat (first | with_reducible exact Within.refl _ | with_reducible assumption | with_reducible refine Within.alloc ?_ _ | with_reducible refine Within.drew ?_ | with_reducible refine Within.setCell ?_ (by first | (simp; done) | (simp; omega)) _ | with_reducible refine Within.trans ?_ (by assumption))))).mono ?_; rintro e9 w9 ⟨rfl, hb9⟩
  have hc9 := hb9.cells; have hf9 := hb9.frozens
  go_wp2_with fail
  refine (RUlpD.out _).mono ?_; rintro e10 w10 ⟨rfl, rfl⟩
  go_wp2_with fail
  refine (SUlpD.out _).mono ?_; rintro e11 w11 ⟨rfl, rfl⟩
  go_wp2_with fail
  refine (NextS.out _).mono ?_; rintro e12 w12 ⟨rfl, hb12⟩
  have hc12 := hb12.cells; have hf12 := hb12.frozens
  go_wp2_with fail
  refine (RNextS.out _).mono ?_; rintro e13 w13 ⟨rfl, rfl⟩
  go_wp2_with fail
  refine (SNextS.out _).mono ?_; rintro e14 w14 ⟨rfl, rfl⟩
  go_wp2_with fail
  refine (PrevS.out _).mono ?_; rintro e15 w15 ⟨rfl, hb15⟩
  have hc15 := hb15.cells; have hf15 := hb15.frozens
  go_wp2_with fail
  refine (RPrevS.out _).mono ?_; rintro e16 w16 ⟨rfl, rfl⟩
  go_wp2_with fail
  refine (SPrevS.out _).mono ?_; rintro e17 w17 ⟨rfl, rfl⟩
  go_wp2_with fail
  refine (UlpS.out _ (hT.of (by repeat (first | with_reducible exact Within.refl _ | with_reducible assumption | with_reducible refine Within.alloc ?_ _ | with_reducible refine Within.drew ?_ | with_reducible refine Within.setCell ?_ (by first | (simp; done) | (simp; omega)) _ | with_reducible refine Within.trans ?_ (by assumption))))).mono ?_; rintro e18 w18 ⟨rfl, hb18⟩
  have hc18 := hb18.cells; have hf18 := hb18.frozens
  go_wp2_with fail
  refine (RUlpS.out _).mono ?_; rintro e19 w19 ⟨rfl, rfl⟩
  go_wp2_with fail
  refine (SUlpS.out _).mono ?_; rintro e20 w20 ⟨rfl, rfl⟩
  go_wp2_with fail
  refine (awake_true _ (hT.of (by repeat (first | with_reducible exact Within.refl _ | with_reducible assumption | with_reducible refine Within.alloc ?_ _ | with_reducible refine Within.drew ?_ | with_reducible refine Within.setCell ?_ (by first | (simp; done) | (simp; omega)) _ | with_reducible refine Within.trans ?_ (by assumption))))).mono ?_; rintro e21 w21 ⟨rfl, hb21⟩
  go_wp2
  go_ret
  exact ⟨rfl, (by repeat (first | with_reducible exact Within.refl _ | with_reducible assumption | with_reducible refine Within.alloc ?_ _ | with_reducible refine Within.drew ?_ | with_reducible refine Within.setCell ?_ (by first | (simp; done) | (simp; omega)) _ | with_reducible refine Within.trans ?_ (by assumption)))⟩

end Go.Proofs.YthjaponkbodooaaDoor
