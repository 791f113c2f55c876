/- Package convert: numbers taken apart, Narrow: walks. -/
import Derived.Test.YtmpcnhiklpahnaaDoorCv5S
import Derived.Test.YtmpcnhiklpahnaaDoorCan
namespace Go.Proofs.YtmpcnhiklpahnaaDoor
open Go.RowKit

/-- the format of singles lies where the program's text lays it -/
def FmS (w : World) : Prop := w.cell? ⟨1, 0, none⟩ = some (.int .i64 24) ∧ w.cell? ⟨1, 1, none⟩ = some (.int .i64 (-126)) ∧ w.cell? ⟨1, 2, none⟩ = some (.int .i64 127)
theorem FmS.of {w w' : World} (h : FmS w) (k : Within w w') : FmS w' :=
  ⟨(k.cells _ _ (World.block_lt_of_cell? w _ h.1)).trans h.1, (k.cells _ _ (World.block_lt_of_cell? w _ h.2.1)).trans h.2.1, (k.cells _ _ (World.block_lt_of_cell? w _ h.2.2)).trans h.2.2⟩

/-- a whole number, read as one -/
theorem int_of_is {a N : Nat} {s : Bool} (h : Fp.Is Ieee.double a s (N * 2 ^ Fp.deep Ieee.double)) : (Ieee.double.read a).toInt .zero = some (Fp.val s N) := by
  obtain ⟨m, e, r1, l1, u1⟩ := h.read
  rw [r1]
  rw [Fp.dL] at l1 u1
  unfold Ieee.Datum.toInt Ieee.Datum.integral
  show some (Ieee.signed s (Ieee.Toward.zero.cut s (m <<< e.toNat) (-e).toNat) 0) = _
  have key : Ieee.Toward.zero.cut s (m <<< e.toNat) (-e).toNat = N := by
    unfold Ieee.Toward.cut
    show (m <<< e.toNat) / (1 <<< min (-e).toNat ((m <<< e.toNat).log2 + 2)) + 0 = N
    rw [Nat.shiftLeft_eq, Nat.shiftLeft_eq, Nat.one_mul, Nat.add_zero]
    obtain ⟨J, hJ⟩ : ∃ J, J = Fp.deep Ieee.double := ⟨_, rfl⟩
    have hJ' : J = 1074 := by rw [hJ, Fp.dD]
    rw [← hJ] at u1
    by_cases he : 0 ≤ e
    · rw [show (-e).toNat = 0 by omega, Nat.zero_min, Nat.pow_zero, Nat.div_one]
      rw [show (e - -1074).toNat = e.toNat + J by omega, Nat.pow_add, ← Nat.mul_assoc] at u1
      exact Nat.eq_of_mul_eq_mul_right (Nat.two_pow_pos J) u1
    · rw [show e.toNat = 0 by omega, Nat.pow_zero, Nat.mul_one]
      have hm : m = N * 2 ^ (-e).toNat := by
        rw [show J = (-e).toNat + (e - -1074).toNat by omega, Nat.pow_add, ← Nat.mul_assoc] at u1
        exact Nat.eq_of_mul_eq_mul_right (Nat.two_pow_pos _) u1
      by_cases hN : N = 0
      · rw [hm, hN, Nat.zero_mul, Nat.zero_div]
      · rw [hm, Fp.log2_mul_pow N _ hN, Nat.min_eq_left (by omega), Nat.mul_div_cancel _ (Nat.two_pow_pos _)]
  rw [key]
  unfold Ieee.signed Fp.val
  rw [Nat.shiftLeft_zero]
theorem u64_of_is {a N : Nat} (h : Fp.Is Ieee.double a false (N * 2 ^ Fp.deep Ieee.double)) (hN : N < 18446744073709551616) : floatToIntVal .f64 a .u64 = some (N : Int) := by
  unfold floatToIntVal
  show (match (Ieee.double.read a).toInt .zero with | some n => if IntKind.u64.min ≤ n ∧ n ≤ IntKind.u64.max then some n else none | none => none) = _
  rw [int_of_is h]
  show (if (0 : Int) ≤ (N : Int) ∧ (N : Int) ≤ 18446744073709551615 then some ((N : Nat) : Int) else none) = _
  rw [if_pos (by omega)]
theorem top53_bounds {n : Nat} (h0 : n ≠ 0) (hr : Fp.Rep Ieee.double n) : 4503599627370496 ≤ top53 n ∧ top53 n < 9007199254740992 ∧ n.log2 ≤ 2097 ∧ top53 n * 2 ^ n.log2 = n * 2 ^ 52 := by
  have hlt : n.log2 ≤ 2097 := by
    have h1 : n < 2 ^ Fp.dtop := by rw [← Fp.mag_infD, ← hr.2]; exact Fp.mag_mono_lt Ieee.double hr.1
    have := (Nat.log2_lt h0).2 h1
    unfold Fp.dtop at this; omega
  obtain ⟨r1, r2⟩ := rep_lt hr
  by_cases hh : 4503599627370496 ≤ Fp.num Ieee.double false n
  · obtain ⟨t1, t2, _⟩ := high_top hh r2
    have e := rung_high hh
    rw [r2] at e
    refine ⟨by omega, by omega, hlt, ?_⟩
    rw [t1]
    conv => rhs; rw [e]
    rw [Nat.mul_assoc, ← Nat.pow_add]; congr 2; omega
  · rw [mag_low (by omega)] at r2
    obtain ⟨l1, l2, l3, l4⟩ := top53_low h0 (by omega)
    refine ⟨l1, l2, hlt, ?_⟩
    rw [l3, Nat.mul_assoc, ← Nat.pow_add]; congr 2; omega

set_option maxRecDepth 100000 in
set_option maxHeartbeats 600000 in
theorem take_core (a r y z T : Nat) (b : Bool) (F E : Int) (hE : E = F - 53) (hF1 : -3000 ≤ F) (hF2 : F ≤ 3000) (HA : Hid (∀ w, Calls Tryd.prog 69 #[.float .f64 a] w fun e w' => e = .returned (.float .f64 r) ∧ w = w')) (HF : Hid (∀ w, Calls Tryd.prog 68 #[.float .f64 r] w fun e w' => e = .returned (.tuple #[.float .f64 y, .int .i64 F]) ∧ w = w')) (HS : Hid (∀ w, Calls Tryd.prog 70 #[.float .f64 a] w fun e w' => e = .returned (.bool b) ∧ w = w')) (HL : Hid (∀ w, Calls Tryd.prog 71 #[.float .f64 y, .int .i64 53] w fun e w' => e = .returned (.float .f64 z) ∧ w = w')) (hcv : floatToIntVal .f64 z .u64 = some (T : Int)) (w : World) : Calls Tryd.prog 57 #[.float .f64 a] w fun e w' => e = .returned (.agg #[.bool b, .int .u64 T, .int .i64 E]) ∧ Within w w' := by
  have hcv' := fun (w : World) => run_convert_float_int (P := Tryd.prog) w 75 45 .f64 .u64 z (T : Int) (by kernel_rfl) (by kernel_rfl) hcv
  subst hE
  clear hcv
  go_enter Tryd.func57, Tryd.ntmps57
  go_wp2_with fail
  refine (HA.out _).mono ?_; rintro e1 w1 ⟨rfl, rfl⟩
  go_wp2_with fail
  refine (HF.out _).mono ?_; rintro e2 w2 ⟨rfl, rfl⟩
  go_wp2_with fail
  refine (HS.out _).mono ?_; rintro e3 w3 ⟨rfl, rfl⟩
  go_wp2_with fail
  refine (HL.out _).mono ?_; rintro e4 w4 ⟨rfl, rfl⟩
  go_wp2
  refine bodyPost_ret (v := .agg #[.bool b, .int .u64 T, .int .i64 (F - 53)]) (by simp [results, Tryd.results57, go_sem]) rfl ⟨rfl, ?_⟩
  exact (by repeat (first | with_reducible exact Within.refl _ | with_reducible assumption | with_reducible refine Within.alloc ?_ _ | with_reducible refine Within.drew ?_ | with_reducible refine Within.setCell ?_ (by first | (simp; done) | (simp; omega)) _ | with_reducible refine Within.trans ?_ (by assumption)))

theorem take_any (a n : Nat) (ha : a < 18446744073709551616) (h0 : n ≠ 0) (hf : a % 9223372036854775808 < 9218868437227405312) (hm : Fp.mag Ieee.double (a % 9223372036854775808) = n) (w : World) : Calls Tryd.prog 57 #[.float .f64 a] w fun e w' => e = .returned (.agg #[.bool (decide (9223372036854775808 ≤ a)), .int .u64 (top53 n), .int .i64 ((n.log2 : Int) - 1126)]) ∧ Within w w' := by
  have hr0 : 0 < a % 9223372036854775808 := by
    by_cases hz : a % 9223372036854775808 = 0
    · rw [hz, Fp.mag_zero] at hm; omega
    · omega
  have hrep : Fp.Rep Ieee.double n := hm ▸ Fp.rep_mag Ieee.double Fp.dF (by rw [Fp.dI]; exact hf)
  obtain ⟨b1, b2, b3, _⟩ := top53_bounds h0 hrep
  have HA := Lib.hid (fun w => m_abs a ha w)
  have HS := Lib.hid (fun w => m_signbit a ha w)
  have HF := Lib.hid (fun w => frexp_is (a % 9223372036854775808) n hr0 hf hm w)
  have hy : Fp.mag Ieee.double (4598175219545276416 + top53 n) = top53 n * 2 ^ 1021 := by
    rw [rung_high (by omega)]
    have e1 : (4598175219545276416 + top53 n) % 4503599627370496 = top53 n - 4503599627370496 := by omega
    have e2 : (4598175219545276416 + top53 n) / 4503599627370496 - 1 = 1021 := by omega
    rw [e1, e2, show 4503599627370496 + (top53 n - 4503599627370496) = top53 n by omega]
  have hfi := float_int (q := top53 n) (by omega)
  have HL := Lib.hid (fun w => ldexp_is (4598175219545276416 + top53 n) _ (top53 n * 2 ^ Fp.deep Ieee.double) 53 (by omega) (by omega) hy hfi.2 (Nat.mul_ne_zero (by omega) (Nat.ne_of_gt (Nat.two_pow_pos _)))
    (fun _ => by
      obtain ⟨j, hj⟩ : ∃ j : Nat, j = 1021 := ⟨_, rfl⟩
      rw [← hj, Nat.mul_assoc, ← Nat.pow_add, show j + (53 : Int).toNat = Fp.deep Ieee.double by rw [Fp.dD]; omega]) (fun h => absurd h (by decide)) w)
  exact take_core a _ _ _ (top53 n) _ _ _ (by omega) (by omega) (by omega) HA HF HS HL (u64_of_is (Fp.Rep.is hfi.2 false) (by omega)) w

theorem known_any (mode : Int) (w : World) : Calls Tryd.prog 54 #[.int .i64 mode] w fun e w' => e = .returned (.bool (decide (0 ≤ mode ∧ mode ≤ 4))) ∧ w = w' := by
  by_cases h1 : 0 ≤ mode
  · have d1 : decide (mode ≥ 0) = true := decide_eq_true h1
    have d1' : decide (0 ≤ mode) = true := decide_eq_true h1
    have hr : decide (0 ≤ mode ∧ mode ≤ 4) = decide (mode ≤ 4) := decide_eq_decide.2 (by omega)
    rw [hr]
    clear h1 hr
    go_enter Tryd.func54, Tryd.ntmps54
    go_wp2
    go_ret
    exact ⟨rfl, rfl⟩
  · have d1 : decide (mode ≥ 0) = false := decide_eq_false h1
    have d1' : decide (0 ≤ mode) = false := decide_eq_false h1
    rw [show decide (0 ≤ mode ∧ mode ≤ 4) = false from decide_eq_false (by omega)]
    clear h1
    go_enter Tryd.func54, Tryd.ntmps54
    go_wp2
    go_ret
    exact ⟨rfl, rfl⟩

theorem plain_any (a : Nat) (ha : a < 18446744073709551616) (hn : a % 9223372036854775808 ≤ 9218868437227405312) (w : World) : Calls Tryd.prog 56 #[.float .f64 a] w fun e w' => e = .returned (.bool (decide (a % 9223372036854775808 = 0 ∨ a % 9223372036854775808 = 9218868437227405312))) ∧ w = w' := by
  have HI := Lib.hid (fun w => m_isinf a ha w)
  have hz := eq_zero hn
  by_cases h : a % 9223372036854775808 = 0
  · rw [decide_eq_true h] at hz
    rw [decide_eq_true (.inl h)]
    clear ha hn h
    go_enter Tryd.func56, Tryd.ntmps56
    go_wp2
    go_ret
    exact ⟨rfl, rfl⟩
  · rw [decide_eq_false h] at hz
    rw [show decide (a % 9223372036854775808 = 0 ∨ a % 9223372036854775808 = 9218868437227405312) = decide (a % 9223372036854775808 = 9218868437227405312) from decide_eq_decide.2 (by omega)]
    generalize decide (a % 9223372036854775808 = 9218868437227405312) = p at *
    clear ha hn h
    go_enter Tryd.func56, Tryd.ntmps56
    go_wp2_with fail
    refine (HI.out _).mono ?_; rintro e1 w1 ⟨rfl, rfl⟩
    go_wp2
    go_ret
    exact ⟨rfl, rfl⟩

theorem run_widen_nan (src dst : TypeId) (s k : FloatKind) (b : Nat) (P : Program) (w : World) (hne : s ≠ k) (hs : (P.underlying src).isSome = true) (hd : P.underlying dst = some (.float k)) (g : Bool) (t : Nat) (h : s.decode b = .nan g t) :
    (convert src dst (.float s b)).run P w = .ok (.float k ((Question.nanConv k b).cut (w.tape w.drawn (.nanConv k b)))) w.drew := by
  obtain ⟨u, hs'⟩ := Option.isSome_iff_exists.1 hs
  cases u <;> simp [convert, run_underlying hs', run_underlying hd, Conv.floatToFloat, hne, h, run_choose_drew, Question.forced]
theorem nan_cutS (b t : Nat) : canonS ((Question.nanConv .f32 b).cut t) = 2143289344 ∧ (Question.nanConv .f32 b).cut t < 4294967296 := by
  have e : (Question.nanConv .f32 b).cut t = (t % 2) * 2 ^ 31 + 0x7f800000 + 1 + (t / 2) % (2 ^ 23 - 1) := rfl
  have h1 : t / 2 % (2 ^ 23 - 1) < 8388607 := Nat.mod_lt _ (by decide)
  unfold canonS nanS
  rw [e]
  generalize t / 2 % (2 ^ 23 - 1) = r at *
  rcases Nat.mod_two_eq_zero_or_one t with h | h <;> rw [h] <;> refine ⟨if_pos (decide_eq_true (by omega)), by omega⟩
theorem nan_cutD (b t : Nat) : canonD ((Question.nanConv .f64 b).cut t) = 9221120237041090561 ∧ (Question.nanConv .f64 b).cut t < 18446744073709551616 := by
  have e : (Question.nanConv .f64 b).cut t = (t % 2) * 2 ^ 63 + 0x7ff0000000000000 + 1 + (t / 2) % (2 ^ 52 - 1) := rfl
  have h1 : t / 2 % (2 ^ 52 - 1) < 4503599627370495 := Nat.mod_lt _ (by decide)
  unfold canonD nanD
  rw [e]
  generalize t / 2 % (2 ^ 52 - 1) = r at *
  rcases Nat.mod_two_eq_zero_or_one t with h | h <;> rw [h] <;> refine ⟨if_pos (decide_eq_true (by omega)), by omega⟩

set_option maxRecDepth 100000 in
set_option maxHeartbeats 600000 in
theorem m_nan (w : World) : Calls Tryd.prog 66 #[] w fun e w' => e = .returned (.float .f64 9221120237041090561) ∧ w = w' := by
  go_enter Tryd.func66, Tryd.ntmps66
  go_wp2
  go_ret
  exact ⟨rfl, rfl⟩

set_option maxRecDepth 100000 in
set_option maxHeartbeats 600000 in
theorem none_any (w : World) : Calls Tryd.prog 55 #[] w fun e w' => e = .returned (.float .f32 2143289344) ∧ Within w w' := by
  have hcv := fun (w : World) => run_widen_nan 75 78 .f64 .f32 9221120237041090561 Tryd.prog w (by decide) (by kernel_rfl) (by kernel_rfl) false 2251799813685249 (by decide +kernel)
  have HC := Lib.hid (fun t w => Canon_S ((Question.nanConv .f32 9221120237041090561).cut t) (nan_cutS 9221120237041090561 t).2 w)
  simp only [(nan_cutS _ _).1] at HC
  go_enter Tryd.func55, Tryd.ntmps55
  go_wp2_with fail
  refine (m_nan _).mono ?_; rintro e1 w1 ⟨rfl, rfl⟩
  go_wp2_with fail
  refine (HC.out _ _).mono ?_; rintro e2 w2 ⟨rfl, hb2⟩
  go_wp2
  go_ret
  exact ⟨rfl, (by repeat (first | with_reducible exact Within.refl _ | with_reducible assumption | with_reducible refine Within.alloc ?_ _ | with_reducible refine Within.drew ?_ | with_reducible refine Within.setCell ?_ (by first | (simp; done) | (simp; omega)) _ | with_reducible refine Within.trans ?_ (by assumption)))⟩

end Go.Proofs.YtmpcnhiklpahnaaDoor
