/- the document's parts of a number: walks. -/
import Derived.Test.YthjaponkbodooaaDoorBack
namespace Go.Proofs.YthjaponkbodooaaDoor
open Go.RowKit

set_option maxRecDepth 100000 in
set_option maxHeartbeats 600000 in
theorem Rodd_zero (e : Int) (w : World) : Calls Tryd.prog 74 #[.int .u64 0, .int .i64 e] w fun e' w' => e' = .returned (.tuple #[.int .u64 0, .int .i64 0]) ∧ w = w' := by
  go_enter Tryd.func74, Tryd.ntmps74
  go_wp2
  go_ret2
  exact ⟨rfl, rfl⟩

set_option maxRecDepth 100000 in
set_option maxHeartbeats 600000 in
theorem Rodd_any (mant : Nat) (e : Int) (h0 : mant ≠ 0) (hm : mant < 18446744073709551616) (hlo : -1099511627776 ≤ e) (hhi : e ≤ 1099511627776) (w : World) : Calls Tryd.prog 74 #[.int .u64 mant, .int .i64 e] w fun e' w' => e' = .returned (.tuple #[.int .u64 (oddM mant), .int .i64 (oddE mant e)]) ∧ w = w' := by
  have m0 : ((mant : Int) == 0) = false := by rw [beq_eq_false_iff_ne]; omega
  obtain ⟨m, ho, hs, hcz⟩ := odd_split h0 hm
  have hE : oddE mant e = e + (Lib.ctz 64 mant : Nat) := rfl
  generalize Lib.ctz 64 mant = cz at *
  generalize oddM mant = M at *
  generalize oddE mant e = E at *
  have HV := Lib.hid (mant_down hcz hs ho)
  have HB := Lib.hid (And.intro (And.intro hlo hhi) (And.intro hcz hE))
  have HML := Lib.hid hm
  clear hcz hs ho hE hlo hhi hm h0
  go_enter Tryd.func74, Tryd.ntmps74
  go_wp2
  go_loopw [0, 1] (fun t u wr => ∃ i : Nat, i ≤ cz ∧ t = .int .u64 (mant / 2 ^ i : Nat) ∧ u = .int .i64 (e + i) ∧ w = wr) (fun _ u _ => cz - (intOf u - e).toNat)
  case atStart => exact ⟨0, Nat.zero_le _, by rw [Nat.pow_zero, Nat.div_one], by rw [show e + ((0 : Nat) : Int) = e by omega], rfl⟩
  case round =>
    obtain ⟨i, hi, rfl, rfl, rfl⟩ := hrel
    have V := HV.out i hi
    have HI := Lib.hid hi
    by_cases hic : i = cz
    · have hp : (((mant / 2 ^ i : Nat) : Int) % 2 == 0) = false := by rw [beq_eq_false_iff_ne]; have := V.2.1 hic; omega
      have hM : mant / 2 ^ i = M := (V.2.1 hic).1
      have hE : e + (i : Int) = E := by have := HB.out.2.2; omega
      rw [hM] at hp ⊢; rw [hE]
      clear V hi hic hM hE
      go_wp2
      go_ret2
      exact ⟨rfl, rfl⟩
    · have hp : (((mant / 2 ^ i : Nat) : Int) % 2 == 0) = true := by rw [beq_iff_eq]; have := V.2.2 (by omega); omega
      have hn := (V.2.2 (by omega)).2
      have hvl : mant / 2 ^ i < 18446744073709551616 := Nat.lt_of_le_of_lt (Nat.div_le_self _ _) HML.out
      have g : IntKind.i64.wrap (e + (i : Int) + 1) = e + ((i + 1 : Nat) : Int) := by have := HB.out.1; have := HB.out.2.1; rw [IntKind.wrap_i64]; omega
      have HN := Lib.hid hic
      have hd : ((mant / 2 ^ i : Nat) : Int) / 2 = ((mant / 2 ^ (i + 1) : Nat) : Int) := by rw [← hn]; omega
      obtain ⟨v, hv⟩ : ∃ v, mant / 2 ^ i = v := ⟨_, rfl⟩
      rw [hv] at hp hd hvl ⊢
      obtain ⟨v', hv'⟩ : ∃ v', mant / 2 ^ (i + 1) = v' := ⟨_, rfl⟩
      rw [hv'] at hd
      have gw : IntKind.u64.wrap (v' : Int) = v' := by rw [IntKind.wrap_u64]; omega
      have HVL := Lib.hid hv'
      clear V hi hic hn hv hv' hvl
      go_wp2
      go_roundw
      case rel => exact ⟨i + 1, by have := HI.out; have := HN.out; omega, by rw [HVL.out], v_int (by omega), by first | trivial | rfl⟩
      case measure => have := HI.out; have := HN.out; simp [intOf]; omega

theorem down_len {x L : Nat} (h1 : 2 ^ (L - 1) ≤ x) (h2 : x < 2 ^ L) (h3 : 1 ≤ L) : ∀ i, i ≤ L → (i = L → x / 2 ^ i = 0) ∧ (i < L → 0 < x / 2 ^ i) ∧ x / 2 ^ i / 2 = x / 2 ^ (i + 1) := by
  intro i hi
  refine ⟨fun h => by subst h; exact Nat.div_eq_of_lt h2, fun h => ?_, by rw [Nat.div_div_eq_div_mul, Nat.pow_succ]⟩
  have : 2 ^ i ≤ x := Nat.le_trans (Nat.pow_le_pow_right (by decide) (by omega)) h1
  exact Nat.div_pos this (Nat.two_pow_pos i)

set_option maxRecDepth 100000 in
set_option maxHeartbeats 600000 in
theorem Rsize_zero (w : World) : Calls Tryd.prog 114 #[.int .u64 0] w fun e w' => e = .returned (.int .i64 0) ∧ w = w' := by
  go_enter Tryd.func114, Tryd.ntmps114
  go_wp2
  refine wp_loop_rounds 1 ?_
  rw [rounds_succ]
  go_wp2
  go_ret
  exact ⟨rfl, rfl⟩

set_option maxRecDepth 100000 in
set_option maxHeartbeats 600000 in
theorem Rsize_any (x : Nat) (h0 : x ≠ 0) (hm : x < 18446744073709551616) (w : World) : Calls Tryd.prog 114 #[.int .u64 x] w fun e w' => e = .returned (.int .i64 (Lib.bitLen x : Nat)) ∧ w = w' := by
  have hb := len_bounds h0 hm
  have hl : Lib.bitLen x ≤ 64 := by rw [bitLen_log2 x h0 hm]; have := (Nat.log2_lt h0 (k := 64)).2 hm; omega
  generalize Lib.bitLen x = L at *
  have HV := Lib.hid (down_len hb.1 hb.2.1 hb.2.2)
  have HL := Lib.hid hl
  have HML := Lib.hid hm
  clear hb hl hm h0
  go_enter Tryd.func114, Tryd.ntmps114
  go_wp2
  go_loopw [0, 3] (fun t u wr => ∃ i : Nat, i ≤ L ∧ t = .int .u64 (x / 2 ^ i : Nat) ∧ u = .int .i64 i ∧ w = wr) (fun _ u _ => L - (intOf u).toNat)
  case atStart => exact ⟨0, Nat.zero_le _, by rw [Nat.pow_zero, Nat.div_one], rfl, rfl⟩
  case round =>
    obtain ⟨i, hi, rfl, rfl, rfl⟩ := hrel
    have V := HV.out i hi
    have HI := Lib.hid hi
    by_cases hic : i = L
    · subst hic
      rw [V.1 rfl]
      clear V hi
      go_wp2
      go_ret
      exact ⟨rfl, rfl⟩
    · have hvl : x / 2 ^ i < 18446744073709551616 := Nat.lt_of_le_of_lt (Nat.div_le_self _ _) HML.out
      have hp := V.2.1 (by omega)
      have gi : IntKind.i64.wrap ((i : Int) + 1) = ((i + 1 : Nat) : Int) := by have := HL.out; rw [IntKind.wrap_i64]; omega
      have HN := Lib.hid hic
      have hd : ((x / 2 ^ i : Nat) : Int) / 2 = ((x / 2 ^ (i + 1) : Nat) : Int) := by rw [← V.2.2]; omega
      obtain ⟨v, hv⟩ : ∃ v, x / 2 ^ i = v := ⟨_, rfl⟩
      rw [hv] at hp hd hvl ⊢
      obtain ⟨v', hv'⟩ : ∃ v', x / 2 ^ (i + 1) = v' := ⟨_, rfl⟩
      rw [hv'] at hd
      have gw : IntKind.u64.wrap (v' : Int) = v' := by rw [IntKind.wrap_u64]; omega
      have d1 : True → decide ((v : Int) > 0) = true := fun _ => decide_eq_true (by omega)
      have HVL := Lib.hid hv'
      clear V hi hic hv hv' hvl
      go_wp2
      go_roundw
      case rel => exact ⟨i + 1, by have := HI.out; have := HN.out; omega, by rw [HVL.out], v_int (by omega), by first | trivial | rfl⟩
      case measure => have := HI.out; have := HN.out; simp [intOf]; omega

set_option maxRecDepth 100000 in
set_option maxHeartbeats 600000 in
theorem Rparts_nan (a fr : Nat) (ng : Bool) (w : World) (SP : Hid (∀ w, Calls Tryd.prog 36 #[.float .f64 a] w fun e w' => e = .returned (.tuple #[.bool ng, .int .i64 2047, .int .u64 fr]) ∧ w = w')) : Calls Tryd.prog 14 #[.float .f64 a] w fun e w' => e = .returned (.tuple #[.agg #[.bool false, .int .u64 0, .int .i64 0], .int .i64 4]) ∧ Within w w' := by
  go_enter Tryd.func14, Tryd.ntmps14
  go_wp2_with fail
  refine (SP.out _).mono ?_; rintro e1 w1 ⟨rfl, rfl⟩
  go_wp2
  refine bodyPost_ret (v := .tuple #[.agg #[.bool false, .int .u64 0, .int .i64 0], .int .i64 4]) (by simp [results, Tryd.results14, go_sem]) rfl ⟨rfl, ?_⟩
  exact (by repeat (first | with_reducible exact Within.refl _ | with_reducible assumption | with_reducible refine Within.alloc ?_ _ | with_reducible refine Within.drew ?_ | with_reducible refine Within.setCell ?_ (by first | (simp; done) | (simp; omega)) _ | with_reducible refine Within.trans ?_ (by assumption)))

set_option maxRecDepth 100000 in
set_option maxHeartbeats 600000 in
theorem Rparts_low (a fr M : Nat) (E : Int) (ng : Bool) (w : World) (SP : Hid (∀ w, Calls Tryd.prog 36 #[.float .f64 a] w fun e w' => e = .returned (.tuple #[.bool ng, .int .i64 0, .int .u64 fr]) ∧ w = w')) (OD : Hid (∀ w, Calls Tryd.prog 74 #[.int .u64 fr, .int .i64 (-1074)] w fun e w' => e = .returned (.tuple #[.int .u64 M, .int .i64 E]) ∧ w = w')) : Calls Tryd.prog 14 #[.float .f64 a] w fun e w' => e = .returned (.tuple #[.agg #[.bool ng, .int .u64 M, .int .i64 E], .int .i64 0]) ∧ Within w w' := by
  go_enter Tryd.func14, Tryd.ntmps14
  go_wp2_with fail
  refine (SP.out _).mono ?_; rintro e1 w1 ⟨rfl, rfl⟩
  go_wp2_with fail
  refine (OD.out _).mono ?_; rintro e2 w2 ⟨rfl, rfl⟩
  go_wp2
  refine bodyPost_ret (v := .tuple #[.agg #[.bool ng, .int .u64 M, .int .i64 E], .int .i64 0]) (by simp [results, Tryd.results14, go_sem]) rfl ⟨rfl, ?_⟩
  exact (by repeat (first | with_reducible exact Within.refl _ | with_reducible assumption | with_reducible refine Within.alloc ?_ _ | with_reducible refine Within.drew ?_ | with_reducible refine Within.setCell ?_ (by first | (simp; done) | (simp; omega)) _ | with_reducible refine Within.trans ?_ (by assumption)))

set_option maxRecDepth 100000 in
set_option maxHeartbeats 600000 in
theorem Rparts_norm (a fr M q g : Nat) (E e0 : Int) (ng : Bool) (w : World) (hq : 0 < q) (hq2 : q < 2047) (g1 : IntKind.u64.wrap ((fr : Int) + 4503599627370496) = (g : Int)) (g3 : IntKind.i64.wrap (((q - 1 : Nat) : Int) - 1074) = e0) (SP : Hid (∀ w, Calls Tryd.prog 36 #[.float .f64 a] w fun e w' => e = .returned (.tuple #[.bool ng, .int .i64 (q : Nat), .int .u64 fr]) ∧ w = w')) (OD : Hid (∀ w, Calls Tryd.prog 74 #[.int .u64 g, .int .i64 (e0)] w fun e w' => e = .returned (.tuple #[.int .u64 M, .int .i64 E]) ∧ w = w')) : Calls Tryd.prog 14 #[.float .f64 a] w fun e w' => e = .returned (.tuple #[.agg #[.bool ng, .int .u64 M, .int .i64 E], .int .i64 0]) ∧ Within w w' := by
  have n1 : ((q : Int) == 2047) = false := by rw [beq_eq_false_iff_ne]; omega
  have d1 : decide ((q : Int) > 0) = true := decide_eq_true (by omega)
  have t1 : 0 < q := hq
  have g2 : IntKind.i64.wrap ((q : Int) - 1) = ((q - 1 : Nat) : Int) := by rw [IntKind.wrap_i64]; omega
  generalize q - 1 = q1 at *
  clear hq hq2
  go_enter Tryd.func14, Tryd.ntmps14
  go_wp2_with fail
  refine (SP.out _).mono ?_; rintro e1 w1 ⟨rfl, rfl⟩
  go_wp2_with fail
  refine (OD.out _).mono ?_; rintro e2 w2 ⟨rfl, rfl⟩
  go_wp2
  refine bodyPost_ret (v := .tuple #[.agg #[.bool ng, .int .u64 M, .int .i64 E], .int .i64 0]) (by simp [results, Tryd.results14, go_sem]) rfl ⟨rfl, ?_⟩
  exact (by repeat (first | with_reducible exact Within.refl _ | with_reducible assumption | with_reducible refine Within.alloc ?_ _ | with_reducible refine Within.drew ?_ | with_reducible refine Within.setCell ?_ (by first | (simp; done) | (simp; omega)) _ | with_reducible refine Within.trans ?_ (by assumption)))

theorem Rparts_D (a : Nat) (ha : a < 18446744073709551616) (w : World) : Calls Tryd.prog 14 #[.float .f64 a] w fun e w' => e = .returned (.tuple #[.agg #[.bool (pNegD a), .int .u64 (pMantD a), .int .i64 (pExpD a)], .int .i64 (pErrD a)]) ∧ Within w w' := by
  have SP := Lib.hid (fun w => Rsplit_D a ha w)
  have hq : expD a < 2048 := Nat.mod_lt _ (by decide)
  have hfr : fracD a < 4503599627370496 := Nat.mod_lt _ (by decide)
  by_cases h7 : expD a = 2047
  · have np := nan_parts (a := a) (by unfold pErrD; rw [if_pos h7]; decide)
    rw [np.1, np.2.1, np.2.2.1, np.2.2.2]; rw [h7] at SP; exact Rparts_nan a _ _ w SP
  have pe : pErrD a = 0 := by unfold pErrD; rw [if_neg h7]
  rw [fin_neg pe, pe]
  by_cases h0 : expD a = 0
  · have hM : mantD a = fracD a := if_pos h0
    have hl : lowD a = -1074 := by unfold lowD; rw [if_pos h0]; rfl
    rw [h0] at SP
    by_cases hf : fracD a = 0
    · have p1 : pMantD a = 0 := by unfold pMantD; rw [if_neg h7, hM, hf]; exact Nat.zero_div _
      have p2 : pExpD a = 0 := if_pos (.inr (by rw [hM, hf]))
      rw [p1, p2]; rw [hf] at SP
      exact Rparts_low a 0 0 0 _ w SP (fun w => Rodd_zero (-1074) w)
    · have p1 : pMantD a = oddM (fracD a) := by unfold pMantD oddM; rw [if_neg h7, hM]
      have p2 : pExpD a = oddE (fracD a) (-1074) := by unfold pExpD oddE; rw [if_neg (by omega), hM, hl]
      rw [p1, p2]
      exact Rparts_low a _ _ _ _ w SP (fun w => Rodd_any (fracD a) (-1074) hf (by omega) (by decide) (by decide) w)
  · have hM : mantD a = fracD a + 4503599627370496 := if_neg h0
    have hl : lowD a = (expD a : Int) - 1075 := by unfold lowD; rw [if_neg h0]
    have p1 : pMantD a = oddM (fracD a + 4503599627370496) := by unfold pMantD oddM; rw [if_neg h7, hM]
    have p2 : pExpD a = oddE (fracD a + 4503599627370496) ((expD a : Int) - 1075) := by unfold pExpD oddE; rw [if_neg (by omega), hM, hl]
    rw [p1, p2]
    exact Rparts_norm a _ _ (expD a) (fracD a + 4503599627370496) _ ((expD a : Int) - 1075) _ w (by omega) (by omega) (by rw [IntKind.wrap_u64]; omega) (by rw [IntKind.wrap_i64]; omega) SP (fun w => Rodd_any (fracD a + 4503599627370496) ((expD a : Int) - 1075) (by omega) (by omega) (by omega) (by omega) w)

set_option maxRecDepth 100000 in
set_option maxHeartbeats 600000 in
theorem lparts_any (n m : Bool) (a b : Nat) (e f : Int) (w : World) : Calls Tryd.prog 15 #[.agg #[.bool n, .int .u64 a, .int .i64 e], .agg #[.bool m, .int .u64 b, .int .i64 f]] w fun e' w' => e' = .returned (.bool ((n == m) && ((a : Int) == b) && (e == f))) ∧ Within w w' := by
  generalize h1 : (n == m) = x
  generalize h2 : ((a : Int) == b) = y
  generalize h3 : (e == f) = z
  cases x
  · go_enter Tryd.func15, Tryd.ntmps15
    go_wp2
    go_ret
    exact ⟨ret_bool (by simp), (by repeat (first | with_reducible exact Within.refl _ | with_reducible assumption | with_reducible refine Within.alloc ?_ _ | with_reducible refine Within.drew ?_ | with_reducible refine Within.setCell ?_ (by first | (simp; done) | (simp; omega)) _ | with_reducible refine Within.trans ?_ (by assumption)))⟩
  cases y
  · go_enter Tryd.func15, Tryd.ntmps15
    go_wp2
    go_ret
    exact ⟨ret_bool (by simp), (by repeat (first | with_reducible exact Within.refl _ | with_reducible assumption | with_reducible refine Within.alloc ?_ _ | with_reducible refine Within.drew ?_ | with_reducible refine Within.setCell ?_ (by first | (simp; done) | (simp; omega)) _ | with_reducible refine Within.trans ?_ (by assumption)))⟩
  · go_enter Tryd.func15, Tryd.ntmps15
    go_wp2
    go_ret
    exact ⟨ret_bool (by simp), (by repeat (first | with_reducible exact Within.refl _ | with_reducible assumption | with_reducible refine Within.alloc ?_ _ | with_reducible refine Within.drew ?_ | with_reducible refine Within.setCell ?_ (by first | (simp; done) | (simp; omega)) _ | with_reducible refine Within.trans ?_ (by assumption)))⟩

end Go.Proofs.YthjaponkbodooaaDoor
