/- ConvertInts: any whole numbers: the reference's answers are the program's; the walk. -/
import Derived.Test.YtifgngmebnjfkaaDoorSc1
import Derived.Test.YtifgngmebnjfkaaDoorRf8
import Derived.Test.YtifgngmebnjfkaaDoorTold
namespace Go.Proofs.YtifgngmebnjfkaaDoor
open Go.RowKit

set_option maxRecDepth 100000 in
set_option maxHeartbeats 600000 in
theorem FromUint_core (u y : Nat) (mode fl er : Int) (FR : Hid (∀ w, Calls Tryd.prog 77 #[.int .u64 u, .bool false, .agg #[.int .i64 53, .int .i64 (-1022), .int .i64 1023], .int .i64 mode] w fun e' w' => e' = .returned (.tuple #[.float .f64 y, .int .i64 fl, .int .i64 er]) ∧ Within w w')) (w : World) (hT : FmD w) : Calls Tryd.prog 40 #[.int .u64 (u : Int), .int .i64 mode] w fun e' w' => e' = .returned (.tuple #[.float .f64 y, .int .i64 fl, .int .i64 er]) ∧ Within w w' := by
  have q0 := hT.1; have q1 := hT.2.1; have q2 := hT.2.2
  go_enter Tryd.func40, Tryd.ntmps40
  go_wp2_with fail
  refine (FR.out _).mono ?_; rintro e1 w1 ⟨rfl, hb1⟩
  go_wp2
  go_ret3
  exact ⟨rfl, (by repeat (first | with_reducible exact Within.refl _ | with_reducible assumption | with_reducible refine Within.alloc ?_ _ | with_reducible refine Within.drew ?_ | with_reducible refine Within.setCell ?_ (by first | (simp; done) | (simp; omega)) _ | with_reducible refine Within.trans ?_ (by assumption)))⟩

theorem FromUint_any (u : Nat) (mode : Int) (hu : u < 18446744073709551616) (w : World) (hT : FmD w) : Calls Tryd.prog 40 #[.int .u64 (u : Int), .int .i64 mode] w fun e' w' => e' = .returned (.tuple #[.float .f64 (fWordD u false mode), .int .i64 (fFlagsD u false mode), .int .i64 (nErr mode)]) ∧ Within w w' :=
  FromUint_core u _ mode _ _ (Lib.hid fun w => from_D u false mode hu w) w hT

set_option maxRecDepth 100000 in
set_option maxHeartbeats 600000 in
theorem NarrowInt_core (n : Int) (m y z : Nat) (b : Bool) (mode fl er : Int) (AM : Hid (∀ w, Calls Tryd.prog 76 #[.int .i64 n] w fun e' w' => e' = .returned (.tuple #[.int .u64 (m : Nat), .bool b]) ∧ w = w')) (FR : Hid (∀ w, Calls Tryd.prog 77 #[.int .u64 m, .bool b, .agg #[.int .i64 24, .int .i64 (-126), .int .i64 127], .int .i64 mode] w fun e' w' => e' = .returned (.tuple #[.float .f64 y, .int .i64 fl, .int .i64 er]) ∧ Within w w')) (hc : floatToFloatBits .f64 y .f32 = some z) (w : World) (hT : FmS w) : Calls Tryd.prog 42 #[.int .i64 n, .int .i64 mode] w fun e' w' => e' = .returned (.tuple #[.float .f32 z, .int .i64 fl, .int .i64 er]) ∧ Within w w' := by
  have hcv := fun (w : World) => run_convert_float_float (P := Tryd.prog) w 40 31 .f64 .f32 y z (by kernel_rfl) (by kernel_rfl) hc
  clear hc
  have q0 := hT.1; have q1 := hT.2.1; have q2 := hT.2.2
  go_enter Tryd.func42, Tryd.ntmps42
  go_wp2_with fail
  refine (AM.out _).mono ?_; rintro e1 w1 ⟨rfl, rfl⟩
  go_wp2_with fail
  refine (FR.out _).mono ?_; rintro e2 w2 ⟨rfl, hb2⟩
  go_wp2
  go_ret3
  exact ⟨rfl, (by repeat (first | with_reducible exact Within.refl _ | with_reducible assumption | with_reducible refine Within.alloc ?_ _ | with_reducible refine Within.drew ?_ | with_reducible refine Within.setCell ?_ (by first | (simp; done) | (simp; omega)) _ | with_reducible refine Within.trans ?_ (by assumption)))⟩

def niW (m : Nat) (b : Bool) (mode : Int) : Nat := if ¬ (0 ≤ mode ∧ mode ≤ 4) then 0 else if m = 0 then 0 else sWord b m 0 mode
theorem NarrowInt_any (n mode : Int) (h1 : -9223372036854775808 ≤ n) (h2 : n ≤ 9223372036854775807) (w : World) (hT : FmS w) : Calls Tryd.prog 42 #[.int .i64 n, .int .i64 mode] w fun e' w' => e' = .returned (.tuple #[.float .f32 (niW n.natAbs (decide (n < 0)) mode), .int .i64 (fFlagsS n.natAbs (decide (n < 0)) mode), .int .i64 (nErr mode)]) ∧ Within w w' := by
  refine NarrowInt_core n n.natAbs (fWordS n.natAbs (decide (n < 0)) mode) _ (decide (n < 0)) mode _ _ (Lib.hid fun w => amount_any n h1 h2 w) (Lib.hid fun w => from_S n.natAbs (decide (n < 0)) mode (by omega) w) ?_ w hT
  unfold fWordS niW
  by_cases hm : 0 ≤ mode ∧ mode ≤ 4
  · have hm' : ¬¬(0 ≤ mode ∧ mode ≤ 4) := fun h => h hm
    rw [if_neg hm', if_neg hm']
    by_cases h0 : n.natAbs = 0
    · rw [if_pos h0, if_pos h0]; decide +kernel
    · rw [if_neg h0, if_neg h0]
      exact sWord_bits _ 0 mode h0 (by omega)
  · rw [if_pos hm, if_pos hm]; decide +kernel

/-- the same word, of singles -/
theorem gWordS_is {ng : Bool} {m M : Nat} {e E mode : Int} (J : Nat) (h1 : 0 ≤ e + J) (h2 : 0 ≤ E + J) (h3 : 149 ≤ J) (hm0 : m ≠ 0) (hm : m < 18446744073709551616) (hv : m * 2 ^ (e + J).toNat = M * 2 ^ (E + J).toNat) :
    gWord 24 (-149) 127 2139095039 2139095040 8388608 2147483648 ng M E false mode = sWord ng m e mode ∧
    gFlags 24 (-149) 127 ng M E false mode = rFlags 24 (-149) 127 ng m e mode := by
  obtain ⟨k1, k2, k3, k4, hM0⟩ := g_is_r (D := 24) (lo := -149) (ng := ng) (mode := mode) J h1 h2 (by omega) hm0 hm hv
  have hq := (rQ_le (D := 24) (lo := -149) ng e mode hm0 hm (by decide)).1
  obtain ⟨f1, f2⟩ := gFlags_is (D := 24) (lo := -149) (most := 127) (ng := ng) (mode := mode) J h1 h2 (by omega) hm0 hm hv (by
    have : rQ 24 (-149) ng m e mode ≤ 2 ^ 24 := hq
    omega)
  refine ⟨?_, f1⟩
  unfold gWord sWord
  rw [f2, topR_is, grid_of_num]
  have hfull := fun h => gQ_full (D := 24) (lo := -149) ng (M := M) (e := E) false mode hM0 (by decide) h
  have hg : Fp.grid Ieee.single (rQ 24 (-149) ng m e mode * 2 ^ (rK 24 (-149) m e + 149).toNat) 0 = (gK 24 (-149) M E - -149).toNat * 8388608 + gQ 24 (-149) ng M E false mode := by
    have := grid_rung Ieee.single 23 (rQ 24 (-149) ng m e mode) (rK 24 (-149) m e + 149).toNat rfl hq (by
      rcases Int.lt_or_le (-149) (gK 24 (-149) M E) with h | h
      · left; have := hfull h; rw [← k2]; exact this
      · right; rw [← k1]; omega)
    rw [this, k2, ← k1, show (gK 24 (-149) M E - -149) = (gK 24 (-149) M E + 149) by omega]
  rw [hg]; rfl

theorem sWord_lt {m : Nat} (b : Bool) (h0 : m ≠ 0) (hm : m < 18446744073709551616) (mode : Int) : sWord b m 0 mode < 4294967296 := by
  have hs : sgnS b ≤ 2147483648 := by unfold sgnS; split <;> omega
  unfold sWord
  split
  · split <;> omega
  · rename_i ho
    have := num_ltS (sAmt_rep b 0 mode h0 hm (by simpa using ho)).1
    omega

theorem fromD_word {m : Nat} {b : Bool} {mode : Int} (h0 : m ≠ 0) (hm : m < 18446744073709551616) :
    gWord 53 (-1074) 1023 9218868437227405311 9218868437227405312 4503599627370496 9223372036854775808 b m 0 false mode = rWord 53 (-1074) 1023 9218868437227405311 b m 0 mode ∧ gFlags 53 (-1074) 1023 b m 0 false mode = rFlags 53 (-1074) 1023 b m 0 mode :=
  gWordD_is (ng := b) (mode := mode) 1100 (by decide) (by decide) (by decide) h0 hm rfl
theorem fromS_word {m : Nat} {b : Bool} {mode : Int} (h0 : m ≠ 0) (hm : m < 18446744073709551616) :
    gWord 24 (-149) 127 2139095039 2139095040 8388608 2147483648 b m 0 false mode = sWord b m 0 mode ∧ gFlags 24 (-149) 127 b m 0 false mode = rFlags 24 (-149) 127 b m 0 mode :=
  gWordS_is (ng := b) (mode := mode) 1100 (by decide) (by decide) (by decide) h0 hm rfl

set_option maxRecDepth 100000 in
set_option maxHeartbeats 600000 in
theorem ints_core (i mode f1 n1 f2 n2 f3 n3 : Int) (u a b c : Nat) (A1 : Hid (∀ w, FmD w → Calls Tryd.prog 32 #[.int .i64 i, .int .i64 mode] w fun e' w' => e' = .returned (.tuple #[.float .f64 a, .int .i64 f1, .int .i64 n1]) ∧ Within w w')) (B1 : Hid (∀ w, Calls Tryd.prog 39 #[.int .i64 i, .int .i64 mode] w fun e' w' => e' = .returned (.tuple #[.int .u64 (a : Int), .int .i64 f1, .int .i64 n1]) ∧ Within w w')) (A2 : Hid (∀ w, FmD w → Calls Tryd.prog 40 #[.int .u64 (u : Int), .int .i64 mode] w fun e' w' => e' = .returned (.tuple #[.float .f64 b, .int .i64 f2, .int .i64 n2]) ∧ Within w w')) (B2 : Hid (∀ w, Calls Tryd.prog 41 #[.int .u64 (u : Int), .int .i64 mode] w fun e' w' => e' = .returned (.tuple #[.int .u64 (b : Int), .int .i64 f2, .int .i64 n2]) ∧ Within w w')) (A3 : Hid (∀ w, FmS w → Calls Tryd.prog 42 #[.int .i64 i, .int .i64 mode] w fun e' w' => e' = .returned (.tuple #[.float .f32 c, .int .i64 f3, .int .i64 n3]) ∧ Within w w')) (B3 : Hid (∀ w, Calls Tryd.prog 43 #[.int .i64 i, .int .i64 mode] w fun e' w' => e' = .returned (.tuple #[.int .u32 (c : Int), .int .i64 f3, .int .i64 n3]) ∧ Within w w')) (w : World) (hT : FmS w) (hD : FmD w) : Calls Tryd.prog 8 #[.int .i64 i, .int .u64 (u : Int), .int .i64 mode] w fun e' w' => e' = .returned (.bool true) ∧ Within w w' := by
  go_enter Tryd.func8, Tryd.ntmps8
  go_wp2_with fail
  refine (A1.out _ (hD.of (by repeat (first | with_reducible exact Within.refl _ | with_reducible assumption | with_reducible refine Within.alloc ?_ _ | with_reducible refine Within.drew ?_ | with_reducible refine Within.setCell ?_ (by first | (simp; done) | (simp; omega)) _ | with_reducible refine Within.trans ?_ (by assumption))))).mono ?_; rintro e1 w1 ⟨rfl, hb1⟩
  go_wp2_with fail
  refine (B1.out _).mono ?_; rintro e2 w2 ⟨rfl, hb2⟩
  go_wp2_with fail
  refine (told64_yes a f1 n1 _).mono ?_; rintro e3 w3 ⟨rfl, rfl⟩
  go_wp2_with fail
  refine (A2.out _ (hD.of (by repeat (first | with_reducible exact Within.refl _ | with_reducible assumption | with_reducible refine Within.alloc ?_ _ | with_reducible refine Within.drew ?_ | with_reducible refine Within.setCell ?_ (by first | (simp; done) | (simp; omega)) _ | with_reducible refine Within.trans ?_ (by assumption))))).mono ?_; rintro e4 w4 ⟨rfl, hb4⟩
  go_wp2_with fail
  refine (B2.out _).mono ?_; rintro e5 w5 ⟨rfl, hb5⟩
  go_wp2_with fail
  refine (told64_yes b f2 n2 _).mono ?_; rintro e6 w6 ⟨rfl, rfl⟩
  go_wp2_with fail
  refine (A3.out _ (hT.of (by repeat (first | with_reducible exact Within.refl _ | with_reducible assumption | with_reducible refine Within.alloc ?_ _ | with_reducible refine Within.drew ?_ | with_reducible refine Within.setCell ?_ (by first | (simp; done) | (simp; omega)) _ | with_reducible refine Within.trans ?_ (by assumption))))).mono ?_; rintro e7 w7 ⟨rfl, hb7⟩
  go_wp2_with fail
  refine (B3.out _).mono ?_; rintro e8 w8 ⟨rfl, hb8⟩
  go_wp2_with fail
  refine (told_yes c f3 n3 _).mono ?_; rintro e9 w9 ⟨rfl, rfl⟩
  go_wp2_with fail
  refine (awake_true _ (hT.of (by repeat (first | with_reducible exact Within.refl _ | with_reducible assumption | with_reducible refine Within.alloc ?_ _ | with_reducible refine Within.drew ?_ | with_reducible refine Within.setCell ?_ (by first | (simp; done) | (simp; omega)) _ | with_reducible refine Within.trans ?_ (by assumption))))).mono ?_; rintro e10 w10 ⟨rfl, hb10⟩
  go_wp2
  go_ret
  exact ⟨rfl, (by repeat (first | with_reducible exact Within.refl _ | with_reducible assumption | with_reducible refine Within.alloc ?_ _ | with_reducible refine Within.drew ?_ | with_reducible refine Within.setCell ?_ (by first | (simp; done) | (simp; omega)) _ | with_reducible refine Within.trans ?_ (by assumption)))⟩

theorem ints_walk (i : Int) (u : Nat) (mode : Int) (hi1 : -9223372036854775808 ≤ i) (hi2 : i < 9223372036854775808) (hu : u < 18446744073709551616) (_ : -9223372036854775808 ≤ mode) (_ : mode < 9223372036854775808) (w : World) (hT : FmS w) (hD : FmD w) : Calls Tryd.prog 8 #[.int .i64 i, .int .u64 (u : Int), .int .i64 mode] w fun e' w' => e' = .returned (.bool true) ∧ Within w w' := by
  have hsm : ∀ v : Int, v.natAbs < 18446744073709551616 → (dg v.natAbs).length ≤ 900 := fun v h => Nat.le_trans (dg_small (k := 2) h) (by decide)
  refine ints_core i mode _ _ _ _ _ _ u _ _ _ (Lib.hid fun w h => FromInt_any i mode hi1 (by omega) w h) (Lib.hid fun w => ?_) (Lib.hid fun w h => FromUint_any u mode hu w h) (Lib.hid fun w => ?_) (Lib.hid fun w h => NarrowInt_any i mode hi1 (by omega) w h) (Lib.hid fun w => ?_) w hT hD
  · refine RFromInt i mode _ _ _ hi1 (by omega) (Lib.hid fun w g hI => ?_) w
    refine (RfromD g i mode (hsm i (by omega)) w hI).mono fun e w' h => ⟨h.1.trans ?_, h.2⟩
    unfold fWordD fFlagsD nErr
    by_cases hm : 0 ≤ mode ∧ mode ≤ 4
    · have hm' : ¬¬(0 ≤ mode ∧ mode ≤ 4) := fun h => h hm
      rw [if_pos hm, if_pos hm, if_pos hm, if_neg hm', if_neg hm']
      by_cases h0 : i = 0
      · have h0' : i.natAbs = 0 := by omega
        rw [if_pos h0, if_pos h0, if_pos h0', if_pos h0']
      · have h0' : i.natAbs ≠ 0 := by omega
        obtain ⟨x1, x2⟩ := fromD_word (b := decide (i < 0)) (mode := mode) h0' (by omega)
        rw [if_neg h0, if_neg h0, if_neg h0', if_neg h0', x1, x2]
    · rw [if_neg hm, if_neg hm, if_neg hm, if_pos hm, if_pos hm]
  · refine RFromUint u _ u mode _ _ hu rfl (Lib.hid fun w g hI => ?_) w
    refine (RfromD g u mode (hsm u (by omega)) w hI).mono fun e w' h => ⟨h.1.trans ?_, h.2⟩
    unfold fWordD fFlagsD nErr
    have hd : decide ((u : Int) < 0) = false := decide_eq_false (by omega)
    rw [Int.natAbs_natCast, hd]
    by_cases hm : 0 ≤ mode ∧ mode ≤ 4
    · have hm' : ¬¬(0 ≤ mode ∧ mode ≤ 4) := fun h => h hm
      rw [if_pos hm, if_pos hm, if_pos hm, if_neg hm', if_neg hm']
      by_cases h0 : (u : Int) = 0
      · have h0' : u = 0 := by omega
        rw [if_pos h0, if_pos h0, if_pos h0', if_pos h0']
      · have h0' : u ≠ 0 := by omega
        obtain ⟨x1, x2⟩ := fromD_word (b := false) (mode := mode) h0' hu
        rw [if_neg h0, if_neg h0, if_neg h0', if_neg h0', x1, x2]
    · rw [if_neg hm, if_neg hm, if_neg hm, if_pos hm, if_pos hm]
  · have key : ∀ w g, IntB w g i → Calls Tryd.prog 82 #[fmS, .pointer (some ⟨g, 0, none⟩), .int .i64 mode] w fun e w' => e = .returned (.tuple #[.int .u64 (niW i.natAbs (decide (i < 0)) mode : Int), .int .i64 (fFlagsS i.natAbs (decide (i < 0)) mode), .int .i64 (nErr mode)]) ∧ Within w w' := by
      intro w g hI
      refine (RfromS g i mode (hsm i (by omega)) w hI).mono fun e w' h => ⟨h.1.trans ?_, h.2⟩
      unfold niW fFlagsS nErr
      by_cases hm : 0 ≤ mode ∧ mode ≤ 4
      · have hm' : ¬¬(0 ≤ mode ∧ mode ≤ 4) := fun h => h hm
        rw [if_pos hm, if_pos hm, if_pos hm, if_neg hm', if_neg hm']
        by_cases h0 : i = 0
        · have h0' : i.natAbs = 0 := by omega
          rw [if_pos h0, if_pos h0, if_pos h0', if_pos h0']
        · have h0' : i.natAbs ≠ 0 := by omega
          obtain ⟨x1, x2⟩ := fromS_word (b := decide (i < 0)) (mode := mode) h0' (by omega)
          rw [if_neg h0, if_neg h0, if_neg h0', if_neg h0', x1, x2]
      · rw [if_neg hm, if_neg hm, if_neg hm, if_pos hm, if_pos hm]
    refine (RNarrowInt i mode _ _ (niW i.natAbs (decide (i < 0)) mode) hi1 (by omega) (Lib.hid key) w).mono fun e w' h => ⟨h.1.trans ?_, h.2⟩
    have hlt : niW i.natAbs (decide (i < 0)) mode < 4294967296 := by
      unfold niW
      split
      · decide
      · split
        · decide
        · exact sWord_lt _ (by assumption) (by omega) mode
    rw [show ((niW i.natAbs (decide (i < 0)) mode : Nat) : Int) % 4294967296 = (niW i.natAbs (decide (i < 0)) mode : Nat) by omega]

end Go.Proofs.YtifgngmebnjfkaaDoor
