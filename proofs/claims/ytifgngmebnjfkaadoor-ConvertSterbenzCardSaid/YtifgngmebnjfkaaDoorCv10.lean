/- Package convert: of whole numbers, Scale: walks. -/
import Derived.Test.YtifgngmebnjfkaaDoorCv8
import Derived.Test.YtifgngmebnjfkaaDoorCv5D
namespace Go.Proofs.YtifgngmebnjfkaaDoor
open Go.RowKit

/-- the format of doubles lies where the program's text lays it -/
def FmD (w : World) : Prop := w.cell? ⟨2, 0, none⟩ = some (.int .i64 53) ∧ w.cell? ⟨2, 1, none⟩ = some (.int .i64 (-1022)) ∧ w.cell? ⟨2, 2, none⟩ = some (.int .i64 1023)
theorem FmD.of {w w' : World} (h : FmD w) (k : Within w w') : FmD w' :=
  ⟨(k.cells _ _ (World.block_lt_of_cell? w _ h.1)).trans h.1, (k.cells _ _ (World.block_lt_of_cell? w _ h.2.1)).trans h.2.1, (k.cells _ _ (World.block_lt_of_cell? w _ h.2.2)).trans h.2.2⟩

set_option maxRecDepth 100000 in
set_option maxHeartbeats 600000 in
theorem from_S_bad (m : Nat) (b : Bool) (mode : Int) (KN : Hid (∀ w, Calls Tryd.prog 66 #[.int .i64 mode] w fun e' w' => e' = .returned (.bool false) ∧ w = w')) (w : World) : Calls Tryd.prog 77 #[.int .u64 m, .bool b, .agg #[.int .i64 24, .int .i64 (-126), .int .i64 127], .int .i64 mode] w fun e' w' => e' = .returned (.tuple #[.float .f64 0, .int .i64 0, .int .i64 20]) ∧ Within w w' := by
  go_enter Tryd.func77, Tryd.ntmps77
  go_wp2_with fail
  refine (KN.out _).mono ?_; rintro e1 w1 ⟨rfl, rfl⟩
  go_wp2
  go_ret3
  exact ⟨rfl, (by repeat (first | with_reducible exact Within.refl _ | with_reducible assumption | with_reducible refine Within.alloc ?_ _ | with_reducible refine Within.drew ?_ | with_reducible refine Within.setCell ?_ (by first | (simp; done) | (simp; omega)) _ | with_reducible refine Within.trans ?_ (by assumption)))⟩

set_option maxRecDepth 100000 in
set_option maxHeartbeats 600000 in
theorem from_S_zero (b : Bool) (mode : Int) (KN : Hid (∀ w, Calls Tryd.prog 66 #[.int .i64 mode] w fun e' w' => e' = .returned (.bool true) ∧ w = w')) (w : World) : Calls Tryd.prog 77 #[.int .u64 0, .bool b, .agg #[.int .i64 24, .int .i64 (-126), .int .i64 127], .int .i64 mode] w fun e' w' => e' = .returned (.tuple #[.float .f64 0, .int .i64 0, .int .i64 0]) ∧ Within w w' := by
  go_enter Tryd.func77, Tryd.ntmps77
  go_wp2_with fail
  refine (KN.out _).mono ?_; rintro e1 w1 ⟨rfl, rfl⟩
  go_wp2
  go_ret3
  exact ⟨rfl, (by repeat (first | with_reducible exact Within.refl _ | with_reducible assumption | with_reducible refine Within.alloc ?_ _ | with_reducible refine Within.drew ?_ | with_reducible refine Within.setCell ?_ (by first | (simp; done) | (simp; omega)) _ | with_reducible refine Within.trans ?_ (by assumption)))⟩

set_option maxRecDepth 100000 in
set_option maxHeartbeats 600000 in
theorem from_S_main (m y : Nat) (b : Bool) (mode fl : Int) (hm : ((m : Int) == 0) = false) (KN : Hid (∀ w, Calls Tryd.prog 66 #[.int .i64 mode] w fun e' w' => e' = .returned (.bool true) ∧ w = w')) (RN : Hid (∀ w, Calls Tryd.prog 70 #[.agg #[.bool b, .int .u64 m, .int .i64 0], .agg #[.int .i64 24, .int .i64 (-126), .int .i64 127], .int .i64 mode] w fun e' w' => e' = .returned (.tuple #[.float .f64 y, .int .i64 fl]) ∧ Within w w')) (w : World) : Calls Tryd.prog 77 #[.int .u64 m, .bool b, .agg #[.int .i64 24, .int .i64 (-126), .int .i64 127], .int .i64 mode] w fun e' w' => e' = .returned (.tuple #[.float .f64 y, .int .i64 fl, .int .i64 0]) ∧ Within w w' := by
  go_enter Tryd.func77, Tryd.ntmps77
  go_wp2_with fail
  refine (KN.out _).mono ?_; rintro e1 w1 ⟨rfl, rfl⟩
  go_wp2_with fail
  refine (RN.out _).mono ?_; rintro e2 w2 ⟨rfl, hb2⟩
  go_wp2
  go_ret3
  exact ⟨rfl, (by repeat (first | with_reducible exact Within.refl _ | with_reducible assumption | with_reducible refine Within.alloc ?_ _ | with_reducible refine Within.drew ?_ | with_reducible refine Within.setCell ?_ (by first | (simp; done) | (simp; omega)) _ | with_reducible refine Within.trans ?_ (by assumption)))⟩

def fWordS (m : Nat) (b : Bool) (mode : Int) : Nat := if ¬ (0 ≤ mode ∧ mode ≤ 4) then 0 else if m = 0 then 0 else rWord 24 (-149) 127 topS b m 0 mode
def fFlagsS (m : Nat) (b : Bool) (mode : Int) : Int := if ¬ (0 ≤ mode ∧ mode ≤ 4) then 0 else if m = 0 then 0 else rFlags 24 (-149) 127 b m 0 mode
theorem from_S (m : Nat) (b : Bool) (mode : Int) (hm : m < 18446744073709551616) (w : World) : Calls Tryd.prog 77 #[.int .u64 m, .bool b, .agg #[.int .i64 24, .int .i64 (-126), .int .i64 127], .int .i64 mode] w fun e' w' => e' = .returned (.tuple #[.float .f64 (fWordS m b mode), .int .i64 (fFlagsS m b mode), .int .i64 (nErr mode)]) ∧ Within w w' := by
  have KN := Lib.hid (fun w => known_any mode w)
  unfold fWordS fFlagsS nErr
  by_cases hmode : 0 ≤ mode ∧ mode ≤ 4
  · rw [decide_eq_true hmode] at KN
    have hm' : ¬¬(0 ≤ mode ∧ mode ≤ 4) := fun h => h hmode
    rw [if_neg hm', if_neg hm', if_pos hmode]
    by_cases h0 : m = 0
    · subst h0
      rw [if_pos rfl, if_pos rfl]
      exact from_S_zero b mode KN w
    · rw [if_neg h0, if_neg h0]
      exact from_S_main m _ b mode _ (by rw [beq_eq_false_iff_ne]; omega) KN (Lib.hid fun w => round_S b m 0 mode h0 hm (by decide) (by decide) hmode w) w
  · rw [decide_eq_false hmode] at KN
    rw [if_pos hmode, if_pos hmode, if_neg hmode]
    exact from_S_bad m b mode KN w

set_option maxRecDepth 100000 in
set_option maxHeartbeats 600000 in
theorem from_D_bad (m : Nat) (b : Bool) (mode : Int) (KN : Hid (∀ w, Calls Tryd.prog 66 #[.int .i64 mode] w fun e' w' => e' = .returned (.bool false) ∧ w = w')) (w : World) : Calls Tryd.prog 77 #[.int .u64 m, .bool b, .agg #[.int .i64 53, .int .i64 (-1022), .int .i64 1023], .int .i64 mode] w fun e' w' => e' = .returned (.tuple #[.float .f64 0, .int .i64 0, .int .i64 20]) ∧ Within w w' := by
  go_enter Tryd.func77, Tryd.ntmps77
  go_wp2_with fail
  refine (KN.out _).mono ?_; rintro e1 w1 ⟨rfl, rfl⟩
  go_wp2
  go_ret3
  exact ⟨rfl, (by repeat (first | with_reducible exact Within.refl _ | with_reducible assumption | with_reducible refine Within.alloc ?_ _ | with_reducible refine Within.drew ?_ | with_reducible refine Within.setCell ?_ (by first | (simp; done) | (simp; omega)) _ | with_reducible refine Within.trans ?_ (by assumption)))⟩

set_option maxRecDepth 100000 in
set_option maxHeartbeats 600000 in
theorem from_D_zero (b : Bool) (mode : Int) (KN : Hid (∀ w, Calls Tryd.prog 66 #[.int .i64 mode] w fun e' w' => e' = .returned (.bool true) ∧ w = w')) (w : World) : Calls Tryd.prog 77 #[.int .u64 0, .bool b, .agg #[.int .i64 53, .int .i64 (-1022), .int .i64 1023], .int .i64 mode] w fun e' w' => e' = .returned (.tuple #[.float .f64 0, .int .i64 0, .int .i64 0]) ∧ Within w w' := by
  go_enter Tryd.func77, Tryd.ntmps77
  go_wp2_with fail
  refine (KN.out _).mono ?_; rintro e1 w1 ⟨rfl, rfl⟩
  go_wp2
  go_ret3
  exact ⟨rfl, (by repeat (first | with_reducible exact Within.refl _ | with_reducible assumption | with_reducible refine Within.alloc ?_ _ | with_reducible refine Within.drew ?_ | with_reducible refine Within.setCell ?_ (by first | (simp; done) | (simp; omega)) _ | with_reducible refine Within.trans ?_ (by assumption)))⟩

set_option maxRecDepth 100000 in
set_option maxHeartbeats 600000 in
theorem from_D_main (m y : Nat) (b : Bool) (mode fl : Int) (hm : ((m : Int) == 0) = false) (KN : Hid (∀ w, Calls Tryd.prog 66 #[.int .i64 mode] w fun e' w' => e' = .returned (.bool true) ∧ w = w')) (RN : Hid (∀ w, Calls Tryd.prog 70 #[.agg #[.bool b, .int .u64 m, .int .i64 0], .agg #[.int .i64 53, .int .i64 (-1022), .int .i64 1023], .int .i64 mode] w fun e' w' => e' = .returned (.tuple #[.float .f64 y, .int .i64 fl]) ∧ Within w w')) (w : World) : Calls Tryd.prog 77 #[.int .u64 m, .bool b, .agg #[.int .i64 53, .int .i64 (-1022), .int .i64 1023], .int .i64 mode] w fun e' w' => e' = .returned (.tuple #[.float .f64 y, .int .i64 fl, .int .i64 0]) ∧ Within w w' := by
  go_enter Tryd.func77, Tryd.ntmps77
  go_wp2_with fail
  refine (KN.out _).mono ?_; rintro e1 w1 ⟨rfl, rfl⟩
  go_wp2_with fail
  refine (RN.out _).mono ?_; rintro e2 w2 ⟨rfl, hb2⟩
  go_wp2
  go_ret3
  exact ⟨rfl, (by repeat (first | with_reducible exact Within.refl _ | with_reducible assumption | with_reducible refine Within.alloc ?_ _ | with_reducible refine Within.drew ?_ | with_reducible refine Within.setCell ?_ (by first | (simp; done) | (simp; omega)) _ | with_reducible refine Within.trans ?_ (by assumption)))⟩

def fWordD (m : Nat) (b : Bool) (mode : Int) : Nat := if ¬ (0 ≤ mode ∧ mode ≤ 4) then 0 else if m = 0 then 0 else rWord 53 (-1074) 1023 9218868437227405311 b m 0 mode
def fFlagsD (m : Nat) (b : Bool) (mode : Int) : Int := if ¬ (0 ≤ mode ∧ mode ≤ 4) then 0 else if m = 0 then 0 else rFlags 53 (-1074) 1023 b m 0 mode
theorem from_D (m : Nat) (b : Bool) (mode : Int) (hm : m < 18446744073709551616) (w : World) : Calls Tryd.prog 77 #[.int .u64 m, .bool b, .agg #[.int .i64 53, .int .i64 (-1022), .int .i64 1023], .int .i64 mode] w fun e' w' => e' = .returned (.tuple #[.float .f64 (fWordD m b mode), .int .i64 (fFlagsD m b mode), .int .i64 (nErr mode)]) ∧ Within w w' := by
  have KN := Lib.hid (fun w => known_any mode w)
  unfold fWordD fFlagsD nErr
  by_cases hmode : 0 ≤ mode ∧ mode ≤ 4
  · rw [decide_eq_true hmode] at KN
    have hm' : ¬¬(0 ≤ mode ∧ mode ≤ 4) := fun h => h hmode
    rw [if_neg hm', if_neg hm', if_pos hmode]
    by_cases h0 : m = 0
    · subst h0
      rw [if_pos rfl, if_pos rfl]
      exact from_D_zero b mode KN w
    · rw [if_neg h0, if_neg h0]
      exact from_D_main m _ b mode _ (by rw [beq_eq_false_iff_ne]; omega) KN (Lib.hid fun w => round_D b m 0 mode h0 hm (by decide) (by decide) hmode w) w
  · rw [decide_eq_false hmode] at KN
    rw [if_pos hmode, if_pos hmode, if_neg hmode]
    exact from_D_bad m b mode KN w

set_option maxRecDepth 100000 in
set_option maxHeartbeats 600000 in
theorem amount_neg (n : Int) (m : Nat) (h : n < 0) (hm : n = -(m : Int)) (hl : m ≤ 9223372036854775808) (w : World) : Calls Tryd.prog 76 #[.int .i64 n] w fun e w' => e = .returned (.tuple #[.int .u64 m, .bool true]) ∧ w = w' := by
  have g : IntKind.u64.wrap (-IntKind.u64.wrap n) = (m : Int) := by rw [IntKind.wrap_u64, IntKind.wrap_u64]; omega
  have d : decide (n < 0) = true := decide_eq_true h
  clear h hm hl
  go_enter Tryd.func76, Tryd.ntmps76
  go_wp2
  go_ret2
  exact ⟨rfl, rfl⟩

set_option maxRecDepth 100000 in
set_option maxHeartbeats 600000 in
theorem amount_pos (m : Nat) (hl : m ≤ 9223372036854775807) (w : World) : Calls Tryd.prog 76 #[.int .i64 (m : Int)] w fun e w' => e = .returned (.tuple #[.int .u64 m, .bool false]) ∧ w = w' := by
  have g : IntKind.u64.wrap (m : Int) = (m : Int) := by rw [IntKind.wrap_u64]; omega
  have d : decide ((m : Int) < 0) = false := decide_eq_false (by omega)
  have HL := Lib.hid hl; clear hl
  go_enter Tryd.func76, Tryd.ntmps76
  go_wp2
  go_ret2
  exact ⟨rfl, rfl⟩

theorem amount_any (n : Int) (h1 : -9223372036854775808 ≤ n) (h2 : n ≤ 9223372036854775807) (w : World) : Calls Tryd.prog 76 #[.int .i64 n] w fun e w' => e = .returned (.tuple #[.int .u64 (n.natAbs : Nat), .bool (decide (n < 0))]) ∧ w = w' := by
  by_cases h : n < 0
  · rw [decide_eq_true h]
    exact amount_neg n n.natAbs h (by omega) (by omega) w
  · obtain ⟨m, rfl⟩ := Int.eq_ofNat_of_zero_le (show 0 ≤ n by omega)
    rw [decide_eq_false h]
    exact amount_pos m (by omega) w

set_option maxRecDepth 100000 in
set_option maxHeartbeats 600000 in
theorem FromInt_core (n : Int) (m y : Nat) (b : Bool) (mode fl er : Int) (AM : Hid (∀ w, Calls Tryd.prog 76 #[.int .i64 n] w fun e' w' => e' = .returned (.tuple #[.int .u64 (m : Nat), .bool b]) ∧ w = w')) (FR : Hid (∀ w, Calls Tryd.prog 77 #[.int .u64 m, .bool b, .agg #[.int .i64 53, .int .i64 (-1022), .int .i64 1023], .int .i64 mode] w fun e' w' => e' = .returned (.tuple #[.float .f64 y, .int .i64 fl, .int .i64 er]) ∧ Within w w')) (w : World) (hT : FmD w) : Calls Tryd.prog 32 #[.int .i64 n, .int .i64 mode] w fun e' w' => e' = .returned (.tuple #[.float .f64 y, .int .i64 fl, .int .i64 er]) ∧ Within w w' := by
  have q0 := hT.1; have q1 := hT.2.1; have q2 := hT.2.2
  go_enter Tryd.func32, Tryd.ntmps32
  go_wp2_with fail
  refine (AM.out _).mono ?_; rintro e1 w1 ⟨rfl, rfl⟩
  go_wp2_with fail
  refine (FR.out _).mono ?_; rintro e2 w2 ⟨rfl, hb2⟩
  go_wp2
  go_ret3
  exact ⟨rfl, (by repeat (first | with_reducible exact Within.refl _ | with_reducible assumption | with_reducible refine Within.alloc ?_ _ | with_reducible refine Within.drew ?_ | with_reducible refine Within.setCell ?_ (by first | (simp; done) | (simp; omega)) _ | with_reducible refine Within.trans ?_ (by assumption)))⟩

theorem FromInt_any (n mode : Int) (h1 : -9223372036854775808 ≤ n) (h2 : n ≤ 9223372036854775807) (w : World) (hT : FmD w) : Calls Tryd.prog 32 #[.int .i64 n, .int .i64 mode] w fun e' w' => e' = .returned (.tuple #[.float .f64 (fWordD n.natAbs (decide (n < 0)) mode), .int .i64 (fFlagsD n.natAbs (decide (n < 0)) mode), .int .i64 (nErr mode)]) ∧ Within w w' :=
  FromInt_core n _ _ _ mode _ _ (Lib.hid fun w => amount_any n h1 h2 w) (Lib.hid fun w => from_D n.natAbs _ mode (by omega) w) w hT

set_option maxRecDepth 100000 in
set_option maxHeartbeats 600000 in
theorem scale_bad (a : Nat) (k mode : Int) (KN : Hid (∀ w, Calls Tryd.prog 66 #[.int .i64 mode] w fun e' w' => e' = .returned (.bool false) ∧ w = w')) (w : World) : Calls Tryd.prog 34 #[.float .f64 a, .int .i64 k, .int .i64 mode] w fun e' w' => e' = .returned (.tuple #[.float .f64 0, .int .i64 0, .int .i64 20]) ∧ Within w w' := by
  go_enter Tryd.func34, Tryd.ntmps34
  go_wp2_with fail
  refine (KN.out _).mono ?_; rintro e1 w1 ⟨rfl, rfl⟩
  go_wp2
  go_ret3
  exact ⟨rfl, (by repeat (first | with_reducible exact Within.refl _ | with_reducible assumption | with_reducible refine Within.alloc ?_ _ | with_reducible refine Within.drew ?_ | with_reducible refine Within.setCell ?_ (by first | (simp; done) | (simp; omega)) _ | with_reducible refine Within.trans ?_ (by assumption)))⟩

set_option maxRecDepth 100000 in
set_option maxHeartbeats 600000 in
theorem scale_nan (a c : Nat) (k mode : Int) (KN : Hid (∀ w, Calls Tryd.prog 66 #[.int .i64 mode] w fun e' w' => e' = .returned (.bool true) ∧ w = w')) (hx : (FloatKind.f64.format.order a a != some .eq) = true) (CA : Hid (∀ w, Calls Tryd.prog 75 #[.float .f64 a] w fun e' w' => e' = .returned (.float .f64 c) ∧ Within w w')) (w : World) : Calls Tryd.prog 34 #[.float .f64 a, .int .i64 k, .int .i64 mode] w fun e' w' => e' = .returned (.tuple #[.float .f64 c, .int .i64 0, .int .i64 0]) ∧ Within w w' := by
  go_enter Tryd.func34, Tryd.ntmps34
  go_wp2_with fail
  refine (KN.out _).mono ?_; rintro e1 w1 ⟨rfl, rfl⟩
  go_wp2_with fail
  refine (CA.out _).mono ?_; rintro e2 w2 ⟨rfl, hb2⟩
  go_wp2
  go_ret3
  exact ⟨rfl, (by repeat (first | with_reducible exact Within.refl _ | with_reducible assumption | with_reducible refine Within.alloc ?_ _ | with_reducible refine Within.drew ?_ | with_reducible refine Within.setCell ?_ (by first | (simp; done) | (simp; omega)) _ | with_reducible refine Within.trans ?_ (by assumption)))⟩

set_option maxRecDepth 100000 in
set_option maxHeartbeats 600000 in
theorem scale_plain (a : Nat) (k mode : Int) (KN : Hid (∀ w, Calls Tryd.prog 66 #[.int .i64 mode] w fun e' w' => e' = .returned (.bool true) ∧ w = w')) (hx : (FloatKind.f64.format.order a a != some .eq) = false) (PL : Hid (∀ w, Calls Tryd.prog 68 #[.float .f64 a] w fun e' w' => e' = .returned (.bool true) ∧ w = w')) (w : World) : Calls Tryd.prog 34 #[.float .f64 a, .int .i64 k, .int .i64 mode] w fun e' w' => e' = .returned (.tuple #[.float .f64 a, .int .i64 0, .int .i64 0]) ∧ Within w w' := by
  go_enter Tryd.func34, Tryd.ntmps34
  go_wp2_with fail
  refine (KN.out _).mono ?_; rintro e1 w1 ⟨rfl, rfl⟩
  go_wp2_with fail
  refine (PL.out _).mono ?_; rintro e2 w2 ⟨rfl, rfl⟩
  go_wp2
  go_ret3
  exact ⟨rfl, (by repeat (first | with_reducible exact Within.refl _ | with_reducible assumption | with_reducible refine Within.alloc ?_ _ | with_reducible refine Within.drew ?_ | with_reducible refine Within.setCell ?_ (by first | (simp; done) | (simp; omega)) _ | with_reducible refine Within.trans ?_ (by assumption)))⟩

set_option maxRecDepth 100000 in
set_option maxHeartbeats 600000 in
theorem scale_main (a m y : Nat) (b : Bool) (e e2 k k2 mode fl : Int) (KN : Hid (∀ w, Calls Tryd.prog 66 #[.int .i64 mode] w fun e' w' => e' = .returned (.bool true) ∧ w = w')) (hx : (FloatKind.f64.format.order a a != some .eq) = false) (PL : Hid (∀ w, Calls Tryd.prog 68 #[.float .f64 a] w fun e' w' => e' = .returned (.bool false) ∧ w = w')) (TK : Hid (∀ w, Calls Tryd.prog 69 #[.float .f64 a] w fun e' w' => e' = .returned (.agg #[.bool b, .int .u64 m, .int .i64 e]) ∧ Within w w')) (hk : max (-10000) (min k 10000) = k2) (he : e + k2 = e2) (h1 : -3000 ≤ e) (h2 : e ≤ 3000) (RN : Hid (∀ w, Calls Tryd.prog 70 #[.agg #[.bool b, .int .u64 m, .int .i64 e2], .agg #[.int .i64 53, .int .i64 (-1022), .int .i64 1023], .int .i64 mode] w fun e' w' => e' = .returned (.tuple #[.float .f64 y, .int .i64 fl]) ∧ Within w w')) (w : World) (hT : FmD w) : Calls Tryd.prog 34 #[.float .f64 a, .int .i64 k, .int .i64 mode] w fun e' w' => e' = .returned (.tuple #[.float .f64 y, .int .i64 fl, .int .i64 0]) ∧ Within w w' := by
  have k1 : -10000 ≤ k2 := by omega
  have k3 : k2 ≤ 10000 := by omega
  have gw : IntKind.i64.wrap (e + k2) = e + k2 := by rw [IntKind.wrap_i64]; omega
  subst he
  go_enter Tryd.func34, Tryd.ntmps34
  go_wp2_with fail
  refine (KN.out _).mono ?_; rintro e1 w1 ⟨rfl, rfl⟩
  go_wp2_with fail
  refine (PL.out _).mono ?_; rintro e2 w2 ⟨rfl, rfl⟩
  go_wp2_with fail
  refine (TK.out _).mono ?_; rintro e3 w3 ⟨rfl, hb3⟩
  have q0 := (hT.of hb3).1; have q1 := (hT.of hb3).2.1; have q2 := (hT.of hb3).2.2
  have z0 := World.block_lt_of_cell? _ _ q0
  go_wp2_with fail
  refine (RN.out _).mono ?_; rintro e4 w4 ⟨rfl, hb4⟩
  go_wp2
  go_ret3
  exact ⟨rfl, (by repeat (first | with_reducible exact Within.refl _ | with_reducible assumption | with_reducible refine Within.alloc ?_ _ | with_reducible refine Within.drew ?_ | with_reducible refine Within.setCell ?_ (by first | (simp; done) | (simp; omega)) _ | with_reducible refine Within.trans ?_ (by assumption)))⟩

end Go.Proofs.YtifgngmebnjfkaaDoor
