/- Package binnacleref02: words of a format: walks. -/
import Derived.Test.YtifgngmebnjfkaaDoorRf1
import Derived.Test.YtifgngmebnjfkaaDoorBg12
namespace Go.Proofs.YtifgngmebnjfkaaDoor
open Go.RowKit

/-- the greatest number instead of infinity -/
def topR (ng : Bool) (mode : Int) : Bool := decide (mode = 2) || (decide (mode = 3) && ng) || (decide (mode = 4) && !ng)

set_option maxRecDepth 100000 in
set_option maxHeartbeats 600000 in
theorem Riszero_no (kind e v : Int) (ng : Bool) (g : Nat) (hk : (kind == 0) = false) (w : World) (hI : IntB w g v) : Calls Tryd.prog 107 #[.agg #[.int .i64 kind, .bool ng, .pointer (some ⟨g, 0, none⟩), .int .i64 e]] w (fun e' w' => e' = .returned (.bool false) ∧ Within w w') := by
  have hb := Lib.hid (hI.alloc (.cells #[.int .i64 kind, .bool ng, .pointer (some ⟨g, 0, none⟩), .int .i64 e] 26))
  clear hI
  go_enter Tryd.func107, Tryd.ntmps107
  go_wp2
  go_ret
  exact ⟨rfl, (Within.refl w).alloc _⟩

set_option maxRecDepth 100000 in
set_option maxHeartbeats 600000 in
theorem Riszero_zero (kind e v : Int) (ng : Bool) (g : Nat) (hk : kind = 0) (hv : v = 0) (w : World) (hI : IntB w g v) : Calls Tryd.prog 107 #[.agg #[.int .i64 kind, .bool ng, .pointer (some ⟨g, 0, none⟩), .int .i64 e]] w (fun e' w' => e' = .returned (.bool true) ∧ Within w w') := by
  subst hk
  have hb := Lib.hid (hI.alloc (.cells #[.int .i64 0, .bool ng, .pointer (some ⟨g, 0, none⟩), .int .i64 e] 26))
  clear hI
  have d : (v.sign == 0) = true := by subst hv; rfl
  have HV := Lib.hid hv; clear hv
  go_enter Tryd.func107, Tryd.ntmps107
  go_wp2_with fail
  refine (Bsign g v _ hb.out).mono ?_; rintro e1 w1 ⟨rfl, rfl⟩
  go_wp2
  go_ret
  exact ⟨rfl, (Within.refl w).alloc _⟩

set_option maxRecDepth 100000 in
set_option maxHeartbeats 600000 in
theorem Riszero_some (kind e v : Int) (ng : Bool) (g : Nat) (hk : kind = 0) (hv : v ≠ 0) (w : World) (hI : IntB w g v) : Calls Tryd.prog 107 #[.agg #[.int .i64 kind, .bool ng, .pointer (some ⟨g, 0, none⟩), .int .i64 e]] w (fun e' w' => e' = .returned (.bool false) ∧ Within w w') := by
  subst hk
  have hb := Lib.hid (hI.alloc (.cells #[.int .i64 0, .bool ng, .pointer (some ⟨g, 0, none⟩), .int .i64 e] 26))
  clear hI
  have d : (v.sign == 0) = false := beq_eq_false_iff_ne.2 (fun h => hv (Int.sign_eq_zero_iff_zero.1 h))
  have HV := Lib.hid hv; clear hv
  go_enter Tryd.func107, Tryd.ntmps107
  go_wp2_with fail
  refine (Bsign g v _ hb.out).mono ?_; rintro e1 w1 ⟨rfl, rfl⟩
  go_wp2
  go_ret
  exact ⟨rfl, (Within.refl w).alloc _⟩

theorem Riszero (kind e v : Int) (ng : Bool) (g : Nat) (w : World) (hI : IntB w g v) : Calls Tryd.prog 107 #[.agg #[.int .i64 kind, .bool ng, .pointer (some ⟨g, 0, none⟩), .int .i64 e]] w (fun e' w' => e' = .returned (.bool (decide (kind = 0 ∧ v = 0))) ∧ Within w w') := by
  by_cases hk : kind = 0
  · by_cases hv : v = 0
    · rw [decide_eq_true ⟨hk, hv⟩]; exact Riszero_zero kind e v ng g hk hv w hI
    · rw [decide_eq_false (fun h => hv h.2)]; exact Riszero_some kind e v ng g hk hv w hI
  · rw [decide_eq_false (fun h => hk h.1)]; exact Riszero_no kind e v ng g (beq_eq_false_iff_ne.2 hk) w hI

set_option maxRecDepth 100000 in
set_option maxHeartbeats 600000 in
theorem RputD_0 (fd fr : Nat) (hfd : fd < 2048) (hfr : fr < 4503599627370496) (w : World) : Calls Tryd.prog 127 #[fmD, .bool false, .int .i64 (fd : Int), .int .u64 (fr : Int)] w (fun e w' => e = .returned (.int .u64 ((fd * 4503599627370496 + fr : Nat) : Int)) ∧ Within w w') := by
  have HH := Lib.hid (And.intro hfd hfr)
  have j1 : bits .or .u64 ((fd : Int) * 4503599627370496) (fr : Int) = ((fd * 4503599627370496 + fr : Nat) : Int) := by rw [show (fd : Int) * 4503599627370496 = ((fd * 4503599627370496 : Nat) : Int) by simp]; exact u64_join 52 _ _ (by omega) (by omega) (by rw [show (2 : Nat) ^ 52 = 4503599627370496 from rfl]; omega) (by rw [show (2 : Nat) ^ 52 = 4503599627370496 from rfl]; omega)
  have j2 : bits .or .u64 ((fd * 4503599627370496 + fr : Nat) : Int) 9223372036854775808 = ((fd * 4503599627370496 + fr + 9223372036854775808 : Nat) : Int) := by rw [show (9223372036854775808 : Int) = ((9223372036854775808 : Nat) : Int) from rfl, u64_or_nat _ _ (by omega) (by decide), Nat.or_comm, nat_join 63 _ _ (by decide) (by rw [show (2 : Nat) ^ 63 = 9223372036854775808 from rfl]; omega), Nat.add_comm]
  have g1 : IntKind.u64.wrap ((fd : Int) * 4503599627370496) = (fd : Int) * 4503599627370496 := by rw [IntKind.wrap_u64]; omega
  obtain ⟨a, ha⟩ : ∃ a : Nat, a = fd * 4503599627370496 + fr := ⟨_, rfl⟩
  rw [← ha] at j1 j2 ⊢
  have HA := Lib.hid ha; clear ha hfr
  go_enter Tryd.func127, Tryd.ntmps127
  go_wp2
  go_ret
  exact ⟨rfl, (by repeat (first | with_reducible exact Within.refl _ | with_reducible assumption | with_reducible refine Within.alloc ?_ _ | with_reducible refine Within.drew ?_ | with_reducible refine Within.drewN ?_ _ | with_reducible refine Within.setCell ?_ (by first | (simp; done) | (simp; omega)) _ | with_reducible refine Within.trans ?_ (by assumption)))⟩

set_option maxRecDepth 100000 in
set_option maxHeartbeats 600000 in
theorem RputD_1 (fd fr : Nat) (hfd : fd < 2048) (hfr : fr < 4503599627370496) (w : World) : Calls Tryd.prog 127 #[fmD, .bool true, .int .i64 (fd : Int), .int .u64 (fr : Int)] w (fun e w' => e = .returned (.int .u64 ((fd * 4503599627370496 + fr + 9223372036854775808 : Nat) : Int)) ∧ Within w w') := by
  have HH := Lib.hid (And.intro hfd hfr)
  have j1 : bits .or .u64 ((fd : Int) * 4503599627370496) (fr : Int) = ((fd * 4503599627370496 + fr : Nat) : Int) := by rw [show (fd : Int) * 4503599627370496 = ((fd * 4503599627370496 : Nat) : Int) by simp]; exact u64_join 52 _ _ (by omega) (by omega) (by rw [show (2 : Nat) ^ 52 = 4503599627370496 from rfl]; omega) (by rw [show (2 : Nat) ^ 52 = 4503599627370496 from rfl]; omega)
  have j2 : bits .or .u64 ((fd * 4503599627370496 + fr : Nat) : Int) 9223372036854775808 = ((fd * 4503599627370496 + fr + 9223372036854775808 : Nat) : Int) := by rw [show (9223372036854775808 : Int) = ((9223372036854775808 : Nat) : Int) from rfl, u64_or_nat _ _ (by omega) (by decide), Nat.or_comm, nat_join 63 _ _ (by decide) (by rw [show (2 : Nat) ^ 63 = 9223372036854775808 from rfl]; omega), Nat.add_comm]
  have g1 : IntKind.u64.wrap ((fd : Int) * 4503599627370496) = (fd : Int) * 4503599627370496 := by rw [IntKind.wrap_u64]; omega
  obtain ⟨a, ha⟩ : ∃ a : Nat, a = fd * 4503599627370496 + fr := ⟨_, rfl⟩
  rw [← ha] at j1 j2 ⊢
  have HA := Lib.hid ha; clear ha hfr
  go_enter Tryd.func127, Tryd.ntmps127
  go_wp2
  go_ret
  exact ⟨rfl, (by repeat (first | with_reducible exact Within.refl _ | with_reducible assumption | with_reducible refine Within.alloc ?_ _ | with_reducible refine Within.drew ?_ | with_reducible refine Within.drewN ?_ _ | with_reducible refine Within.setCell ?_ (by first | (simp; done) | (simp; omega)) _ | with_reducible refine Within.trans ?_ (by assumption)))⟩

theorem RputD (ng : Bool) (fd fr : Nat) (hfd : fd < 2048) (hfr : fr < 4503599627370496) (w : World) : Calls Tryd.prog 127 #[fmD, .bool ng, .int .i64 (fd : Int), .int .u64 (fr : Int)] w (fun e w' => e = .returned (.int .u64 ((fd * 4503599627370496 + fr + (if ng then 9223372036854775808 else 0) : Nat) : Int)) ∧ Within w w') := by
  cases ng
  · rw [if_neg Bool.false_ne_true, Nat.add_zero]; exact RputD_0 fd fr hfd hfr w
  · rw [if_pos rfl]; exact RputD_1 fd fr hfd hfr w

set_option maxRecDepth 100000 in
set_option maxHeartbeats 600000 in
theorem RnoughtD_0 (w : World) : Calls Tryd.prog 108 #[fmD, .bool false] w (fun e w' => e = .returned (.int .u64 0) ∧ Within w w') := by
  have hp := fun (w' : World) => RputD_0 0 0 (by decide) (by decide) w'
  have HP := Lib.hid hp; clear hp
  go_enter Tryd.func108, Tryd.ntmps108
  go_wp2_with fail
  refine (HP.out _).mono ?_; rintro e1 w1 ⟨rfl, hb1⟩
  go_wp2
  go_ret
  exact ⟨ret_int (by rfl), (by repeat (first | with_reducible exact Within.refl _ | with_reducible assumption | with_reducible refine Within.alloc ?_ _ | with_reducible refine Within.drew ?_ | with_reducible refine Within.drewN ?_ _ | with_reducible refine Within.setCell ?_ (by first | (simp; done) | (simp; omega)) _ | with_reducible refine Within.trans ?_ (by assumption)))⟩

set_option maxRecDepth 100000 in
set_option maxHeartbeats 600000 in
theorem RnoughtD_1 (w : World) : Calls Tryd.prog 108 #[fmD, .bool true] w (fun e w' => e = .returned (.int .u64 9223372036854775808) ∧ Within w w') := by
  have hp := fun (w' : World) => RputD_1 0 0 (by decide) (by decide) w'
  have HP := Lib.hid hp; clear hp
  go_enter Tryd.func108, Tryd.ntmps108
  go_wp2_with fail
  refine (HP.out _).mono ?_; rintro e1 w1 ⟨rfl, hb1⟩
  go_wp2
  go_ret
  exact ⟨ret_int (by rfl), (by repeat (first | with_reducible exact Within.refl _ | with_reducible assumption | with_reducible refine Within.alloc ?_ _ | with_reducible refine Within.drew ?_ | with_reducible refine Within.drewN ?_ _ | with_reducible refine Within.setCell ?_ (by first | (simp; done) | (simp; omega)) _ | with_reducible refine Within.trans ?_ (by assumption)))⟩

set_option maxRecDepth 100000 in
set_option maxHeartbeats 600000 in
theorem RinfinityD_0 (w : World) : Calls Tryd.prog 106 #[fmD, .bool false] w (fun e w' => e = .returned (.int .u64 9218868437227405312) ∧ Within w w') := by
  have hp := fun (w' : World) => RputD_0 2047 0 (by decide) (by decide) w'
  have HP := Lib.hid hp; clear hp
  go_enter Tryd.func106, Tryd.ntmps106
  go_wp2_with fail
  refine (HP.out _).mono ?_; rintro e1 w1 ⟨rfl, hb1⟩
  go_wp2
  go_ret
  exact ⟨ret_int (by rfl), (by repeat (first | with_reducible exact Within.refl _ | with_reducible assumption | with_reducible refine Within.alloc ?_ _ | with_reducible refine Within.drew ?_ | with_reducible refine Within.drewN ?_ _ | with_reducible refine Within.setCell ?_ (by first | (simp; done) | (simp; omega)) _ | with_reducible refine Within.trans ?_ (by assumption)))⟩

set_option maxRecDepth 100000 in
set_option maxHeartbeats 600000 in
theorem RinfinityD_1 (w : World) : Calls Tryd.prog 106 #[fmD, .bool true] w (fun e w' => e = .returned (.int .u64 18442240474082181120) ∧ Within w w') := by
  have hp := fun (w' : World) => RputD_1 2047 0 (by decide) (by decide) w'
  have HP := Lib.hid hp; clear hp
  go_enter Tryd.func106, Tryd.ntmps106
  go_wp2_with fail
  refine (HP.out _).mono ?_; rintro e1 w1 ⟨rfl, hb1⟩
  go_wp2
  go_ret
  exact ⟨ret_int (by rfl), (by repeat (first | with_reducible exact Within.refl _ | with_reducible assumption | with_reducible refine Within.alloc ?_ _ | with_reducible refine Within.drew ?_ | with_reducible refine Within.drewN ?_ _ | with_reducible refine Within.setCell ?_ (by first | (simp; done) | (simp; omega)) _ | with_reducible refine Within.trans ?_ (by assumption)))⟩

set_option maxRecDepth 100000 in
set_option maxHeartbeats 600000 in
theorem RgreatestD_0 (w : World) : Calls Tryd.prog 143 #[fmD, .bool false] w (fun e w' => e = .returned (.int .u64 9218868437227405311) ∧ Within w w') := by
  have hp := fun (w' : World) => RputD_0 2046 4503599627370495 (by decide) (by decide) w'
  have HP := Lib.hid hp; clear hp
  go_enter Tryd.func143, Tryd.ntmps143
  go_wp2_with fail
  refine (HP.out _).mono ?_; rintro e1 w1 ⟨rfl, hb1⟩
  go_wp2
  go_ret
  exact ⟨ret_int (by rfl), (by repeat (first | with_reducible exact Within.refl _ | with_reducible assumption | with_reducible refine Within.alloc ?_ _ | with_reducible refine Within.drew ?_ | with_reducible refine Within.drewN ?_ _ | with_reducible refine Within.setCell ?_ (by first | (simp; done) | (simp; omega)) _ | with_reducible refine Within.trans ?_ (by assumption)))⟩

set_option maxRecDepth 100000 in
set_option maxHeartbeats 600000 in
theorem RgreatestD_1 (w : World) : Calls Tryd.prog 143 #[fmD, .bool true] w (fun e w' => e = .returned (.int .u64 18442240474082181119) ∧ Within w w') := by
  have hp := fun (w' : World) => RputD_1 2046 4503599627370495 (by decide) (by decide) w'
  have HP := Lib.hid hp; clear hp
  go_enter Tryd.func143, Tryd.ntmps143
  go_wp2_with fail
  refine (HP.out _).mono ?_; rintro e1 w1 ⟨rfl, hb1⟩
  go_wp2
  go_ret
  exact ⟨ret_int (by rfl), (by repeat (first | with_reducible exact Within.refl _ | with_reducible assumption | with_reducible refine Within.alloc ?_ _ | with_reducible refine Within.drew ?_ | with_reducible refine Within.drewN ?_ _ | with_reducible refine Within.setCell ?_ (by first | (simp; done) | (simp; omega)) _ | with_reducible refine Within.trans ?_ (by assumption)))⟩

set_option maxRecDepth 100000 in
set_option maxHeartbeats 600000 in
theorem RnoneD (w : World) : Calls Tryd.prog 105 #[fmD] w (fun e w' => e = .returned (.int .u64 9221120237041090561) ∧ Within w w') := by
  go_enter Tryd.func105, Tryd.ntmps105
  go_wp2
  go_ret
  exact ⟨rfl, (by repeat (first | with_reducible exact Within.refl _ | with_reducible assumption | with_reducible refine Within.alloc ?_ _ | with_reducible refine Within.drew ?_ | with_reducible refine Within.drewN ?_ _ | with_reducible refine Within.setCell ?_ (by first | (simp; done) | (simp; omega)) _ | with_reducible refine Within.trans ?_ (by assumption)))⟩

set_option maxRecDepth 100000 in
set_option maxHeartbeats 600000 in
theorem RoverD_0z (mode : Int) (hm : mode = 2) (w : World) : Calls Tryd.prog 133 #[fmD, .bool false, .int .i64 mode] w (fun e w' => e = .returned (.int .u64 9218868437227405311) ∧ Within w w') := by
  subst hm
  go_enter Tryd.func133, Tryd.ntmps133
  go_wp2_with fail
  refine (RgreatestD_0 _).mono ?_; rintro e1 w1 ⟨rfl, hb1⟩
  go_wp2
  go_ret
  exact ⟨rfl, (by repeat (first | with_reducible exact Within.refl _ | with_reducible assumption | with_reducible refine Within.alloc ?_ _ | with_reducible refine Within.drew ?_ | with_reducible refine Within.drewN ?_ _ | with_reducible refine Within.setCell ?_ (by first | (simp; done) | (simp; omega)) _ | with_reducible refine Within.trans ?_ (by assumption)))⟩

set_option maxRecDepth 100000 in
set_option maxHeartbeats 600000 in
theorem RoverD_0u (mode : Int) (hm : mode = 3) (w : World) : Calls Tryd.prog 133 #[fmD, .bool false, .int .i64 mode] w (fun e w' => e = .returned (.int .u64 9218868437227405312) ∧ Within w w') := by
  subst hm
  go_enter Tryd.func133, Tryd.ntmps133
  go_wp2_with fail
  refine (RinfinityD_0 _).mono ?_; rintro e1 w1 ⟨rfl, hb1⟩
  go_wp2
  go_ret
  exact ⟨rfl, (by repeat (first | with_reducible exact Within.refl _ | with_reducible assumption | with_reducible refine Within.alloc ?_ _ | with_reducible refine Within.drew ?_ | with_reducible refine Within.drewN ?_ _ | with_reducible refine Within.setCell ?_ (by first | (simp; done) | (simp; omega)) _ | with_reducible refine Within.trans ?_ (by assumption)))⟩

set_option maxRecDepth 100000 in
set_option maxHeartbeats 600000 in
theorem RoverD_0d (mode : Int) (hm : mode = 4) (w : World) : Calls Tryd.prog 133 #[fmD, .bool false, .int .i64 mode] w (fun e w' => e = .returned (.int .u64 9218868437227405311) ∧ Within w w') := by
  subst hm
  go_enter Tryd.func133, Tryd.ntmps133
  go_wp2_with fail
  refine (RgreatestD_0 _).mono ?_; rintro e1 w1 ⟨rfl, hb1⟩
  go_wp2
  go_ret
  exact ⟨rfl, (by repeat (first | with_reducible exact Within.refl _ | with_reducible assumption | with_reducible refine Within.alloc ?_ _ | with_reducible refine Within.drew ?_ | with_reducible refine Within.drewN ?_ _ | with_reducible refine Within.setCell ?_ (by first | (simp; done) | (simp; omega)) _ | with_reducible refine Within.trans ?_ (by assumption)))⟩

set_option maxRecDepth 100000 in
set_option maxHeartbeats 600000 in
theorem RoverD_0o (mode : Int) (h2 : (mode == 2) = false) (h3 : (mode == 3) = false) (h4 : (mode == 4) = false) (w : World) : Calls Tryd.prog 133 #[fmD, .bool false, .int .i64 mode] w (fun e w' => e = .returned (.int .u64 9218868437227405312) ∧ Within w w') := by
  go_enter Tryd.func133, Tryd.ntmps133
  go_wp2_with fail
  refine (RinfinityD_0 _).mono ?_; rintro e1 w1 ⟨rfl, hb1⟩
  go_wp2
  go_ret
  exact ⟨rfl, (by repeat (first | with_reducible exact Within.refl _ | with_reducible assumption | with_reducible refine Within.alloc ?_ _ | with_reducible refine Within.drew ?_ | with_reducible refine Within.drewN ?_ _ | with_reducible refine Within.setCell ?_ (by first | (simp; done) | (simp; omega)) _ | with_reducible refine Within.trans ?_ (by assumption)))⟩

set_option maxRecDepth 100000 in
set_option maxHeartbeats 600000 in
theorem RoverD_1z (mode : Int) (hm : mode = 2) (w : World) : Calls Tryd.prog 133 #[fmD, .bool true, .int .i64 mode] w (fun e w' => e = .returned (.int .u64 18442240474082181119) ∧ Within w w') := by
  subst hm
  go_enter Tryd.func133, Tryd.ntmps133
  go_wp2_with fail
  refine (RgreatestD_1 _).mono ?_; rintro e1 w1 ⟨rfl, hb1⟩
  go_wp2
  go_ret
  exact ⟨rfl, (by repeat (first | with_reducible exact Within.refl _ | with_reducible assumption | with_reducible refine Within.alloc ?_ _ | with_reducible refine Within.drew ?_ | with_reducible refine Within.drewN ?_ _ | with_reducible refine Within.setCell ?_ (by first | (simp; done) | (simp; omega)) _ | with_reducible refine Within.trans ?_ (by assumption)))⟩

set_option maxRecDepth 100000 in
set_option maxHeartbeats 600000 in
theorem RoverD_1u (mode : Int) (hm : mode = 3) (w : World) : Calls Tryd.prog 133 #[fmD, .bool true, .int .i64 mode] w (fun e w' => e = .returned (.int .u64 18442240474082181119) ∧ Within w w') := by
  subst hm
  go_enter Tryd.func133, Tryd.ntmps133
  go_wp2_with fail
  refine (RgreatestD_1 _).mono ?_; rintro e1 w1 ⟨rfl, hb1⟩
  go_wp2
  go_ret
  exact ⟨rfl, (by repeat (first | with_reducible exact Within.refl _ | with_reducible assumption | with_reducible refine Within.alloc ?_ _ | with_reducible refine Within.drew ?_ | with_reducible refine Within.drewN ?_ _ | with_reducible refine Within.setCell ?_ (by first | (simp; done) | (simp; omega)) _ | with_reducible refine Within.trans ?_ (by assumption)))⟩

set_option maxRecDepth 100000 in
set_option maxHeartbeats 600000 in
theorem RoverD_1d (mode : Int) (hm : mode = 4) (w : World) : Calls Tryd.prog 133 #[fmD, .bool true, .int .i64 mode] w (fun e w' => e = .returned (.int .u64 18442240474082181120) ∧ Within w w') := by
  subst hm
  go_enter Tryd.func133, Tryd.ntmps133
  go_wp2_with fail
  refine (RinfinityD_1 _).mono ?_; rintro e1 w1 ⟨rfl, hb1⟩
  go_wp2
  go_ret
  exact ⟨rfl, (by repeat (first | with_reducible exact Within.refl _ | with_reducible assumption | with_reducible refine Within.alloc ?_ _ | with_reducible refine Within.drew ?_ | with_reducible refine Within.drewN ?_ _ | with_reducible refine Within.setCell ?_ (by first | (simp; done) | (simp; omega)) _ | with_reducible refine Within.trans ?_ (by assumption)))⟩

set_option maxRecDepth 100000 in
set_option maxHeartbeats 600000 in
theorem RoverD_1o (mode : Int) (h2 : (mode == 2) = false) (h3 : (mode == 3) = false) (h4 : (mode == 4) = false) (w : World) : Calls Tryd.prog 133 #[fmD, .bool true, .int .i64 mode] w (fun e w' => e = .returned (.int .u64 18442240474082181120) ∧ Within w w') := by
  go_enter Tryd.func133, Tryd.ntmps133
  go_wp2_with fail
  refine (RinfinityD_1 _).mono ?_; rintro e1 w1 ⟨rfl, hb1⟩
  go_wp2
  go_ret
  exact ⟨rfl, (by repeat (first | with_reducible exact Within.refl _ | with_reducible assumption | with_reducible refine Within.alloc ?_ _ | with_reducible refine Within.drew ?_ | with_reducible refine Within.drewN ?_ _ | with_reducible refine Within.setCell ?_ (by first | (simp; done) | (simp; omega)) _ | with_reducible refine Within.trans ?_ (by assumption)))⟩

theorem RoverD (ng : Bool) (mode : Int) (w : World) : Calls Tryd.prog 133 #[fmD, .bool ng, .int .i64 mode] w (fun e w' => e = .returned (.int .u64 (((if topR ng mode then 9218868437227405311 else 9218868437227405312) + (if ng then 9223372036854775808 else 0) : Nat) : Int)) ∧ Within w w') := by
  by_cases h2 : mode = 2
  · subst h2; cases ng
    · exact RoverD_0z 2 rfl w
    · exact RoverD_1z 2 rfl w
  by_cases h3 : mode = 3
  · subst h3; cases ng
    · exact RoverD_0u 3 rfl w
    · exact RoverD_1u 3 rfl w
  by_cases h4 : mode = 4
  · subst h4; cases ng
    · exact RoverD_0d 4 rfl w
    · exact RoverD_1d 4 rfl w
  have e : topR ng mode = false := by unfold topR; simp [h2, h3, h4]
  rw [e]
  cases ng
  · exact RoverD_0o mode (beq_eq_false_iff_ne.2 h2) (beq_eq_false_iff_ne.2 h3) (beq_eq_false_iff_ne.2 h4) w
  · exact RoverD_1o mode (beq_eq_false_iff_ne.2 h2) (beq_eq_false_iff_ne.2 h3) (beq_eq_false_iff_ne.2 h4) w

set_option maxRecDepth 100000 in
set_option maxHeartbeats 600000 in
theorem RputS_0 (fd fr : Nat) (hfd : fd < 256) (hfr : fr < 8388608) (w : World) : Calls Tryd.prog 127 #[fmS, .bool false, .int .i64 (fd : Int), .int .u64 (fr : Int)] w (fun e w' => e = .returned (.int .u64 ((fd * 8388608 + fr : Nat) : Int)) ∧ Within w w') := by
  have HH := Lib.hid (And.intro hfd hfr)
  have j1 : bits .or .u64 ((fd : Int) * 8388608) (fr : Int) = ((fd * 8388608 + fr : Nat) : Int) := by rw [show (fd : Int) * 8388608 = ((fd * 8388608 : Nat) : Int) by simp]; exact u64_join 23 _ _ (by omega) (by omega) (by rw [show (2 : Nat) ^ 23 = 8388608 from rfl]; omega) (by rw [show (2 : Nat) ^ 23 = 8388608 from rfl]; omega)
  have j2 : bits .or .u64 ((fd * 8388608 + fr : Nat) : Int) 2147483648 = ((fd * 8388608 + fr + 2147483648 : Nat) : Int) := by rw [show (2147483648 : Int) = ((2147483648 : Nat) : Int) from rfl, u64_or_nat _ _ (by omega) (by decide), Nat.or_comm, nat_join 31 _ _ (by decide) (by rw [show (2 : Nat) ^ 31 = 2147483648 from rfl]; omega), Nat.add_comm]
  have g1 : IntKind.u64.wrap ((fd : Int) * 8388608) = (fd : Int) * 8388608 := by rw [IntKind.wrap_u64]; omega
  obtain ⟨a, ha⟩ : ∃ a : Nat, a = fd * 8388608 + fr := ⟨_, rfl⟩
  rw [← ha] at j1 j2 ⊢
  have HA := Lib.hid ha; clear ha hfr
  go_enter Tryd.func127, Tryd.ntmps127
  go_wp2
  go_ret
  exact ⟨rfl, (by repeat (first | with_reducible exact Within.refl _ | with_reducible assumption | with_reducible refine Within.alloc ?_ _ | with_reducible refine Within.drew ?_ | with_reducible refine Within.drewN ?_ _ | with_reducible refine Within.setCell ?_ (by first | (simp; done) | (simp; omega)) _ | with_reducible refine Within.trans ?_ (by assumption)))⟩

set_option maxRecDepth 100000 in
set_option maxHeartbeats 600000 in
theorem RputS_1 (fd fr : Nat) (hfd : fd < 256) (hfr : fr < 8388608) (w : World) : Calls Tryd.prog 127 #[fmS, .bool true, .int .i64 (fd : Int), .int .u64 (fr : Int)] w (fun e w' => e = .returned (.int .u64 ((fd * 8388608 + fr + 2147483648 : Nat) : Int)) ∧ Within w w') := by
  have HH := Lib.hid (And.intro hfd hfr)
  have j1 : bits .or .u64 ((fd : Int) * 8388608) (fr : Int) = ((fd * 8388608 + fr : Nat) : Int) := by rw [show (fd : Int) * 8388608 = ((fd * 8388608 : Nat) : Int) by simp]; exact u64_join 23 _ _ (by omega) (by omega) (by rw [show (2 : Nat) ^ 23 = 8388608 from rfl]; omega) (by rw [show (2 : Nat) ^ 23 = 8388608 from rfl]; omega)
  have j2 : bits .or .u64 ((fd * 8388608 + fr : Nat) : Int) 2147483648 = ((fd * 8388608 + fr + 2147483648 : Nat) : Int) := by rw [show (2147483648 : Int) = ((2147483648 : Nat) : Int) from rfl, u64_or_nat _ _ (by omega) (by decide), Nat.or_comm, nat_join 31 _ _ (by decide) (by rw [show (2 : Nat) ^ 31 = 2147483648 from rfl]; omega), Nat.add_comm]
  have g1 : IntKind.u64.wrap ((fd : Int) * 8388608) = (fd : Int) * 8388608 := by rw [IntKind.wrap_u64]; omega
  obtain ⟨a, ha⟩ : ∃ a : Nat, a = fd * 8388608 + fr := ⟨_, rfl⟩
  rw [← ha] at j1 j2 ⊢
  have HA := Lib.hid ha; clear ha hfr
  go_enter Tryd.func127, Tryd.ntmps127
  go_wp2
  go_ret
  exact ⟨rfl, (by repeat (first | with_reducible exact Within.refl _ | with_reducible assumption | with_reducible refine Within.alloc ?_ _ | with_reducible refine Within.drew ?_ | with_reducible refine Within.drewN ?_ _ | with_reducible refine Within.setCell ?_ (by first | (simp; done) | (simp; omega)) _ | with_reducible refine Within.trans ?_ (by assumption)))⟩

theorem RputS (ng : Bool) (fd fr : Nat) (hfd : fd < 256) (hfr : fr < 8388608) (w : World) : Calls Tryd.prog 127 #[fmS, .bool ng, .int .i64 (fd : Int), .int .u64 (fr : Int)] w (fun e w' => e = .returned (.int .u64 ((fd * 8388608 + fr + (if ng then 2147483648 else 0) : Nat) : Int)) ∧ Within w w') := by
  cases ng
  · rw [if_neg Bool.false_ne_true, Nat.add_zero]; exact RputS_0 fd fr hfd hfr w
  · rw [if_pos rfl]; exact RputS_1 fd fr hfd hfr w

set_option maxRecDepth 100000 in
set_option maxHeartbeats 600000 in
theorem RnoughtS_0 (w : World) : Calls Tryd.prog 108 #[fmS, .bool false] w (fun e w' => e = .returned (.int .u64 0) ∧ Within w w') := by
  have hp := fun (w' : World) => RputS_0 0 0 (by decide) (by decide) w'
  have HP := Lib.hid hp; clear hp
  go_enter Tryd.func108, Tryd.ntmps108
  go_wp2_with fail
  refine (HP.out _).mono ?_; rintro e1 w1 ⟨rfl, hb1⟩
  go_wp2
  go_ret
  exact ⟨ret_int (by rfl), (by repeat (first | with_reducible exact Within.refl _ | with_reducible assumption | with_reducible refine Within.alloc ?_ _ | with_reducible refine Within.drew ?_ | with_reducible refine Within.drewN ?_ _ | with_reducible refine Within.setCell ?_ (by first | (simp; done) | (simp; omega)) _ | with_reducible refine Within.trans ?_ (by assumption)))⟩

set_option maxRecDepth 100000 in
set_option maxHeartbeats 600000 in
theorem RnoughtS_1 (w : World) : Calls Tryd.prog 108 #[fmS, .bool true] w (fun e w' => e = .returned (.int .u64 2147483648) ∧ Within w w') := by
  have hp := fun (w' : World) => RputS_1 0 0 (by decide) (by decide) w'
  have HP := Lib.hid hp; clear hp
  go_enter Tryd.func108, Tryd.ntmps108
  go_wp2_with fail
  refine (HP.out _).mono ?_; rintro e1 w1 ⟨rfl, hb1⟩
  go_wp2
  go_ret
  exact ⟨ret_int (by rfl), (by repeat (first | with_reducible exact Within.refl _ | with_reducible assumption | with_reducible refine Within.alloc ?_ _ | with_reducible refine Within.drew ?_ | with_reducible refine Within.drewN ?_ _ | with_reducible refine Within.setCell ?_ (by first | (simp; done) | (simp; omega)) _ | with_reducible refine Within.trans ?_ (by assumption)))⟩

set_option maxRecDepth 100000 in
set_option maxHeartbeats 600000 in
theorem RinfinityS_0 (w : World) : Calls Tryd.prog 106 #[fmS, .bool false] w (fun e w' => e = .returned (.int .u64 2139095040) ∧ Within w w') := by
  have hp := fun (w' : World) => RputS_0 255 0 (by decide) (by decide) w'
  have HP := Lib.hid hp; clear hp
  go_enter Tryd.func106, Tryd.ntmps106
  go_wp2_with fail
  refine (HP.out _).mono ?_; rintro e1 w1 ⟨rfl, hb1⟩
  go_wp2
  go_ret
  exact ⟨ret_int (by rfl), (by repeat (first | with_reducible exact Within.refl _ | with_reducible assumption | with_reducible refine Within.alloc ?_ _ | with_reducible refine Within.drew ?_ | with_reducible refine Within.drewN ?_ _ | with_reducible refine Within.setCell ?_ (by first | (simp; done) | (simp; omega)) _ | with_reducible refine Within.trans ?_ (by assumption)))⟩

set_option maxRecDepth 100000 in
set_option maxHeartbeats 600000 in
theorem RinfinityS_1 (w : World) : Calls Tryd.prog 106 #[fmS, .bool true] w (fun e w' => e = .returned (.int .u64 4286578688) ∧ Within w w') := by
  have hp := fun (w' : World) => RputS_1 255 0 (by decide) (by decide) w'
  have HP := Lib.hid hp; clear hp
  go_enter Tryd.func106, Tryd.ntmps106
  go_wp2_with fail
  refine (HP.out _).mono ?_; rintro e1 w1 ⟨rfl, hb1⟩
  go_wp2
  go_ret
  exact ⟨ret_int (by rfl), (by repeat (first | with_reducible exact Within.refl _ | with_reducible assumption | with_reducible refine Within.alloc ?_ _ | with_reducible refine Within.drew ?_ | with_reducible refine Within.drewN ?_ _ | with_reducible refine Within.setCell ?_ (by first | (simp; done) | (simp; omega)) _ | with_reducible refine Within.trans ?_ (by assumption)))⟩

set_option maxRecDepth 100000 in
set_option maxHeartbeats 600000 in
theorem RgreatestS_0 (w : World) : Calls Tryd.prog 143 #[fmS, .bool false] w (fun e w' => e = .returned (.int .u64 2139095039) ∧ Within w w') := by
  have hp := fun (w' : World) => RputS_0 254 8388607 (by decide) (by decide) w'
  have HP := Lib.hid hp; clear hp
  go_enter Tryd.func143, Tryd.ntmps143
  go_wp2_with fail
  refine (HP.out _).mono ?_; rintro e1 w1 ⟨rfl, hb1⟩
  go_wp2
  go_ret
  exact ⟨ret_int (by rfl), (by repeat (first | with_reducible exact Within.refl _ | with_reducible assumption | with_reducible refine Within.alloc ?_ _ | with_reducible refine Within.drew ?_ | with_reducible refine Within.drewN ?_ _ | with_reducible refine Within.setCell ?_ (by first | (simp; done) | (simp; omega)) _ | with_reducible refine Within.trans ?_ (by assumption)))⟩

set_option maxRecDepth 100000 in
set_option maxHeartbeats 600000 in
theorem RgreatestS_1 (w : World) : Calls Tryd.prog 143 #[fmS, .bool true] w (fun e w' => e = .returned (.int .u64 4286578687) ∧ Within w w') := by
  have hp := fun (w' : World) => RputS_1 254 8388607 (by decide) (by decide) w'
  have HP := Lib.hid hp; clear hp
  go_enter Tryd.func143, Tryd.ntmps143
  go_wp2_with fail
  refine (HP.out _).mono ?_; rintro e1 w1 ⟨rfl, hb1⟩
  go_wp2
  go_ret
  exact ⟨ret_int (by rfl), (by repeat (first | with_reducible exact Within.refl _ | with_reducible assumption | with_reducible refine Within.alloc ?_ _ | with_reducible refine Within.drew ?_ | with_reducible refine Within.drewN ?_ _ | with_reducible refine Within.setCell ?_ (by first | (simp; done) | (simp; omega)) _ | with_reducible refine Within.trans ?_ (by assumption)))⟩

set_option maxRecDepth 100000 in
set_option maxHeartbeats 600000 in
theorem RnoneS (w : World) : Calls Tryd.prog 105 #[fmS] w (fun e w' => e = .returned (.int .u64 2143289344) ∧ Within w w') := by
  go_enter Tryd.func105, Tryd.ntmps105
  go_wp2
  go_ret
  exact ⟨rfl, (by repeat (first | with_reducible exact Within.refl _ | with_reducible assumption | with_reducible refine Within.alloc ?_ _ | with_reducible refine Within.drew ?_ | with_reducible refine Within.drewN ?_ _ | with_reducible refine Within.setCell ?_ (by first | (simp; done) | (simp; omega)) _ | with_reducible refine Within.trans ?_ (by assumption)))⟩

set_option maxRecDepth 100000 in
set_option maxHeartbeats 600000 in
theorem RoverS_0z (mode : Int) (hm : mode = 2) (w : World) : Calls Tryd.prog 133 #[fmS, .bool false, .int .i64 mode] w (fun e w' => e = .returned (.int .u64 2139095039) ∧ Within w w') := by
  subst hm
  go_enter Tryd.func133, Tryd.ntmps133
  go_wp2_with fail
  refine (RgreatestS_0 _).mono ?_; rintro e1 w1 ⟨rfl, hb1⟩
  go_wp2
  go_ret
  exact ⟨rfl, (by repeat (first | with_reducible exact Within.refl _ | with_reducible assumption | with_reducible refine Within.alloc ?_ _ | with_reducible refine Within.drew ?_ | with_reducible refine Within.drewN ?_ _ | with_reducible refine Within.setCell ?_ (by first | (simp; done) | (simp; omega)) _ | with_reducible refine Within.trans ?_ (by assumption)))⟩

set_option maxRecDepth 100000 in
set_option maxHeartbeats 600000 in
theorem RoverS_0u (mode : Int) (hm : mode = 3) (w : World) : Calls Tryd.prog 133 #[fmS, .bool false, .int .i64 mode] w (fun e w' => e = .returned (.int .u64 2139095040) ∧ Within w w') := by
  subst hm
  go_enter Tryd.func133, Tryd.ntmps133
  go_wp2_with fail
  refine (RinfinityS_0 _).mono ?_; rintro e1 w1 ⟨rfl, hb1⟩
  go_wp2
  go_ret
  exact ⟨rfl, (by repeat (first | with_reducible exact Within.refl _ | with_reducible assumption | with_reducible refine Within.alloc ?_ _ | with_reducible refine Within.drew ?_ | with_reducible refine Within.drewN ?_ _ | with_reducible refine Within.setCell ?_ (by first | (simp; done) | (simp; omega)) _ | with_reducible refine Within.trans ?_ (by assumption)))⟩

set_option maxRecDepth 100000 in
set_option maxHeartbeats 600000 in
theorem RoverS_0d (mode : Int) (hm : mode = 4) (w : World) : Calls Tryd.prog 133 #[fmS, .bool false, .int .i64 mode] w (fun e w' => e = .returned (.int .u64 2139095039) ∧ Within w w') := by
  subst hm
  go_enter Tryd.func133, Tryd.ntmps133
  go_wp2_with fail
  refine (RgreatestS_0 _).mono ?_; rintro e1 w1 ⟨rfl, hb1⟩
  go_wp2
  go_ret
  exact ⟨rfl, (by repeat (first | with_reducible exact Within.refl _ | with_reducible assumption | with_reducible refine Within.alloc ?_ _ | with_reducible refine Within.drew ?_ | with_reducible refine Within.drewN ?_ _ | with_reducible refine Within.setCell ?_ (by first | (simp; done) | (simp; omega)) _ | with_reducible refine Within.trans ?_ (by assumption)))⟩

set_option maxRecDepth 100000 in
set_option maxHeartbeats 600000 in
theorem RoverS_0o (mode : Int) (h2 : (mode == 2) = false) (h3 : (mode == 3) = false) (h4 : (mode == 4) = false) (w : World) : Calls Tryd.prog 133 #[fmS, .bool false, .int .i64 mode] w (fun e w' => e = .returned (.int .u64 2139095040) ∧ Within w w') := by
  go_enter Tryd.func133, Tryd.ntmps133
  go_wp2_with fail
  refine (RinfinityS_0 _).mono ?_; rintro e1 w1 ⟨rfl, hb1⟩
  go_wp2
  go_ret
  exact ⟨rfl, (by repeat (first | with_reducible exact Within.refl _ | with_reducible assumption | with_reducible refine Within.alloc ?_ _ | with_reducible refine Within.drew ?_ | with_reducible refine Within.drewN ?_ _ | with_reducible refine Within.setCell ?_ (by first | (simp; done) | (simp; omega)) _ | with_reducible refine Within.trans ?_ (by assumption)))⟩

set_option maxRecDepth 100000 in
set_option maxHeartbeats 600000 in
theorem RoverS_1z (mode : Int) (hm : mode = 2) (w : World) : Calls Tryd.prog 133 #[fmS, .bool true, .int .i64 mode] w (fun e w' => e = .returned (.int .u64 4286578687) ∧ Within w w') := by
  subst hm
  go_enter Tryd.func133, Tryd.ntmps133
  go_wp2_with fail
  refine (RgreatestS_1 _).mono ?_; rintro e1 w1 ⟨rfl, hb1⟩
  go_wp2
  go_ret
  exact ⟨rfl, (by repeat (first | with_reducible exact Within.refl _ | with_reducible assumption | with_reducible refine Within.alloc ?_ _ | with_reducible refine Within.drew ?_ | with_reducible refine Within.drewN ?_ _ | with_reducible refine Within.setCell ?_ (by first | (simp; done) | (simp; omega)) _ | with_reducible refine Within.trans ?_ (by assumption)))⟩

set_option maxRecDepth 100000 in
set_option maxHeartbeats 600000 in
theorem RoverS_1u (mode : Int) (hm : mode = 3) (w : World) : Calls Tryd.prog 133 #[fmS, .bool true, .int .i64 mode] w (fun e w' => e = .returned (.int .u64 4286578687) ∧ Within w w') := by
  subst hm
  go_enter Tryd.func133, Tryd.ntmps133
  go_wp2_with fail
  refine (RgreatestS_1 _).mono ?_; rintro e1 w1 ⟨rfl, hb1⟩
  go_wp2
  go_ret
  exact ⟨rfl, (by repeat (first | with_reducible exact Within.refl _ | with_reducible assumption | with_reducible refine Within.alloc ?_ _ | with_reducible refine Within.drew ?_ | with_reducible refine Within.drewN ?_ _ | with_reducible refine Within.setCell ?_ (by first | (simp; done) | (simp; omega)) _ | with_reducible refine Within.trans ?_ (by assumption)))⟩

set_option maxRecDepth 100000 in
set_option maxHeartbeats 600000 in
theorem RoverS_1d (mode : Int) (hm : mode = 4) (w : World) : Calls Tryd.prog 133 #[fmS, .bool true, .int .i64 mode] w (fun e w' => e = .returned (.int .u64 4286578688) ∧ Within w w') := by
  subst hm
  go_enter Tryd.func133, Tryd.ntmps133
  go_wp2_with fail
  refine (RinfinityS_1 _).mono ?_; rintro e1 w1 ⟨rfl, hb1⟩
  go_wp2
  go_ret
  exact ⟨rfl, (by repeat (first | with_reducible exact Within.refl _ | with_reducible assumption | with_reducible refine Within.alloc ?_ _ | with_reducible refine Within.drew ?_ | with_reducible refine Within.drewN ?_ _ | with_reducible refine Within.setCell ?_ (by first | (simp; done) | (simp; omega)) _ | with_reducible refine Within.trans ?_ (by assumption)))⟩

set_option maxRecDepth 100000 in
set_option maxHeartbeats 600000 in
theorem RoverS_1o (mode : Int) (h2 : (mode == 2) = false) (h3 : (mode == 3) = false) (h4 : (mode == 4) = false) (w : World) : Calls Tryd.prog 133 #[fmS, .bool true, .int .i64 mode] w (fun e w' => e = .returned (.int .u64 4286578688) ∧ Within w w') := by
  go_enter Tryd.func133, Tryd.ntmps133
  go_wp2_with fail
  refine (RinfinityS_1 _).mono ?_; rintro e1 w1 ⟨rfl, hb1⟩
  go_wp2
  go_ret
  exact ⟨rfl, (by repeat (first | with_reducible exact Within.refl _ | with_reducible assumption | with_reducible refine Within.alloc ?_ _ | with_reducible refine Within.drew ?_ | with_reducible refine Within.drewN ?_ _ | with_reducible refine Within.setCell ?_ (by first | (simp; done) | (simp; omega)) _ | with_reducible refine Within.trans ?_ (by assumption)))⟩

theorem RoverS (ng : Bool) (mode : Int) (w : World) : Calls Tryd.prog 133 #[fmS, .bool ng, .int .i64 mode] w (fun e w' => e = .returned (.int .u64 (((if topR ng mode then 2139095039 else 2139095040) + (if ng then 2147483648 else 0) : Nat) : Int)) ∧ Within w w') := by
  by_cases h2 : mode = 2
  · subst h2; cases ng
    · exact RoverS_0z 2 rfl w
    · exact RoverS_1z 2 rfl w
  by_cases h3 : mode = 3
  · subst h3; cases ng
    · exact RoverS_0u 3 rfl w
    · exact RoverS_1u 3 rfl w
  by_cases h4 : mode = 4
  · subst h4; cases ng
    · exact RoverS_0d 4 rfl w
    · exact RoverS_1d 4 rfl w
  have e : topR ng mode = false := by unfold topR; simp [h2, h3, h4]
  rw [e]
  cases ng
  · exact RoverS_0o mode (beq_eq_false_iff_ne.2 h2) (beq_eq_false_iff_ne.2 h3) (beq_eq_false_iff_ne.2 h4) w
  · exact RoverS_1o mode (beq_eq_false_iff_ne.2 h2) (beq_eq_false_iff_ne.2 h3) (beq_eq_false_iff_ne.2 h4) w

set_option maxRecDepth 100000 in
set_option maxHeartbeats 600000 in
theorem Rknown_yes (mode : Int) (h : 0 ≤ mode ∧ mode ≤ 4) (w : World) : Calls Tryd.prog 72 #[.int .i64 mode] w (fun e w' => e = .returned (.bool true) ∧ w = w') := by
  have d1 : decide (mode ≥ 0) = true := decide_eq_true h.1
  have d2 : decide (mode ≤ 4) = true := decide_eq_true h.2
  clear h
  go_enter Tryd.func72, Tryd.ntmps72
  go_wp2
  go_ret
  exact ⟨rfl, rfl⟩

set_option maxRecDepth 100000 in
set_option maxHeartbeats 600000 in
theorem Rknown_low (mode : Int) (h : mode < 0) (w : World) : Calls Tryd.prog 72 #[.int .i64 mode] w (fun e w' => e = .returned (.bool false) ∧ w = w') := by
  have d1 : decide (mode ≥ 0) = false := decide_eq_false (by omega)
  clear h
  go_enter Tryd.func72, Tryd.ntmps72
  go_wp2
  go_ret
  exact ⟨rfl, rfl⟩

set_option maxRecDepth 100000 in
set_option maxHeartbeats 600000 in
theorem Rknown_high (mode : Int) (h : 4 < mode) (w : World) : Calls Tryd.prog 72 #[.int .i64 mode] w (fun e w' => e = .returned (.bool false) ∧ w = w') := by
  have d1 : decide (mode ≥ 0) = true := decide_eq_true (by omega)
  have d2 : decide (mode ≤ 4) = false := decide_eq_false (by omega)
  clear h
  go_enter Tryd.func72, Tryd.ntmps72
  go_wp2
  go_ret
  exact ⟨rfl, rfl⟩

theorem Rknown (mode : Int) (w : World) : Calls Tryd.prog 72 #[.int .i64 mode] w (fun e w' => e = .returned (.bool (decide (0 ≤ mode ∧ mode ≤ 4))) ∧ w = w') := by
  by_cases h : 0 ≤ mode ∧ mode ≤ 4
  · rw [decide_eq_true h]; exact Rknown_yes mode h w
  · rw [decide_eq_false h]
    by_cases h1 : mode < 0
    · exact Rknown_low mode h1 w
    · exact Rknown_high mode (by omega) w
end Go.Proofs.YtifgngmebnjfkaaDoor
