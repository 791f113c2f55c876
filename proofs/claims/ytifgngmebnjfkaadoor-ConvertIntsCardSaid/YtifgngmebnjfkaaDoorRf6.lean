/- Package binnacleref02: same, Narrow, Widen, Fits: walks. -/
import Derived.Test.YtifgngmebnjfkaaDoorRf5
namespace Go.Proofs.YtifgngmebnjfkaaDoor
open Go.RowKit

/-- a number taken apart: kind, sign, digits, exponent, by its fraction and its field -/
def tK (top fr fd : Nat) : Int := if fd = top then (if fr = 0 then 1 else 2) else 0
def tN (top fr fd : Nat) (ng : Bool) : Bool := if fd = top ∧ fr ≠ 0 then false else ng
def tM (top hid fr fd : Nat) : Nat := if fd = top then 0 else if fd = 0 then fr else fr + hid
def tE (top : Nat) (lo : Int) (fr fd : Nat) : Int := if fd = top then (if fr = 0 then lo else 0) else if fd = 0 then lo else (fd : Int) - 1 + lo
def kD (b : Nat) : Int := tK 2047 (b % 4503599627370496) (b / 4503599627370496 % 2048)
def nD (b : Nat) : Bool := tN 2047 (b % 4503599627370496) (b / 4503599627370496 % 2048) (decide (9223372036854775808 ≤ b))
def mD (b : Nat) : Nat := tM 2047 4503599627370496 (b % 4503599627370496) (b / 4503599627370496 % 2048)
def eD (b : Nat) : Int := tE 2047 (-1074) (b % 4503599627370496) (b / 4503599627370496 % 2048)
theorem kD_range (b : Nat) : kD b = 0 ∨ kD b = 1 ∨ kD b = 2 := by unfold kD tK; split <;> (try split) <;> omega
theorem mD_lt (b : Nat) : mD b < 9007199254740992 := by unfold mD tM; split <;> (try split) <;> omega
theorem eD_range (b : Nat) : -1100 ≤ eD b ∧ eD b ≤ 1000 := by unfold eD tE; split <;> (try split) <;> omega
theorem RtakeXD (b : Nat) (hb : b < 18446744073709551616) (w : World) : Calls Tryd.prog 58 #[fmD, .int .u64 (b : Int)] w (fun e w' => ∃ g, e = .returned (.agg #[.int .i64 (kD b), .bool (nD b), .pointer (some ⟨g, 0, none⟩), .int .i64 (eD b)]) ∧ IntB w' g (mD b : Int) ∧ w.heap.size ≤ g ∧ Within w w') := RtakeD b hb w
def sWD (k : Int) (ng : Bool) (M : Nat) (e mode : Int) : Nat := if k = 2 then 9221120237041090561 else if k = 1 then 9218868437227405312 + (if ng then 9223372036854775808 else 0) else if M = 0 then (if ng then 9223372036854775808 else 0) else gWord 53 (-1074) 1023 9218868437227405311 9218868437227405312 4503599627370496 9223372036854775808 ng M e false mode
def sFD (k : Int) (ng : Bool) (M : Nat) (e mode : Int) : Int := if k = 2 then 0 else if k = 1 then 0 else if M = 0 then 0 else gFlags 53 (-1074) 1023 ng M e false mode
theorem sWD_nan (ng : Bool) (M : Nat) (e mode : Int) : sWD 2 ng M e mode = 9221120237041090561 := if_pos rfl
theorem sWD_inf (ng : Bool) (M : Nat) (e mode : Int) : sWD 1 ng M e mode = 9218868437227405312 + (if ng then 9223372036854775808 else 0) := by unfold sWD; rw [if_neg (show ¬ (1 : Int) = 2 by decide), if_pos rfl]
theorem sWD_zero (ng : Bool) (e mode : Int) : sWD 0 ng 0 e mode = (if ng then 9223372036854775808 else 0) := by unfold sWD; rw [if_neg (show ¬ (0 : Int) = 2 by decide), if_neg (show ¬ (0 : Int) = 1 by decide), if_pos rfl]
theorem sWD_main (ng : Bool) {M : Nat} (h : M ≠ 0) (e mode : Int) : sWD 0 ng M e mode = gWord 53 (-1074) 1023 9218868437227405311 9218868437227405312 4503599627370496 9223372036854775808 ng M e false mode := by unfold sWD; rw [if_neg (show ¬ (0 : Int) = 2 by decide), if_neg (show ¬ (0 : Int) = 1 by decide), if_neg h]
theorem sFD_nan (ng : Bool) (M : Nat) (e mode : Int) : sFD 2 ng M e mode = 0 := if_pos rfl
theorem sFD_inf (ng : Bool) (M : Nat) (e mode : Int) : sFD 1 ng M e mode = 0 := by unfold sFD; rw [if_neg (show ¬ (1 : Int) = 2 by decide), if_pos rfl]
theorem sFD_zero (ng : Bool) (e mode : Int) : sFD 0 ng 0 e mode = 0 := by unfold sFD; rw [if_neg (show ¬ (0 : Int) = 2 by decide), if_neg (show ¬ (0 : Int) = 1 by decide), if_pos rfl]
theorem sFD_main (ng : Bool) {M : Nat} (h : M ≠ 0) (e mode : Int) : sFD 0 ng M e mode = gFlags 53 (-1074) 1023 ng M e false mode := by unfold sFD; rw [if_neg (show ¬ (0 : Int) = 2 by decide), if_neg (show ¬ (0 : Int) = 1 by decide), if_neg h]
set_option maxRecDepth 100000 in
set_option maxHeartbeats 600000 in
theorem RsameD_nan (ng : Bool) (g : Nat) (e mode : Int) (w : World) : Calls Tryd.prog 73 #[fmD, .agg #[.int .i64 2, .bool ng, .pointer (some ⟨g, 0, none⟩), .int .i64 e], .int .i64 mode] w (fun e' w' => e' = .returned (.tuple #[.int .u64 (9221120237041090561), .int .i64 0]) ∧ Within w w') := by
  go_enter Tryd.func73, Tryd.ntmps73
  go_wp2_with fail
  refine (RnoneD _).mono ?_; rintro e1 w1 ⟨rfl, hb1⟩
  go_wp2
  go_ret2
  exact ⟨rfl, (by repeat (first | with_reducible exact Within.refl _ | with_reducible assumption | with_reducible refine Within.alloc ?_ _ | with_reducible refine Within.drew ?_ | with_reducible refine Within.drewN ?_ _ | with_reducible refine Within.setCell ?_ (by first | (simp; done) | (simp; omega)) _ | with_reducible refine Within.trans ?_ (by assumption)))⟩

set_option maxRecDepth 100000 in
set_option maxHeartbeats 600000 in
theorem RsameD_inf0 (g : Nat) (e mode : Int) (w : World) : Calls Tryd.prog 73 #[fmD, .agg #[.int .i64 1, .bool false, .pointer (some ⟨g, 0, none⟩), .int .i64 e], .int .i64 mode] w (fun e' w' => e' = .returned (.tuple #[.int .u64 (9218868437227405312), .int .i64 0]) ∧ Within w w') := by
  go_enter Tryd.func73, Tryd.ntmps73
  go_wp2_with fail
  refine (RinfinityD_0 _).mono ?_; rintro e1 w1 ⟨rfl, hb1⟩
  go_wp2
  go_ret2
  exact ⟨rfl, (by repeat (first | with_reducible exact Within.refl _ | with_reducible assumption | with_reducible refine Within.alloc ?_ _ | with_reducible refine Within.drew ?_ | with_reducible refine Within.drewN ?_ _ | with_reducible refine Within.setCell ?_ (by first | (simp; done) | (simp; omega)) _ | with_reducible refine Within.trans ?_ (by assumption)))⟩

set_option maxRecDepth 100000 in
set_option maxHeartbeats 600000 in
theorem RsameD_zero0 (g : Nat) (e mode : Int) (w : World) (hI : IntB w g 0) : Calls Tryd.prog 73 #[fmD, .agg #[.int .i64 0, .bool false, .pointer (some ⟨g, 0, none⟩), .int .i64 e], .int .i64 mode] w (fun e' w' => e' = .returned (.tuple #[.int .u64 (0), .int .i64 0]) ∧ Within w w') := by
  have IZ := fun (w' : World) (h : IntB w' g 0) => Riszero 0 e 0 false g w' h
  rw [show decide ((0 : Int) = 0 ∧ (0 : Int) = 0) = true from rfl] at IZ
  have HIZ := Lib.hid IZ; clear IZ
  go_enter Tryd.func73, Tryd.ntmps73
  go_wp2_with fail
  refine (HIZ.out _ (by repeat (first | with_reducible assumption | with_reducible exact ib_new _ _ (by simp; done) | with_reducible refine IntB.alloc ?_ _ | with_reducible refine IntB.drewN ?_ _))).mono ?_; rintro e1 w1 ⟨rfl, hb1⟩
  have hc1 := hb1.cells
  go_wp2_with fail
  refine (RnoughtD_0 _).mono ?_; rintro e2 w2 ⟨rfl, hb2⟩
  go_wp2
  go_ret2
  exact ⟨rfl, (by repeat (first | with_reducible exact Within.refl _ | with_reducible assumption | with_reducible refine Within.alloc ?_ _ | with_reducible refine Within.drew ?_ | with_reducible refine Within.drewN ?_ _ | with_reducible refine Within.setCell ?_ (by first | (simp; done) | (simp; omega)) _ | with_reducible refine Within.trans ?_ (by assumption)))⟩

set_option maxRecDepth 100000 in
set_option maxHeartbeats 600000 in
theorem RsameD_inf1 (g : Nat) (e mode : Int) (w : World) : Calls Tryd.prog 73 #[fmD, .agg #[.int .i64 1, .bool true, .pointer (some ⟨g, 0, none⟩), .int .i64 e], .int .i64 mode] w (fun e' w' => e' = .returned (.tuple #[.int .u64 (18442240474082181120), .int .i64 0]) ∧ Within w w') := by
  go_enter Tryd.func73, Tryd.ntmps73
  go_wp2_with fail
  refine (RinfinityD_1 _).mono ?_; rintro e1 w1 ⟨rfl, hb1⟩
  go_wp2
  go_ret2
  exact ⟨rfl, (by repeat (first | with_reducible exact Within.refl _ | with_reducible assumption | with_reducible refine Within.alloc ?_ _ | with_reducible refine Within.drew ?_ | with_reducible refine Within.drewN ?_ _ | with_reducible refine Within.setCell ?_ (by first | (simp; done) | (simp; omega)) _ | with_reducible refine Within.trans ?_ (by assumption)))⟩

set_option maxRecDepth 100000 in
set_option maxHeartbeats 600000 in
theorem RsameD_zero1 (g : Nat) (e mode : Int) (w : World) (hI : IntB w g 0) : Calls Tryd.prog 73 #[fmD, .agg #[.int .i64 0, .bool true, .pointer (some ⟨g, 0, none⟩), .int .i64 e], .int .i64 mode] w (fun e' w' => e' = .returned (.tuple #[.int .u64 (9223372036854775808), .int .i64 0]) ∧ Within w w') := by
  have IZ := fun (w' : World) (h : IntB w' g 0) => Riszero 0 e 0 true g w' h
  rw [show decide ((0 : Int) = 0 ∧ (0 : Int) = 0) = true from rfl] at IZ
  have HIZ := Lib.hid IZ; clear IZ
  go_enter Tryd.func73, Tryd.ntmps73
  go_wp2_with fail
  refine (HIZ.out _ (by repeat (first | with_reducible assumption | with_reducible exact ib_new _ _ (by simp; done) | with_reducible refine IntB.alloc ?_ _ | with_reducible refine IntB.drewN ?_ _))).mono ?_; rintro e1 w1 ⟨rfl, hb1⟩
  have hc1 := hb1.cells
  go_wp2_with fail
  refine (RnoughtD_1 _).mono ?_; rintro e2 w2 ⟨rfl, hb2⟩
  go_wp2
  go_ret2
  exact ⟨rfl, (by repeat (first | with_reducible exact Within.refl _ | with_reducible assumption | with_reducible refine Within.alloc ?_ _ | with_reducible refine Within.drew ?_ | with_reducible refine Within.drewN ?_ _ | with_reducible refine Within.setCell ?_ (by first | (simp; done) | (simp; omega)) _ | with_reducible refine Within.trans ?_ (by assumption)))⟩

set_option maxRecDepth 100000 in
set_option maxHeartbeats 600000 in
theorem RsameD_main (ng : Bool) (g M W : Nat) (e mode F : Int) (hM0 : M ≠ 0) (w : World) (hI : IntB w g (M : Int)) (RR : Hid (∀ w, IntB w g (M : Int) → Calls Tryd.prog 109 #[fmD, .bool ng, .pointer (some ⟨g, 0, none⟩), .int .i64 e, .bool false, .int .i64 mode] w (fun e' w' => e' = .returned (.tuple #[.int .u64 (W : Int), .int .i64 F]) ∧ Within w w'))) : Calls Tryd.prog 73 #[fmD, .agg #[.int .i64 0, .bool ng, .pointer (some ⟨g, 0, none⟩), .int .i64 e], .int .i64 mode] w (fun e' w' => e' = .returned (.tuple #[.int .u64 ((W : Int)), .int .i64 F]) ∧ Within w w') := by
  have IZ := fun (w' : World) (h : IntB w' g (M : Int)) => Riszero 0 e M ng g w' h
  rw [decide_eq_false (fun h => hM0 (by have := h.2; omega))] at IZ
  have HIZ := Lib.hid IZ; clear IZ
  go_enter Tryd.func73, Tryd.ntmps73
  go_wp2_with fail
  refine (HIZ.out _ (by repeat (first | with_reducible assumption | with_reducible exact ib_new _ _ (by simp; done) | with_reducible refine IntB.alloc ?_ _ | with_reducible refine IntB.drewN ?_ _))).mono ?_; rintro e1 w1 ⟨rfl, hb1⟩
  have hc1 := hb1.cells
  have hI1 : IntB w1 g (M : Int) := ((hI.alloc _).alloc _).of hb1
  go_wp2_with fail
  refine (RR.out _ hI1).mono ?_; rintro e2 w2 ⟨rfl, hb2⟩
  go_wp2
  go_ret2
  exact ⟨rfl, (by repeat (first | with_reducible exact Within.refl _ | with_reducible assumption | with_reducible refine Within.alloc ?_ _ | with_reducible refine Within.drew ?_ | with_reducible refine Within.drewN ?_ _ | with_reducible refine Within.setCell ?_ (by first | (simp; done) | (simp; omega)) _ | with_reducible refine Within.trans ?_ (by assumption)))⟩

theorem RsameD (k : Int) (ng : Bool) (g M : Nat) (e mode : Int) (hk : k = 0 ∨ k = 1 ∨ k = 2) (he : -50000 ≤ e ∧ e ≤ 50000) (hM : (dg M).length ≤ 900) (w : World) (hI : IntB w g (M : Int)) : Calls Tryd.prog 73 #[fmD, .agg #[.int .i64 k, .bool ng, .pointer (some ⟨g, 0, none⟩), .int .i64 e], .int .i64 mode] w (fun e' w' => e' = .returned (.tuple #[.int .u64 ((sWD k ng M e mode : Int)), .int .i64 (sFD k ng M e mode)]) ∧ Within w w') := by
  rcases hk with rfl | rfl | rfl
  · by_cases h : M = 0
    · subst h
      rw [sWD_zero, sFD_zero]
      cases ng
      · exact RsameD_zero0 g e mode w hI
      · exact RsameD_zero1 g e mode w hI
    · rw [sWD_main ng h, sFD_main ng h]
      exact RsameD_main ng g M _ e mode _ h w hI (Lib.hid fun w' hI' => RroundD ng false g M e mode he hM h w' hI')
  · rw [sWD_inf, sFD_inf]
    cases ng
    · exact RsameD_inf0 g e mode w
    · exact RsameD_inf1 g e mode w
  · rw [sWD_nan, sFD_nan]
    exact RsameD_nan ng g e mode w

def kS (b : Nat) : Int := tK 255 (b % 8388608) (b / 8388608 % 256)
def nS (b : Nat) : Bool := tN 255 (b % 8388608) (b / 8388608 % 256) (decide (2147483648 ≤ b))
def mS (b : Nat) : Nat := tM 255 8388608 (b % 8388608) (b / 8388608 % 256)
def eS (b : Nat) : Int := tE 255 (-149) (b % 8388608) (b / 8388608 % 256)
theorem kS_range (b : Nat) : kS b = 0 ∨ kS b = 1 ∨ kS b = 2 := by unfold kS tK; split <;> (try split) <;> omega
theorem mS_lt (b : Nat) : mS b < 16777216 := by unfold mS tM; split <;> (try split) <;> omega
theorem eS_range (b : Nat) : -1100 ≤ eS b ∧ eS b ≤ 1000 := by unfold eS tE; split <;> (try split) <;> omega
theorem RtakeXS (b : Nat) (hb : b < 4294967296) (w : World) : Calls Tryd.prog 58 #[fmS, .int .u64 (b : Int)] w (fun e w' => ∃ g, e = .returned (.agg #[.int .i64 (kS b), .bool (nS b), .pointer (some ⟨g, 0, none⟩), .int .i64 (eS b)]) ∧ IntB w' g (mS b : Int) ∧ w.heap.size ≤ g ∧ Within w w') := RtakeS b hb w
def sWS (k : Int) (ng : Bool) (M : Nat) (e mode : Int) : Nat := if k = 2 then 2143289344 else if k = 1 then 2139095040 + (if ng then 2147483648 else 0) else if M = 0 then (if ng then 2147483648 else 0) else gWord 24 (-149) 127 2139095039 2139095040 8388608 2147483648 ng M e false mode
def sFS (k : Int) (ng : Bool) (M : Nat) (e mode : Int) : Int := if k = 2 then 0 else if k = 1 then 0 else if M = 0 then 0 else gFlags 24 (-149) 127 ng M e false mode
theorem sWS_nan (ng : Bool) (M : Nat) (e mode : Int) : sWS 2 ng M e mode = 2143289344 := if_pos rfl
theorem sWS_inf (ng : Bool) (M : Nat) (e mode : Int) : sWS 1 ng M e mode = 2139095040 + (if ng then 2147483648 else 0) := by unfold sWS; rw [if_neg (show ¬ (1 : Int) = 2 by decide), if_pos rfl]
theorem sWS_zero (ng : Bool) (e mode : Int) : sWS 0 ng 0 e mode = (if ng then 2147483648 else 0) := by unfold sWS; rw [if_neg (show ¬ (0 : Int) = 2 by decide), if_neg (show ¬ (0 : Int) = 1 by decide), if_pos rfl]
theorem sWS_main (ng : Bool) {M : Nat} (h : M ≠ 0) (e mode : Int) : sWS 0 ng M e mode = gWord 24 (-149) 127 2139095039 2139095040 8388608 2147483648 ng M e false mode := by unfold sWS; rw [if_neg (show ¬ (0 : Int) = 2 by decide), if_neg (show ¬ (0 : Int) = 1 by decide), if_neg h]
theorem sFS_nan (ng : Bool) (M : Nat) (e mode : Int) : sFS 2 ng M e mode = 0 := if_pos rfl
theorem sFS_inf (ng : Bool) (M : Nat) (e mode : Int) : sFS 1 ng M e mode = 0 := by unfold sFS; rw [if_neg (show ¬ (1 : Int) = 2 by decide), if_pos rfl]
theorem sFS_zero (ng : Bool) (e mode : Int) : sFS 0 ng 0 e mode = 0 := by unfold sFS; rw [if_neg (show ¬ (0 : Int) = 2 by decide), if_neg (show ¬ (0 : Int) = 1 by decide), if_pos rfl]
theorem sFS_main (ng : Bool) {M : Nat} (h : M ≠ 0) (e mode : Int) : sFS 0 ng M e mode = gFlags 24 (-149) 127 ng M e false mode := by unfold sFS; rw [if_neg (show ¬ (0 : Int) = 2 by decide), if_neg (show ¬ (0 : Int) = 1 by decide), if_neg h]
set_option maxRecDepth 100000 in
set_option maxHeartbeats 600000 in
theorem RsameS_nan (ng : Bool) (g : Nat) (e mode : Int) (w : World) : Calls Tryd.prog 73 #[fmS, .agg #[.int .i64 2, .bool ng, .pointer (some ⟨g, 0, none⟩), .int .i64 e], .int .i64 mode] w (fun e' w' => e' = .returned (.tuple #[.int .u64 (2143289344), .int .i64 0]) ∧ Within w w') := by
  go_enter Tryd.func73, Tryd.ntmps73
  go_wp2_with fail
  refine (RnoneS _).mono ?_; rintro e1 w1 ⟨rfl, hb1⟩
  go_wp2
  go_ret2
  exact ⟨rfl, (by repeat (first | with_reducible exact Within.refl _ | with_reducible assumption | with_reducible refine Within.alloc ?_ _ | with_reducible refine Within.drew ?_ | with_reducible refine Within.drewN ?_ _ | with_reducible refine Within.setCell ?_ (by first | (simp; done) | (simp; omega)) _ | with_reducible refine Within.trans ?_ (by assumption)))⟩

set_option maxRecDepth 100000 in
set_option maxHeartbeats 600000 in
theorem RsameS_inf0 (g : Nat) (e mode : Int) (w : World) : Calls Tryd.prog 73 #[fmS, .agg #[.int .i64 1, .bool false, .pointer (some ⟨g, 0, none⟩), .int .i64 e], .int .i64 mode] w (fun e' w' => e' = .returned (.tuple #[.int .u64 (2139095040), .int .i64 0]) ∧ Within w w') := by
  go_enter Tryd.func73, Tryd.ntmps73
  go_wp2_with fail
  refine (RinfinityS_0 _).mono ?_; rintro e1 w1 ⟨rfl, hb1⟩
  go_wp2
  go_ret2
  exact ⟨rfl, (by repeat (first | with_reducible exact Within.refl _ | with_reducible assumption | with_reducible refine Within.alloc ?_ _ | with_reducible refine Within.drew ?_ | with_reducible refine Within.drewN ?_ _ | with_reducible refine Within.setCell ?_ (by first | (simp; done) | (simp; omega)) _ | with_reducible refine Within.trans ?_ (by assumption)))⟩

set_option maxRecDepth 100000 in
set_option maxHeartbeats 600000 in
theorem RsameS_zero0 (g : Nat) (e mode : Int) (w : World) (hI : IntB w g 0) : Calls Tryd.prog 73 #[fmS, .agg #[.int .i64 0, .bool false, .pointer (some ⟨g, 0, none⟩), .int .i64 e], .int .i64 mode] w (fun e' w' => e' = .returned (.tuple #[.int .u64 (0), .int .i64 0]) ∧ Within w w') := by
  have IZ := fun (w' : World) (h : IntB w' g 0) => Riszero 0 e 0 false g w' h
  rw [show decide ((0 : Int) = 0 ∧ (0 : Int) = 0) = true from rfl] at IZ
  have HIZ := Lib.hid IZ; clear IZ
  go_enter Tryd.func73, Tryd.ntmps73
  go_wp2_with fail
  refine (HIZ.out _ (by repeat (first | with_reducible assumption | with_reducible exact ib_new _ _ (by simp; done) | with_reducible refine IntB.alloc ?_ _ | with_reducible refine IntB.drewN ?_ _))).mono ?_; rintro e1 w1 ⟨rfl, hb1⟩
  have hc1 := hb1.cells
  go_wp2_with fail
  refine (RnoughtS_0 _).mono ?_; rintro e2 w2 ⟨rfl, hb2⟩
  go_wp2
  go_ret2
  exact ⟨rfl, (by repeat (first | with_reducible exact Within.refl _ | with_reducible assumption | with_reducible refine Within.alloc ?_ _ | with_reducible refine Within.drew ?_ | with_reducible refine Within.drewN ?_ _ | with_reducible refine Within.setCell ?_ (by first | (simp; done) | (simp; omega)) _ | with_reducible refine Within.trans ?_ (by assumption)))⟩

set_option maxRecDepth 100000 in
set_option maxHeartbeats 600000 in
theorem RsameS_inf1 (g : Nat) (e mode : Int) (w : World) : Calls Tryd.prog 73 #[fmS, .agg #[.int .i64 1, .bool true, .pointer (some ⟨g, 0, none⟩), .int .i64 e], .int .i64 mode] w (fun e' w' => e' = .returned (.tuple #[.int .u64 (4286578688), .int .i64 0]) ∧ Within w w') := by
  go_enter Tryd.func73, Tryd.ntmps73
  go_wp2_with fail
  refine (RinfinityS_1 _).mono ?_; rintro e1 w1 ⟨rfl, hb1⟩
  go_wp2
  go_ret2
  exact ⟨rfl, (by repeat (first | with_reducible exact Within.refl _ | with_reducible assumption | with_reducible refine Within.alloc ?_ _ | with_reducible refine Within.drew ?_ | with_reducible refine Within.drewN ?_ _ | with_reducible refine Within.setCell ?_ (by first | (simp; done) | (simp; omega)) _ | with_reducible refine Within.trans ?_ (by assumption)))⟩

set_option maxRecDepth 100000 in
set_option maxHeartbeats 600000 in
theorem RsameS_zero1 (g : Nat) (e mode : Int) (w : World) (hI : IntB w g 0) : Calls Tryd.prog 73 #[fmS, .agg #[.int .i64 0, .bool true, .pointer (some ⟨g, 0, none⟩), .int .i64 e], .int .i64 mode] w (fun e' w' => e' = .returned (.tuple #[.int .u64 (2147483648), .int .i64 0]) ∧ Within w w') := by
  have IZ := fun (w' : World) (h : IntB w' g 0) => Riszero 0 e 0 true g w' h
  rw [show decide ((0 : Int) = 0 ∧ (0 : Int) = 0) = true from rfl] at IZ
  have HIZ := Lib.hid IZ; clear IZ
  go_enter Tryd.func73, Tryd.ntmps73
  go_wp2_with fail
  refine (HIZ.out _ (by repeat (first | with_reducible assumption | with_reducible exact ib_new _ _ (by simp; done) | with_reducible refine IntB.alloc ?_ _ | with_reducible refine IntB.drewN ?_ _))).mono ?_; rintro e1 w1 ⟨rfl, hb1⟩
  have hc1 := hb1.cells
  go_wp2_with fail
  refine (RnoughtS_1 _).mono ?_; rintro e2 w2 ⟨rfl, hb2⟩
  go_wp2
  go_ret2
  exact ⟨rfl, (by repeat (first | with_reducible exact Within.refl _ | with_reducible assumption | with_reducible refine Within.alloc ?_ _ | with_reducible refine Within.drew ?_ | with_reducible refine Within.drewN ?_ _ | with_reducible refine Within.setCell ?_ (by first | (simp; done) | (simp; omega)) _ | with_reducible refine Within.trans ?_ (by assumption)))⟩

set_option maxRecDepth 100000 in
set_option maxHeartbeats 600000 in
theorem RsameS_main (ng : Bool) (g M W : Nat) (e mode F : Int) (hM0 : M ≠ 0) (w : World) (hI : IntB w g (M : Int)) (RR : Hid (∀ w, IntB w g (M : Int) → Calls Tryd.prog 109 #[fmS, .bool ng, .pointer (some ⟨g, 0, none⟩), .int .i64 e, .bool false, .int .i64 mode] w (fun e' w' => e' = .returned (.tuple #[.int .u64 (W : Int), .int .i64 F]) ∧ Within w w'))) : Calls Tryd.prog 73 #[fmS, .agg #[.int .i64 0, .bool ng, .pointer (some ⟨g, 0, none⟩), .int .i64 e], .int .i64 mode] w (fun e' w' => e' = .returned (.tuple #[.int .u64 ((W : Int)), .int .i64 F]) ∧ Within w w') := by
  have IZ := fun (w' : World) (h : IntB w' g (M : Int)) => Riszero 0 e M ng g w' h
  rw [decide_eq_false (fun h => hM0 (by have := h.2; omega))] at IZ
  have HIZ := Lib.hid IZ; clear IZ
  go_enter Tryd.func73, Tryd.ntmps73
  go_wp2_with fail
  refine (HIZ.out _ (by repeat (first | with_reducible assumption | with_reducible exact ib_new _ _ (by simp; done) | with_reducible refine IntB.alloc ?_ _ | with_reducible refine IntB.drewN ?_ _))).mono ?_; rintro e1 w1 ⟨rfl, hb1⟩
  have hc1 := hb1.cells
  have hI1 : IntB w1 g (M : Int) := ((hI.alloc _).alloc _).of hb1
  go_wp2_with fail
  refine (RR.out _ hI1).mono ?_; rintro e2 w2 ⟨rfl, hb2⟩
  go_wp2
  go_ret2
  exact ⟨rfl, (by repeat (first | with_reducible exact Within.refl _ | with_reducible assumption | with_reducible refine Within.alloc ?_ _ | with_reducible refine Within.drew ?_ | with_reducible refine Within.drewN ?_ _ | with_reducible refine Within.setCell ?_ (by first | (simp; done) | (simp; omega)) _ | with_reducible refine Within.trans ?_ (by assumption)))⟩

theorem RsameS (k : Int) (ng : Bool) (g M : Nat) (e mode : Int) (hk : k = 0 ∨ k = 1 ∨ k = 2) (he : -50000 ≤ e ∧ e ≤ 50000) (hM : (dg M).length ≤ 900) (w : World) (hI : IntB w g (M : Int)) : Calls Tryd.prog 73 #[fmS, .agg #[.int .i64 k, .bool ng, .pointer (some ⟨g, 0, none⟩), .int .i64 e], .int .i64 mode] w (fun e' w' => e' = .returned (.tuple #[.int .u64 ((sWS k ng M e mode : Int)), .int .i64 (sFS k ng M e mode)]) ∧ Within w w') := by
  rcases hk with rfl | rfl | rfl
  · by_cases h : M = 0
    · subst h
      rw [sWS_zero, sFS_zero]
      cases ng
      · exact RsameS_zero0 g e mode w hI
      · exact RsameS_zero1 g e mode w hI
    · rw [sWS_main ng h, sFS_main ng h]
      exact RsameS_main ng g M _ e mode _ h w hI (Lib.hid fun w' hI' => RroundS ng false g M e mode he hM h w' hI')
  · rw [sWS_inf, sFS_inf]
    cases ng
    · exact RsameS_inf0 g e mode w
    · exact RsameS_inf1 g e mode w
  · rw [sWS_nan, sFS_nan]
    exact RsameS_nan ng g e mode w

set_option maxRecDepth 100000 in
set_option maxHeartbeats 600000 in
theorem RDouble (w : World) : Calls Tryd.prog 74 #[] w (fun e w' => e = .returned fmD ∧ Within w w') := by
  go_enter Tryd.func74, Tryd.ntmps74
  go_wp2
  first | (go_ret; exact ⟨rfl, (by repeat (first | with_reducible exact Within.refl _ | with_reducible assumption | with_reducible refine Within.alloc ?_ _ | with_reducible refine Within.drew ?_ | with_reducible refine Within.drewN ?_ _ | with_reducible refine Within.setCell ?_ (by first | (simp; done) | (simp; omega)) _ | with_reducible refine Within.trans ?_ (by assumption)))⟩) | (refine bodyPost_ret (v := fmD) (by simp [results, Tryd.results74, go_sem]) rfl ⟨rfl, (by repeat (first | with_reducible exact Within.refl _ | with_reducible assumption | with_reducible refine Within.alloc ?_ _ | with_reducible refine Within.drew ?_ | with_reducible refine Within.drewN ?_ _ | with_reducible refine Within.setCell ?_ (by first | (simp; done) | (simp; omega)) _ | with_reducible refine Within.trans ?_ (by assumption)))⟩)

set_option maxRecDepth 100000 in
set_option maxHeartbeats 600000 in
theorem RSingle (w : World) : Calls Tryd.prog 57 #[] w (fun e w' => e = .returned fmS ∧ Within w w') := by
  go_enter Tryd.func57, Tryd.ntmps57
  go_wp2
  first | (go_ret; exact ⟨rfl, (by repeat (first | with_reducible exact Within.refl _ | with_reducible assumption | with_reducible refine Within.alloc ?_ _ | with_reducible refine Within.drew ?_ | with_reducible refine Within.drewN ?_ _ | with_reducible refine Within.setCell ?_ (by first | (simp; done) | (simp; omega)) _ | with_reducible refine Within.trans ?_ (by assumption)))⟩) | (refine bodyPost_ret (v := fmS) (by simp [results, Tryd.results57, go_sem]) rfl ⟨rfl, (by repeat (first | with_reducible exact Within.refl _ | with_reducible assumption | with_reducible refine Within.alloc ?_ _ | with_reducible refine Within.drew ?_ | with_reducible refine Within.drewN ?_ _ | with_reducible refine Within.setCell ?_ (by first | (simp; done) | (simp; omega)) _ | with_reducible refine Within.trans ?_ (by assumption)))⟩)

set_option maxRecDepth 100000 in
set_option maxHeartbeats 600000 in
theorem RNarrow_bad (x : Nat) (mode : Int) (KN : Hid (∀ w, Calls Tryd.prog 72 #[.int .i64 mode] w (fun e w' => e = .returned (.bool false) ∧ w = w'))) (w : World) : Calls Tryd.prog 23 #[.int .u64 (x : Int), .int .i64 mode] w (fun e w' => e = .returned (.tuple #[.int .u32 0, .int .i64 0, .int .i64 20]) ∧ Within w w') := by
  go_enter Tryd.func23, Tryd.ntmps23
  go_wp2_with fail
  refine (KN.out _).mono ?_; rintro e1 w1 ⟨rfl, rfl⟩
  go_wp2
  go_ret3
  exact ⟨rfl, Within.refl _⟩

set_option maxRecDepth 100000 in
set_option maxHeartbeats 600000 in
theorem RNarrow_main (x M W : Nat) (mode k E F : Int) (n : Bool) (KN : Hid (∀ w, Calls Tryd.prog 72 #[.int .i64 mode] w (fun e w' => e = .returned (.bool true) ∧ w = w'))) (TK : Hid (∀ w, Calls Tryd.prog 58 #[fmD, .int .u64 (x : Int)] w (fun e w' => ∃ g, e = .returned (.agg #[.int .i64 k, .bool n, .pointer (some ⟨g, 0, none⟩), .int .i64 E]) ∧ IntB w' g (M : Int) ∧ w.heap.size ≤ g ∧ Within w w'))) (SM : Hid (∀ w g, IntB w g (M : Int) → Calls Tryd.prog 73 #[fmS, .agg #[.int .i64 k, .bool n, .pointer (some ⟨g, 0, none⟩), .int .i64 E], .int .i64 mode] w (fun e' w' => e' = .returned (.tuple #[.int .u64 (W : Int), .int .i64 F]) ∧ Within w w'))) (w : World) : Calls Tryd.prog 23 #[.int .u64 (x : Int), .int .i64 mode] w (fun e w' => e = .returned (.tuple #[.int .u32 ((W : Int) % 4294967296), .int .i64 F, .int .i64 0]) ∧ Within w w') := by
  go_enter Tryd.func23, Tryd.ntmps23
  go_wp2_with fail
  refine (KN.out _).mono ?_; rintro e1 w1 ⟨rfl, rfl⟩
  go_wp2_with fail
  refine (RSingle _).mono ?_; rintro e2 w2 ⟨rfl, hb2⟩
  go_wp2_with fail
  refine (RDouble _).mono ?_; rintro e3 w3 ⟨rfl, hb3⟩
  go_wp2_with fail
  refine (TK.out _).mono ?_; rintro e4 w4 ⟨g, rfl, hI, hg, hb4⟩
  go_wp2_with fail
  refine (SM.out _ _ hI).mono ?_; rintro e5 w5 ⟨rfl, hb5⟩
  have hb : Within w w5 := hb2.trans (hb3.trans (hb4.trans hb5))
  go_wp2
  go_ret3
  exact ⟨rfl, hb⟩

theorem RNarrow (x : Nat) (hx : x < 18446744073709551616) (mode : Int) (w : World) : Calls Tryd.prog 23 #[.int .u64 (x : Int), .int .i64 mode] w (fun e w' => e = .returned (.tuple #[.int .u32 ((if 0 ≤ mode ∧ mode ≤ 4 then sWS (kD x) (nD x) (mD x) (eD x) mode % 4294967296 else 0 : Nat) : Int), .int .i64 (if 0 ≤ mode ∧ mode ≤ 4 then sFS (kD x) (nD x) (mD x) (eD x) mode else 0), .int .i64 (if 0 ≤ mode ∧ mode ≤ 4 then 0 else 20)]) ∧ Within w w') := by
  have KN := Lib.hid (fun w => Rknown mode w)
  by_cases h : 0 ≤ mode ∧ mode ≤ 4
  · rw [decide_eq_true h] at KN
    rw [if_pos h, if_pos h, if_pos h]
    refine (RNarrow_main x _ _ mode _ _ _ _ KN (Lib.hid fun w => RtakeXD x hx w) (Lib.hid fun w g hI => RsameS _ _ g _ _ mode (kD_range x) (by have := eD_range x; omega) (Nat.le_trans (dg_small (k := 2) (Nat.lt_trans (mD_lt x) (by decide))) (by decide)) w hI) w).mono fun e w' h => ⟨h.1.trans ?_, h.2⟩
    rw [Int.natCast_emod]; rfl
  · rw [decide_eq_false h] at KN
    rw [if_neg h, if_neg h, if_neg h]
    exact RNarrow_bad x mode KN w

set_option maxRecDepth 100000 in
set_option maxHeartbeats 600000 in
theorem RWiden_main (x M W : Nat) (hx : x < 4294967296) (k E F : Int) (n : Bool) (TK : Hid (∀ w, Calls Tryd.prog 58 #[fmS, .int .u64 (x : Int)] w (fun e w' => ∃ g, e = .returned (.agg #[.int .i64 k, .bool n, .pointer (some ⟨g, 0, none⟩), .int .i64 E]) ∧ IntB w' g (M : Int) ∧ w.heap.size ≤ g ∧ Within w w'))) (SM : Hid (∀ w g, IntB w g (M : Int) → Calls Tryd.prog 73 #[fmD, .agg #[.int .i64 k, .bool n, .pointer (some ⟨g, 0, none⟩), .int .i64 E], .int .i64 0] w (fun e' w' => e' = .returned (.tuple #[.int .u64 (W : Int), .int .i64 F]) ∧ Within w w'))) (w : World) : Calls Tryd.prog 27 #[.int .u32 (x : Int)] w (fun e w' => e = .returned (.int .u64 (W : Int)) ∧ Within w w') := by
  go_enter Tryd.func27, Tryd.ntmps27
  go_wp2_with fail
  refine (RDouble _).mono ?_; rintro e2 w2 ⟨rfl, hb2⟩
  go_wp2_with fail
  refine (RSingle _).mono ?_; rintro e3 w3 ⟨rfl, hb3⟩
  go_wp2_with fail
  refine (TK.out _).mono ?_; rintro e4 w4 ⟨g, rfl, hI, hg, hb4⟩
  go_wp2_with fail
  refine (SM.out _ _ hI).mono ?_; rintro e5 w5 ⟨rfl, hb5⟩
  have hb : Within w w5 := hb2.trans (hb3.trans (hb4.trans hb5))
  go_wp2
  go_ret
  exact ⟨rfl, hb⟩

theorem RWiden (x : Nat) (hx : x < 4294967296) (w : World) : Calls Tryd.prog 27 #[.int .u32 (x : Int)] w (fun e w' => e = .returned (.int .u64 (sWD (kS x) (nS x) (mS x) (eS x) 0 : Int)) ∧ Within w w') :=
  RWiden_main x _ _ hx _ _ _ _ (Lib.hid fun w => RtakeXS x hx w) (Lib.hid fun w g hI => RsameD _ _ g _ _ 0 (kS_range x) (by have := eS_range x; omega) (Nat.le_trans (dg_small (k := 2) (Nat.lt_trans (mS_lt x) (by decide))) (by decide)) w hI) w
set_option maxRecDepth 100000 in
set_option maxHeartbeats 600000 in
theorem RFits0 (x W : Nat) (F E : Int) (b : Bool) (hb : (F == 0) = b) (NR : Hid (∀ w, Calls Tryd.prog 23 #[.int .u64 (x : Int), .int .i64 0] w (fun e w' => e = .returned (.tuple #[.int .u32 (W : Int), .int .i64 F, .int .i64 E]) ∧ Within w w'))) (w : World) : Calls Tryd.prog 29 #[.int .u64 (x : Int)] w (fun e w' => e = .returned (.bool b) ∧ Within w w') := by
  cases b
  all_goals
    go_enter Tryd.func29, Tryd.ntmps29
    go_wp2_with fail
    refine (NR.out _).mono ?_; rintro e1 w1 ⟨rfl, hb1⟩
    go_wp2
    go_ret
    exact ⟨rfl, hb1⟩

theorem RFits (x : Nat) (hx : x < 18446744073709551616) (w : World) : Calls Tryd.prog 29 #[.int .u64 (x : Int)] w (fun e w' => e = .returned (.bool (sFS (kD x) (nD x) (mD x) (eD x) 0 == 0)) ∧ Within w w') :=
  RFits0 x _ _ _ _ rfl (Lib.hid fun w => RNarrow x hx 0 w) w
end Go.Proofs.YtifgngmebnjfkaaDoor
