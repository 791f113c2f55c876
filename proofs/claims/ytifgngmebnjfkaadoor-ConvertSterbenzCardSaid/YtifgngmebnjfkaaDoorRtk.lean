/- Package binnacleref02: what its numbers are: kind, sign, digits, exponent; Single, Double. -/
import Derived.Test.YtifgngmebnjfkaaDoorRf1
import Derived.Test.YtifgngmebnjfkaaDoorBg11
import Derived.Test.YtifgngmebnjfkaaDoorBg12
import Derived.Test.YtifgngmebnjfkaaDoorCv7
namespace Go.Proofs.YtifgngmebnjfkaaDoor
open Go.RowKit

theorem IntB.drewN {w : World} {g : Nat} {v : Int} (h : IntB w g v) (n : Nat) : IntB (w.drewN n) g v := h.of ((Within.refl _).drewN _)

theorem dg_small {n k : Nat} (h : n < 2 ^ (32 * k)) : (dg n).length ≤ k := dg_len_le (by rw [show (4294967296 : Nat) = 2 ^ 32 from rfl, ← Nat.pow_mul]; exact h)

theorem dg_pow_le {s k : Nat} (h : s < 32 * k) : (dg (2 ^ s)).length ≤ k := dg_small (Nat.pow_lt_pow_right (by decide) h)

theorem IntB.drew {w : World} {g : Nat} {v : Int} (h : IntB w g v) : IntB w.drew g v := h.of (Within.refl _).drew

theorem sign_lt (v : Int) : v.sign < 0 ↔ v < 0 := by
  rcases Int.lt_trichotomy v 0 with h | h | h
  · rw [Int.sign_eq_neg_one_of_neg h]; exact ⟨fun _ => h, fun _ => by decide⟩
  · subst h; simp
  · rw [Int.sign_eq_one_of_pos h]; constructor
    · intro h1; exact absurd h1 (by decide)
    · intro h1; omega

/-- a number taken apart: kind, sign, digits, exponent, by its fraction and its field -/
def tK (top fr fd : Nat) : Int := if fd = top then (if fr = 0 then 1 else 2) else 0

def tN (top fr fd : Nat) (ng : Bool) : Bool := if fd = top ∧ fr ≠ 0 then false else ng

def tM (top hid fr fd : Nat) : Nat := if fd = top then 0 else if fd = 0 then fr else fr + hid

def tE (top : Nat) (lo : Int) (fr fd : Nat) : Int := if fd = top then (if fr = 0 then lo else 0) else if fd = 0 then lo else (fd : Int) - 1 + lo

def kD (b : Nat) : Int := tK 2047 (b % 4503599627370496) (b / 4503599627370496 % 2048)

def nD (b : Nat) : Bool := tN 2047 (b % 4503599627370496) (b / 4503599627370496 % 2048) (decide (9223372036854775808 ≤ b))

def mD (b : Nat) : Nat := tM 2047 4503599627370496 (b % 4503599627370496) (b / 4503599627370496 % 2048)

def eD (b : Nat) : Int := tE 2047 (-1074) (b % 4503599627370496) (b / 4503599627370496 % 2048)

def kS (b : Nat) : Int := tK 255 (b % 8388608) (b / 8388608 % 256)

def nS (b : Nat) : Bool := tN 255 (b % 8388608) (b / 8388608 % 256) (decide (2147483648 ≤ b))

def mS (b : Nat) : Nat := tM 255 8388608 (b % 8388608) (b / 8388608 % 256)

def eS (b : Nat) : Int := tE 255 (-149) (b % 8388608) (b / 8388608 % 256)

theorem kD_range (b : Nat) : kD b = 0 ∨ kD b = 1 ∨ kD b = 2 := by unfold kD tK; split <;> (try split) <;> omega

theorem mD_lt (b : Nat) : mD b < 9007199254740992 := by unfold mD tM; split <;> (try split) <;> omega

theorem eD_range (b : Nat) : -1100 ≤ eD b ∧ eD b ≤ 1000 := by unfold eD tE; split <;> (try split) <;> omega

theorem RtakeXD (b : Nat) (hb : b < 18446744073709551616) (w : World) : Calls Tryd.prog 58 #[fmD, .int .u64 (b : Int)] w (fun e w' => ∃ g, e = .returned (.agg #[.int .i64 (kD b), .bool (nD b), .pointer (some ⟨g, 0, none⟩), .int .i64 (eD b)]) ∧ IntB w' g (mD b : Int) ∧ w.heap.size ≤ g ∧ Within w w') := RtakeD b hb w

theorem kS_range (b : Nat) : kS b = 0 ∨ kS b = 1 ∨ kS b = 2 := by unfold kS tK; split <;> (try split) <;> omega

theorem mS_lt (b : Nat) : mS b < 16777216 := by unfold mS tM; split <;> (try split) <;> omega

theorem eS_range (b : Nat) : -1100 ≤ eS b ∧ eS b ≤ 1000 := by unfold eS tE; split <;> (try split) <;> omega

theorem RtakeXS (b : Nat) (hb : b < 4294967296) (w : World) : Calls Tryd.prog 58 #[fmS, .int .u64 (b : Int)] w (fun e w' => ∃ g, e = .returned (.agg #[.int .i64 (kS b), .bool (nS b), .pointer (some ⟨g, 0, none⟩), .int .i64 (eS b)]) ∧ IntB w' g (mS b : Int) ∧ w.heap.size ≤ g ∧ Within w w') := RtakeS b hb w

set_option maxRecDepth 100000 in
set_option maxHeartbeats 600000 in
theorem RSingle (w : World) : Calls Tryd.prog 57 #[] w (fun e w' => e = .returned fmS ∧ Within w w') := by
  go_enter Tryd.func57, Tryd.ntmps57
  go_wp2
  first | (go_ret; exact ⟨rfl, (by repeat (first | with_reducible exact Within.refl _ | with_reducible assumption | with_reducible refine Within.alloc ?_ _ | with_reducible refine Within.drew ?_ | with_reducible refine Within.drewN ?_ _ | with_reducible refine Within.setCell ?_ (by first | (simp; done) | (simp; omega)) _ | with_reducible refine Within.trans ?_ (by assumption)))⟩) | (refine bodyPost_ret (v := fmS) (by simp [results, Tryd.results57, go_sem]) rfl ⟨rfl, (by repeat (first | with_reducible exact Within.refl _ | with_reducible assumption | with_reducible refine Within.alloc ?_ _ | with_reducible refine Within.drew ?_ | with_reducible refine Within.drewN ?_ _ | with_reducible refine Within.setCell ?_ (by first | (simp; done) | (simp; omega)) _ | with_reducible refine Within.trans ?_ (by assumption)))⟩)

set_option maxRecDepth 100000 in
set_option maxHeartbeats 600000 in
theorem RDouble (w : World) : Calls Tryd.prog 74 #[] w (fun e w' => e = .returned fmD ∧ Within w w') := by
  go_enter Tryd.func74, Tryd.ntmps74
  go_wp2
  first | (go_ret; exact ⟨rfl, (by repeat (first | with_reducible exact Within.refl _ | with_reducible assumption | with_reducible refine Within.alloc ?_ _ | with_reducible refine Within.drew ?_ | with_reducible refine Within.drewN ?_ _ | with_reducible refine Within.setCell ?_ (by first | (simp; done) | (simp; omega)) _ | with_reducible refine Within.trans ?_ (by assumption)))⟩) | (refine bodyPost_ret (v := fmD) (by simp [results, Tryd.results74, go_sem]) rfl ⟨rfl, (by repeat (first | with_reducible exact Within.refl _ | with_reducible assumption | with_reducible refine Within.alloc ?_ _ | with_reducible refine Within.drew ?_ | with_reducible refine Within.drewN ?_ _ | with_reducible refine Within.setCell ?_ (by first | (simp; done) | (simp; omega)) _ | with_reducible refine Within.trans ?_ (by assumption)))⟩)

theorem grid_of_num (f : Ieee.Format) (n : Nat) : Fp.num f false n = Fp.grid f n 0 := by
  unfold Fp.num Ieee.Format.word; simp

/-- a double's amount, out of its digits and its exponent -/
theorem mD_mag {x : Nat} (hf : x % 9223372036854775808 < 9218868437227405312) : magD x = mD x * 2 ^ (eD x + 1074).toNat ∧ kD x = 0 ∧ nD x = ngD x ∧ (mD x = 0 ↔ x % 9223372036854775808 = 0) := by
  have hfd : ¬ x / 4503599627370496 % 2048 = 2047 := by omega
  refine ⟨?_, by unfold kD tK; rw [if_neg hfd], by unfold nD tN ngD; rw [if_neg (fun h => hfd h.1)], ?_⟩
  · unfold magD Fp.mag
    rw [Fp.dB]
    unfold mD eD tM tE
    rw [if_neg hfd, if_neg hfd]
    by_cases h0 : x / 4503599627370496 % 2048 = 0
    · rw [if_pos h0, if_pos h0, if_pos (by omega), show ((-1074 : Int) + 1074).toNat = 0 from rfl, Nat.pow_zero, Nat.mul_one]; omega
    · rw [if_neg h0, if_neg h0, if_neg (by omega)]
      congr 1
      · omega
      · congr 1; omega
  · unfold mD tM
    rw [if_neg hfd]
    by_cases h0 : x / 4503599627370496 % 2048 = 0
    · rw [if_pos h0]; omega
    · rw [if_neg h0]; omega

theorem mS_mag {x : Nat} (hf : x % 2147483648 < 2139095040) : Fp.mag Ieee.single (x % 2147483648) = mS x * 2 ^ (eS x + 149).toNat ∧ kS x = 0 ∧ nS x = decide (2147483648 ≤ x) ∧ (mS x = 0 ↔ x % 2147483648 = 0) := by
  have hfd : ¬ x / 8388608 % 256 = 255 := by omega
  refine ⟨?_, by unfold kS tK; rw [if_neg hfd], by unfold nS tN; rw [if_neg (fun h => hfd h.1)], ?_⟩
  · unfold Fp.mag
    rw [Fp.sB]
    unfold mS eS tM tE
    rw [if_neg hfd, if_neg hfd]
    by_cases h0 : x / 8388608 % 256 = 0
    · rw [if_pos h0, if_pos h0, if_pos (by omega), show ((-149 : Int) + 149).toNat = 0 from rfl, Nat.pow_zero, Nat.mul_one]; omega
    · rw [if_neg h0, if_neg h0, if_neg (by omega)]
      congr 1
      · omega
      · congr 1; omega
  · unfold mS tM
    rw [if_neg hfd]
    by_cases h0 : x / 8388608 % 256 = 0
    · rw [if_pos h0]; omega
    · rw [if_neg h0]; omega

theorem eD_lo (x : Nat) (h : kD x = 0) : -1074 ≤ eD x := by
  unfold kD tK at h
  unfold eD tE
  split at h
  · split at h <;> omega
  · rename_i h1; rw [if_neg h1]; split <;> omega

theorem eS_lo (x : Nat) (h : kS x = 0) : -149 ≤ eS x := by
  unfold kS tK at h
  unfold eS tE
  split at h
  · split at h <;> omega
  · rename_i h1; rw [if_neg h1]; split <;> omega

/-- a pointer to a number, newer than W -/
def PtrI (W : World) (v : Int) (s : Value) (wx : World) : Prop := ∃ g, s = .pointer (some ⟨g, 0, none⟩) ∧ IntB wx g v ∧ W.heap.size ≤ g

end Go.Proofs.YtifgngmebnjfkaaDoor
