/- math/bits: Len64 over the library's own text; how long a number is, what is odd of it. -/
import Derived.Test.YtmpcnhiklpahnaaDoorBase
import Derived.Lib.TrailingZeros
import Derived.Lib.BitFns
import Derived.Lib.Strings
import Derived.Lib.Slices
import Derived.Lib.Small
import Derived.Lib.Walk
namespace Go.Proofs.YtmpcnhiklpahnaaDoor
open Go.RowKit

theorem len8_size : Lib.len8tab.size = 256 := by decide +kernel
theorem len8_all : ∀ n : Fin 256, (Lib.len8tab[n.val]'(by rw [len8_size]; exact n.isLt)).toNat = Lib.bitLen n.val := by decide +kernel
theorem len8_at (n : Nat) (h : n < Lib.len8tab.size) : (Lib.len8tab[n]).toNat = Lib.bitLen n := len8_all ⟨n, by rw [len8_size] at h; exact h⟩

theorem len_end (s x : Nat) (hs : s ≤ 56) (h : 2 ^ s ≤ x) (hx : x < 2 ^ (s + 8)) : wrap64 ((s : Int) + wrap64 ((Lib.bitLen (x / 2 ^ s) : Nat) : Int)) = ((Lib.bitLen x : Nat) : Int) := by
  have hp := Nat.two_pow_pos s
  have h64 : x < 2 ^ 64 := Nat.lt_of_lt_of_le hx (Nat.pow_le_pow_right (by decide) (by omega))
  have e := Lib.bitLen_shift s x h h64
  have hq : x / 2 ^ s < 256 := by
    rw [Nat.div_lt_iff_lt_mul hp]
    have : 2 ^ (s + 8) = 256 * 2 ^ s := by rw [Nat.pow_add, Nat.mul_comm]
    omega
  have l := Lib.bitLen_le8 ⟨x / 2 ^ s, hq⟩
  simp only at l
  rw [e]
  generalize Lib.bitLen (x / 2 ^ s) = r at *
  rw [IntWalk.wrap64_in (r : Int) (by constructor <;> omega), IntWalk.wrap64_in _ (by constructor <;> omega)]
  simp

theorem len_e56 (x : Nat) (h : 72057594037927936 ≤ x) (hx : x < 18446744073709551616) : wrap64 (56 + wrap64 ((Lib.bitLen (x / 72057594037927936) : Nat) : Int)) = ((Lib.bitLen x : Nat) : Int) := len_end 56 x (by decide) h hx
theorem len_e48 (x : Nat) (h : 281474976710656 ≤ x) (hx : x < 72057594037927936) : wrap64 (48 + wrap64 ((Lib.bitLen (x / 281474976710656) : Nat) : Int)) = ((Lib.bitLen x : Nat) : Int) := len_end 48 x (by decide) h hx
theorem len_e40 (x : Nat) (h : 1099511627776 ≤ x) (hx : x < 281474976710656) : wrap64 (40 + wrap64 ((Lib.bitLen (x / 1099511627776) : Nat) : Int)) = ((Lib.bitLen x : Nat) : Int) := len_end 40 x (by decide) h hx
theorem len_e32 (x : Nat) (h : 4294967296 ≤ x) (hx : x < 1099511627776) : wrap64 (32 + wrap64 ((Lib.bitLen (x / 4294967296) : Nat) : Int)) = ((Lib.bitLen x : Nat) : Int) := len_end 32 x (by decide) h hx
theorem len_e24 (x : Nat) (h : 16777216 ≤ x) (hx : x < 4294967296) : wrap64 (24 + wrap64 ((Lib.bitLen (x / 16777216) : Nat) : Int)) = ((Lib.bitLen x : Nat) : Int) := len_end 24 x (by decide) h hx
theorem len_e16 (x : Nat) (h : 65536 ≤ x) (hx : x < 16777216) : wrap64 (16 + wrap64 ((Lib.bitLen (x / 65536) : Nat) : Int)) = ((Lib.bitLen x : Nat) : Int) := len_end 16 x (by decide) h hx
theorem len_e8 (x : Nat) (h : 256 ≤ x) (hx : x < 65536) : wrap64 (8 + wrap64 ((Lib.bitLen (x / 256) : Nat) : Int)) = ((Lib.bitLen x : Nat) : Int) := len_end 8 x (by decide) h hx
theorem len_e0 (x : Nat) (hx : x < 256) : wrap64 (0 + wrap64 ((Lib.bitLen x : Nat) : Int)) = ((Lib.bitLen x : Nat) : Int) := by
  have l := Lib.bitLen_le8 ⟨x, hx⟩
  simp only at l
  generalize Lib.bitLen x = r at *
  rw [IntWalk.wrap64_in (r : Int) (by constructor <;> omega), IntWalk.wrap64_in _ (by constructor <;> omega)]
  simp

set_option maxHeartbeats 1000000 in
set_option maxRecDepth 100000 in
theorem bits_len64' (x : Int) (w : World) (h0 : 0 ≤ x) (h1 : x ≤ 18446744073709551615) :
    Calls Tryd.prog 72 #[.int .u64 x] w fun e w' => e = .returned (.int .i64 (Lib.bitLen x.toNat)) ∧ w = w' := by
  have hsz := len8_size
  go_enter Tryd.func72, Tryd.ntmps72
  go_wp2
  all_goals (go_ret; refine ⟨ret_int ?_, rfl⟩)
  all_goals simp only [len8_at]
  · rw [← len_e56 x.toNat (by omega) (by omega), show (x / 4294967296 / 65536 / 256).toNat = x.toNat / 72057594037927936 by omega]
  · rw [← len_e48 x.toNat (by omega) (by omega), show (x / 4294967296 / 65536).toNat = x.toNat / 281474976710656 by omega]
  · rw [← len_e40 x.toNat (by omega) (by omega), show (x / 4294967296 / 256).toNat = x.toNat / 1099511627776 by omega]
  · rw [← len_e32 x.toNat (by omega) (by omega), show (x / 4294967296).toNat = x.toNat / 4294967296 by omega]
  · rw [← len_e24 x.toNat (by omega) (by omega), show (x / 65536 / 256).toNat = x.toNat / 16777216 by omega]
  · rw [← len_e16 x.toNat (by omega) (by omega), show (x / 65536).toNat = x.toNat / 65536 by omega]
  · rw [← len_e8 x.toNat (by omega) (by omega), show (x / 256).toNat = x.toNat / 256 by omega]
  · have := len_e0 x.toNat (by omega); simpa using this
theorem bits_len64 (x : Nat) (hx : x < 18446744073709551616) (w : World) :
    Calls Tryd.prog 72 #[.int .u64 x] w fun e w' => e = .returned (.int .i64 (Lib.bitLen x)) ∧ w = w' := by
  have := bits_len64' (x : Int) w (by omega) (by omega)
  rwa [Int.toNat_natCast] at this

theorem bitLen_of (k x : Nat) (hk : k < 64) (h1 : 2 ^ k ≤ x) (h2 : x < 2 ^ (k + 1)) : Lib.bitLen x = k + 1 := by
  have h64 : x < 2 ^ 64 := Nat.lt_of_lt_of_le h2 (Nat.pow_le_pow_right (by decide) (by omega))
  rw [Lib.bitLen_shift k x h1 h64]
  have hp := Nat.two_pow_pos k
  have e : x / 2 ^ k = 1 := by
    have a : 1 ≤ x / 2 ^ k := (Nat.le_div_iff_mul_le hp).2 (by omega)
    have b : x / 2 ^ k < 2 := (Nat.div_lt_iff_lt_mul hp).2 (by rw [Nat.pow_succ] at h2; omega)
    omega
  rw [e]; rfl

theorem bitLen_zero : Lib.bitLen 0 = 0 := rfl
theorem bitLen_log2 (x : Nat) (h : x ≠ 0) (hx : x < 18446744073709551616) : Lib.bitLen x = x.log2 + 1 :=
  bitLen_of _ x ((Nat.log2_lt h).2 (by simpa using hx)) (Nat.log2_self_le h) Nat.lt_log2_self

/-- what is odd of a number, and how often 2 goes into it -/
theorem ctz_split (x : Nat) (h : x ≠ 0) (hx : x < 18446744073709551616) : ∃ m, x = 2 ^ Lib.ctz 64 x * (2 * m + 1) ∧ Lib.ctz 64 x < 64 := by
  have e : Lib.ctz 64 x = Lib.ctzFrom 64 x := by simp [Lib.ctz, h]
  rw [e]
  exact Lib.ctzFrom_spec 64 x (by omega) (by simpa using hx)

/-- a shift by a count that was reckoned -/
theorem shr_u64 (x k : Nat) (hk : k < 64) : Op.shift .shr .u64 (x : Int) .i64 (k : Int) = pure (.int .u64 ((x / 2 ^ k : Nat) : Int)) := by
  rw [shift_shr .u64 .i64 _ _ (by omega) (by show (k : Int) ≤ 64; omega)]
  simp
theorem shl_u64 (x k : Nat) (hk : k < 64) (h : x * 2 ^ k < 18446744073709551616) : Op.shift .shl .u64 (x : Int) .i64 (k : Int) = pure (.int .u64 ((x * 2 ^ k : Nat) : Int)) := by
  rw [shift_shl .u64 .i64 _ _ (by omega) (by show (k : Int) ≤ 64; omega), IntKind.wrap_u64]
  have e : (x : Int) * 2 ^ (k : Int).toNat = ((x * 2 ^ k : Nat) : Int) := by simp
  rw [e]
  generalize x * 2 ^ k = y at *
  rw [show ((y : Int) % 18446744073709551616) = y by omega]

theorem odd_unique {a b m n : Nat} (h : 2 ^ a * (2 * m + 1) = 2 ^ b * (2 * n + 1)) : a = b ∧ m = n := by
  have key : ∀ a b m n : Nat, a ≤ b → 2 ^ a * (2 * m + 1) = 2 ^ b * (2 * n + 1) → a = b ∧ m = n := by
    intro a b m n hab h
    obtain ⟨d, rfl⟩ : ∃ d, b = a + d := ⟨b - a, by omega⟩
    rw [Nat.pow_add, Nat.mul_assoc] at h
    have h' := Nat.eq_of_mul_eq_mul_left (Nat.two_pow_pos a) h
    cases d with
    | zero => simp at h'; exact ⟨rfl, by omega⟩
    | succ d =>
      rw [Nat.pow_succ, Nat.mul_comm (2 ^ d) 2, Nat.mul_assoc] at h'
      omega
  rcases Nat.le_total a b with hab | hab
  · exact key a b m n hab h
  · obtain ⟨h1, h2⟩ := key b a n m hab h.symm
    exact ⟨h1.symm, h2.symm⟩

theorem ctz_eq {x k m : Nat} (h : x = 2 ^ k * (2 * m + 1)) (hx : x < 18446744073709551616) : Lib.ctz 64 x = k := by
  have h0 : x ≠ 0 := by
    have := Nat.two_pow_pos k
    have : 0 < 2 ^ k * (2 * m + 1) := Nat.mul_pos this (by omega)
    omega
  obtain ⟨m', h1, _⟩ := ctz_split x h0 hx
  rw [h] at h1
  have := (odd_unique h1).1
  rw [h]; exact this.symm
end Go.Proofs.YtmpcnhiklpahnaaDoor
