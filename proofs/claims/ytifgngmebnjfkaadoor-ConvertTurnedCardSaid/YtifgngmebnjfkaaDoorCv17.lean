/- Package convert: Mul and Div of all singles. -/
import Derived.Test.YtifgngmebnjfkaaDoorTurn
namespace Go.Proofs.YtifgngmebnjfkaaDoor
open Go.RowKit

/-- a single that is no NaN, as a double's word -/
def wD (x : Nat) : Nat := (floatToFloatBits .f32 x .f64).getD 0
theorem wD_eq {x : Nat} (hx : x < 4294967296) (h : isN x = false) : floatToFloatBits .f32 x .f64 = some (wD x) ∧ wD x < 18446744073709551616 ∧ wD x % 9223372036854775808 ≤ 9218868437227405312 := by
  unfold wD
  cases hi : isI x
  · obtain ⟨a, h1, h2, _⟩ := wide_ok hx (fin_of h hi)
    rw [h1]; exact ⟨rfl, h2.1, h2.le⟩
  · rw [wide_inf hx hi]; exact ⟨rfl, infD_lt _, infD_le _⟩
theorem wD_fin {x : Nat} (hx : x < 4294967296) (h : isN x = false) (hi : isI x = false) : Fi (wD x) ∧ Fp.un Ieee.double (wD x) = uS x ∧ ngD (wD x) = ngS x := by
  obtain ⟨a, h1, h2, h3, h4, _⟩ := wide_ok hx (fin_of h hi)
  unfold wD; rw [h1]; exact ⟨h2, h3, h4⟩
theorem wD_inf {x : Nat} (hx : x < 4294967296) (hi : isI x = true) : wD x = infD (ngS x) := by
  unfold wD; rw [wide_inf hx hi]; rfl
theorem ne32 (x : Nat) : (FloatKind.f32.format.order x x != some .eq) = isN x := by
  show (!(Ieee.single.order x x == some .eq)) = _
  rw [Fp.order32_self, Bool.not_not]; rfl
theorem mul_nan {a b : Nat} (h : 9218868437227405312 < a % 9223372036854775808 ∨ 9218868437227405312 < b % 9223372036854775808) : Ieee.double.mul a b = none := by
  unfold Ieee.Format.mul
  rcases h with h | h
  · obtain ⟨s, t, e⟩ := read_nanD h
    rw [e]; rfl
  · obtain ⟨s, t, e⟩ := read_nanD h
    rw [e]
    cases Ieee.double.read a <;> rfl
theorem div_nan {a b : Nat} (h : 9218868437227405312 < a % 9223372036854775808 ∨ 9218868437227405312 < b % 9223372036854775808) : Ieee.double.div a b = none := by
  unfold Ieee.Format.div
  rcases h with h | h
  · obtain ⟨s, t, e⟩ := read_nanD h
    rw [e]; rfl
  · obtain ⟨s, t, e⟩ := read_nanD h
    rw [e]
    cases Ieee.double.read a <;> rfl

def mulWd (x y : Nat) (mode : Int) : Nat :=
  if isN x || isN y then 2143289344 else match Ieee.double.mul (wD x) (wD y) with
  | none => 2143289344
  | some p => nWord p mode
def mulFl (x y : Nat) (mode : Int) : Int :=
  if isN x || isN y then 0 else match Ieee.double.mul (wD x) (wD y) with
  | none => 8
  | some p => nFlags p mode
theorem Mul_known (x y : Nat) (mode : Int) (hx : x < 4294967296) (hy : y < 4294967296) (hmode : 0 ≤ mode ∧ mode ≤ 4) (w : World) (hT : FmS w) : Calls Tryd.prog 48 #[.float .f32 x, .float .f32 y, .int .i64 mode] w fun e' w' => e' = .returned (.tuple #[.float .f32 (mulWd x y mode), .int .i64 (mulFl x y mode), .int .i64 0]) ∧ Within w w' := by
  have KN : Hid (∀ w, Calls Tryd.prog 66 #[.int .i64 mode] w fun e' w' => e' = .returned (.bool true) ∧ w = w') := Lib.hid (fun w => by have := known_any mode w; rw [decide_eq_true hmode] at this; exact this)
  have NO := Lib.hid none_any
  have e1 := ne32 x
  have e2 := ne32 y
  unfold mulWd mulFl
  cases nx : isN x
  · rw [nx] at e1
    obtain ⟨ha, la0, la⟩ := wD_eq hx nx
    cases ny : isN y
    · rw [ny] at e2
      obtain ⟨hb, lb0, lb⟩ := wD_eq hy ny
      have hff : ¬ ((false || false) = true) := Bool.false_ne_true
      rw [if_neg hff, if_neg hff]
      cases hm : Ieee.double.mul (wD x) (wD y) with
      | none => exact mul_invalid x y _ _ mode KN e1 e2 ha hb hm (fun t => ne_true (nanb_gt _ _ t)) NO w
      | some p =>
        obtain ⟨p1, p2⟩ := mul_good hm
        have np := ne_false p2
        have PL := Lib.hid (fun w => plain_any p p1 p2 w)
        have hsp := sgn_split p1
        have hm' : ¬¬(0 ≤ mode ∧ mode ≤ 4) := fun h => h hmode
        have hn : ¬ 9218868437227405312 < p % 9223372036854775808 := by omega
        show Calls _ _ _ _ fun e' w' => e' = .returned (.tuple #[.float .f32 (nWord p mode), .int .i64 (nFlags p mode), .int .i64 0]) ∧ Within w w'
        unfold nWord nFlags
        rw [if_neg hm', if_neg hm', if_neg hn, if_neg hn]
        by_cases hz : p % 9223372036854775808 = 0
        · rw [decide_eq_true (.inl hz)] at PL
          rw [if_pos hz, if_pos hz]
          refine mul_plain x y _ _ mode KN e1 e2 ha hb p hm np PL _ ?_ w
          rw [hz, Nat.zero_add] at hsp
          conv => lhs; rw [hsp]
          exact nbits_zero _
        rw [if_neg hz, if_neg hz]
        by_cases hi : p % 9223372036854775808 = 9218868437227405312
        · rw [decide_eq_true (.inr hi)] at PL
          rw [if_pos hi, if_pos hi]
          refine mul_plain x y _ _ mode KN e1 e2 ha hb p hm np PL _ ?_ w
          rw [hi] at hsp
          conv => lhs; rw [hsp]
          exact nbits_inf _
        rw [if_neg hi, if_neg hi]
        rw [decide_eq_false (show ¬ (p % 9223372036854775808 = 0 ∨ p % 9223372036854775808 = 9218868437227405312) by omega)] at PL
        have h0 : magD p ≠ 0 := fun h => hz (magD_zero.1 h)
        obtain ⟨t1, t2, t3, _⟩ := top53_bounds h0 (magD_rep (by omega))
        have TK := Lib.hid (fun w => take_any p (magD p) p1 h0 (by omega) rfl w)
        have RN := Lib.hid (fun w => round_S (ngD p) (top53 (magD p)) (((magD p).log2 : Int) - 1126) mode (by omega) (by omega) (by omega) (by omega) hmode w)
        exact mul_main x y _ _ mode KN e1 e2 ha hb p hm np PL _ _ _ _ _ _ TK RN (sWord_bits (ngD p) _ mode (by omega) (by omega)) w hT
    · rw [ny] at e2
      obtain ⟨gy, iy, dy⟩ := isN_nan ny
      have hft : (false || true) = true := rfl
      rw [if_pos hft, if_pos hft]
      exact mul_fn x y _ mode KN e1 e2 ha gy iy dy (fun ty => mul_nan (.inr (nanc_gt _ ty))) NO w
  · rw [nx] at e1
    obtain ⟨gx, ix, dx⟩ := isN_nan nx
    have htt : ∀ q, (true || q) = true := fun q => rfl
    rw [if_pos (htt _), if_pos (htt _)]
    cases ny : isN y
    · obtain ⟨hb, lb0, lb⟩ := wD_eq hy ny
      exact mul_nf x y _ mode KN e1 gx ix dx hb (fun tx => mul_nan (.inl (nanc_gt _ tx))) NO w
    · obtain ⟨gy, iy, dy⟩ := isN_nan ny
      exact mul_nn x y mode KN e1 gx ix dx gy iy dy (fun tx ty => mul_nan (.inl (nanc_gt _ tx))) NO w
end Go.Proofs.YtifgngmebnjfkaaDoor
