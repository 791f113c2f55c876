/- Package convert: Add of all singles. -/
import Derived.Test.YtifgngmebnjfkaaDoorCv14
namespace Go.Proofs.YtifgngmebnjfkaaDoor
open Go.RowKit

def isN (x : Nat) : Bool := decide (2139095040 < x % 2147483648)
def isI (x : Nat) : Bool := decide (x % 2147483648 = 2139095040)
def infD (s : Bool) : Nat := 9218868437227405312 + sgnD s
def infS (s : Bool) : Nat := 2139095040 + sgnS s
theorem inf_word {x : Nat} (hx : x < 4294967296) (h : isI x = true) : x = infS (ngS x) := by
  have h1 := of_decide_eq_true h
  unfold infS ngS sgnS
  by_cases g : 2147483648 ≤ x
  · rw [decide_eq_true g, if_pos rfl]; omega
  · rw [decide_eq_false g, if_neg Bool.false_ne_true]; omega
theorem infD_le (s : Bool) : infD s % 9223372036854775808 ≤ 9218868437227405312 := by cases s <;> decide
theorem infD_lt (s : Bool) : infD s < 18446744073709551616 := by cases s <;> decide
theorem wide_inf {x : Nat} (hx : x < 4294967296) (h : isI x = true) : floatToFloatBits .f32 x .f64 = some (infD (ngS x)) := by
  have e := wbits_inf (ngS x)
  have g := inf_word hx h
  unfold infS at g
  rw [← g] at e
  exact e
theorem read_fi {a : Nat} (h : Fi a) : ∃ s m e, Ieee.double.read a = .number s m e := by
  obtain ⟨m, e, r, _⟩ := Fp.read_fin Ieee.double a h.rg
  exact ⟨_, m, e, r⟩
theorem read_infD (s : Bool) : Ieee.double.read (infD s) = .infinity s := by cases s <;> rfl
theorem write_infD (s : Bool) : Ieee.double.write (.infinity s) = infD s := by cases s <;> decide +kernel
theorem add_inf_l (s : Bool) {b : Nat} (h : Fi b) : Ieee.double.add (infD s) b = some (infD s) := by
  obtain ⟨g, m, e, r⟩ := read_fi h
  unfold Ieee.Format.add
  rw [read_infD, r, ← write_infD s]
  rfl
theorem add_inf_r (s : Bool) {b : Nat} (h : Fi b) : Ieee.double.add b (infD s) = some (infD s) := by
  obtain ⟨g, m, e, r⟩ := read_fi h
  unfold Ieee.Format.add
  rw [read_infD, r, ← write_infD s]
  rfl
theorem add_inf_same (s : Bool) : Ieee.double.add (infD s) (infD s) = some (infD s) := by cases s <;> decide +kernel
theorem add_inf_diff {s t : Bool} (h : s ≠ t) : Ieee.double.add (infD s) (infD t) = none := by
  revert h; cases s <;> cases t <;> decide +kernel
theorem sub_inf_self (s : Bool) : Ieee.double.sub (infD s) (infD s) = none := by cases s <;> decide +kernel
theorem finite_inf_any (s : Bool) (w : World) : Calls Tryd.prog 89 #[.float .f64 (infD s)] w fun e w' => e = .returned (.bool false) ∧ Within w w' :=
  finite_inf (infD s) (sub_inf_self s) (fun t => nan_zero (nanb_gt _ _ t)) w

/-- Add's word and flags, the mode known -/
def addWd (x y : Nat) (mode : Int) : Nat :=
  if isN x || isN y then 2143289344
  else if isI x then (if isI y && ngS x != ngS y then 2143289344 else infS (ngS x))
  else if isI y then infS (ngS y)
  else addW (uS x) (uS y) (ngS x) (ngS y) mode
def addFl (x y : Nat) (mode : Int) : Int :=
  if isN x || isN y then 0
  else if isI x then (if isI y && ngS x != ngS y then 8 else 0)
  else if isI y then 0
  else addF (uS x) (uS y) mode
theorem isN_nan {x : Nat} (h : isN x = true) : ∃ g i, FloatKind.f32.decode x = .nan g i := decode_nan (of_decide_eq_true h)
theorem fin_of {x : Nat} (h1 : isN x = false) (h2 : isI x = false) : x % 2147483648 < 2139095040 := by
  have g1 := of_decide_eq_false h1
  have g2 := of_decide_eq_false h2
  omega
/-- what the wide word of a single that is no NaN is -/
theorem wide_le {x : Nat} (hx : x < 4294967296) (h : isN x = false) : ∃ a, floatToFloatBits .f32 x .f64 = some a ∧ a % 9223372036854775808 ≤ 9218868437227405312 := by
  cases hi : isI x
  · obtain ⟨a, h1, h2, _⟩ := wide_ok hx (fin_of h hi)
    exact ⟨a, h1, h2.le⟩
  · exact ⟨_, wide_inf hx hi, infD_le _⟩
theorem Add_known (x y : Nat) (mode : Int) (hx : x < 4294967296) (hy : y < 4294967296) (hmode : 0 ≤ mode ∧ mode ≤ 4) (w : World) (hT : FmS w) : Calls Tryd.prog 47 #[.float .f32 x, .float .f32 y, .int .i64 mode] w fun e' w' => e' = .returned (.tuple #[.float .f32 (addWd x y mode), .int .i64 (addFl x y mode), .int .i64 0]) ∧ Within w w' := by
  have KN : Hid (∀ w, Calls Tryd.prog 66 #[.int .i64 mode] w fun e' w' => e' = .returned (.bool true) ∧ w = w') := Lib.hid (fun w => by have := known_any mode w; rw [decide_eq_true hmode] at this; exact this)
  have NO := Lib.hid none_any
  unfold addWd addFl
  cases nx : isN x
  · obtain ⟨a, ha, la⟩ := wide_le hx nx
    cases ny : isN y
    · obtain ⟨b, hb, lb⟩ := wide_le hy ny
      have hff : ¬ ((false || false) = true) := Bool.false_ne_true
      rw [if_neg hff, if_neg hff]
      refine add_core x y a b _ mode _ KN ha hb (Lib.hid fun w hT => ?_) w hT
      cases ix : isI x
      · rw [if_neg Bool.false_ne_true, if_neg Bool.false_ne_true]
        obtain ⟨a', a1, a2, a3, a4, a5⟩ := wide_ok hx (fin_of nx ix)
        obtain rfl : a' = a := Option.some.inj (a1.symm.trans ha)
        cases iy : isI y
        · rw [if_neg Bool.false_ne_true, if_neg Bool.false_ne_true]
          obtain ⟨b', b1, b2, b3, b4, b5⟩ := wide_ok hy (fin_of ny iy)
          obtain rfl : b' = b := Option.some.inj (b1.symm.trans hb)
          have := sum_fin a2 b2 (by rw [a3]; exact a5) (by rw [b3]; exact b5) hmode w hT
          rw [a3, b3] at this
          have e1 : decide (9223372036854775808 ≤ a') = ngS x := a4
          have e2 : decide (9223372036854775808 ≤ b') = ngS y := b4
          rw [e1, e2] at this
          exact this
        · rw [if_pos rfl, if_pos rfl]
          obtain rfl : infD (ngS y) = b := Option.some.inj ((wide_inf hy iy).symm.trans hb)
          exact sum_inf a' _ mode (ne_false la) (ne_false lb) _ (add_inf_r _ a2) (ne_false (infD_le _)) (Lib.hid fun w => finite_inf_any _ w) _ (nbits_inf _) w
      · rw [if_pos rfl, if_pos rfl]
        obtain rfl : infD (ngS x) = a := Option.some.inj ((wide_inf hx ix).symm.trans ha)
        cases iy : isI y
        · have hfg : ¬ ((false && ngS x != ngS y) = true) := Bool.false_ne_true
          rw [if_neg hfg, if_neg hfg]
          obtain ⟨b', b1, b2, b3, b4, b5⟩ := wide_ok hy (fin_of ny iy)
          obtain rfl : b' = b := Option.some.inj (b1.symm.trans hb)
          exact sum_inf _ b' mode (ne_false la) (ne_false lb) _ (add_inf_l _ b2) (ne_false (infD_le _)) (Lib.hid fun w => finite_inf_any _ w) _ (nbits_inf _) w
        · obtain rfl : infD (ngS y) = b := Option.some.inj ((wide_inf hy iy).symm.trans hb)
          by_cases g : ngS x = ngS y
          · rw [← g] at lb ⊢
            have hsm : ¬ ((true && ngS x != ngS x) = true) := by rw [bne_self_eq_false]; decide
            rw [if_neg hsm, if_neg hsm]
            exact sum_inf _ _ mode (ne_false la) (ne_false la) _ (add_inf_same _) (ne_false (infD_le _)) (Lib.hid fun w => finite_inf_any _ w) _ (nbits_inf _) w
          · have e : (true && ngS x != ngS y) = true := by rw [Bool.true_and, bne_iff_ne]; exact g
            rw [if_pos e, if_pos e]
            exact sum_invalid _ _ mode (ne_false la) (ne_false lb) (add_inf_diff g) (fun t => ne_true (nanb_gt _ _ t)) NO w
    · obtain ⟨gy, iy, dy⟩ := isN_nan ny
      have hft : (false || true) = true := rfl
      rw [if_pos hft, if_pos hft]
      exact add_fn x y a mode KN ha gy iy dy (Lib.hid fun ty w => sum_nan_b a _ mode (ne_false la) (ne_true (nanc_gt _ ty)) (add_nan (.inr (nanc_gt _ ty))) NO w) w
  · obtain ⟨gx, ix, dx⟩ := isN_nan nx
    have htt : ∀ q, (true || q) = true := fun q => rfl
    rw [if_pos (htt _), if_pos (htt _)]
    cases ny : isN y
    · obtain ⟨b, hb, lb⟩ := wide_le hy ny
      exact add_nf x y b mode KN gx ix dx hb (Lib.hid fun tx w => sum_nan_a _ b mode (ne_true (nanc_gt _ tx)) (add_nan (.inl (nanc_gt _ tx))) NO w) w
    · obtain ⟨gy, iy, dy⟩ := isN_nan ny
      exact add_nn x y mode KN gx ix dx gy iy dy (Lib.hid fun tx ty w => sum_nan_a _ _ mode (ne_true (nanc_gt _ tx)) (add_nan (.inl (nanc_gt _ tx))) NO w) w
end Go.Proofs.YtifgngmebnjfkaaDoor
