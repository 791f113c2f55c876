/- ConvertNarrows: any number, any mode; any single: the walk. -/
import Derived.Test.YtifgngmebnjfkaaDoorGp2
import Derived.Test.YtifgngmebnjfkaaDoorTold
import Derived.Test.YtifgngmebnjfkaaDoorLawBack
namespace Go.Proofs.YtifgngmebnjfkaaDoor
open Go.RowKit

set_option maxRecDepth 100000 in
set_option maxHeartbeats 600000 in
theorem narrows_core (x s a v : Nat) (mode k n : Int) (z : Bool) (NX : Hid (∀ w, FmS w → Calls Tryd.prog 21 #[.float .f64 x, .int .i64 mode] w fun e' w' => e' = .returned (.tuple #[.float .f32 a, .int .i64 k, .int .i64 n]) ∧ Within w w')) (RX : Hid (∀ w, Calls Tryd.prog 23 #[.int .u64 (x : Int), .int .i64 mode] w fun e' w' => e' = .returned (.tuple #[.int .u32 (a : Int), .int .i64 k, .int .i64 n]) ∧ Within w w')) (WX : Hid (∀ w, Calls Tryd.prog 26 #[.float .f32 s] w fun e' w' => e' = .returned (.float .f64 v) ∧ Within w w')) (RW : Hid (∀ w, Calls Tryd.prog 27 #[.int .u32 (s : Int)] w fun e' w' => e' = .returned (.int .u64 (v : Int)) ∧ Within w w')) (FX : Hid (∀ w, FmS w → Calls Tryd.prog 28 #[.float .f64 x] w fun e' w' => e' = .returned (.bool z) ∧ Within w w')) (RF : Hid (∀ w, Calls Tryd.prog 29 #[.int .u64 (x : Int)] w fun e' w' => e' = .returned (.bool z) ∧ Within w w')) (w : World) (hT : FmS w) : Calls Tryd.prog 4 #[.int .u64 (x : Int), .int .u32 (s : Int), .int .i64 mode] w fun e' w' => e' = .returned (.bool true) ∧ Within w w' := by
  have hz : (z == z) = true := by simp
  go_enter Tryd.func4, Tryd.ntmps4
  go_wp2_with fail
  refine (f_any x _).mono ?_; rintro e1 w1 ⟨rfl, rfl⟩
  go_wp2_with fail
  refine (NX.out _ (hT.of (by repeat (first | with_reducible exact Within.refl _ | with_reducible assumption | with_reducible refine Within.alloc ?_ _ | with_reducible refine Within.drew ?_ | with_reducible refine Within.setCell ?_ (by first | (simp; done) | (simp; omega)) _ | with_reducible refine Within.trans ?_ (by assumption))))).mono ?_; rintro e2 w2 ⟨rfl, hb2⟩
  go_wp2_with fail
  refine (RX.out _).mono ?_; rintro e3 w3 ⟨rfl, hb3⟩
  go_wp2_with fail
  refine (told_yes a k n _).mono ?_; rintro e4 w4 ⟨rfl, rfl⟩
  go_wp2_with fail
  refine (g_any s _).mono ?_; rintro e5 w5 ⟨rfl, rfl⟩
  go_wp2_with fail
  refine (WX.out _).mono ?_; rintro e6 w6 ⟨rfl, hb6⟩
  go_wp2_with fail
  refine (RW.out _).mono ?_; rintro e7 w7 ⟨rfl, hb7⟩
  go_wp2_with fail
  refine (is_yes v _).mono ?_; rintro e8 w8 ⟨rfl, rfl⟩
  go_wp2_with fail
  refine (f_any x _).mono ?_; rintro e9 w9 ⟨rfl, rfl⟩
  go_wp2_with fail
  refine (FX.out _ (hT.of (by repeat (first | with_reducible exact Within.refl _ | with_reducible assumption | with_reducible refine Within.alloc ?_ _ | with_reducible refine Within.drew ?_ | with_reducible refine Within.setCell ?_ (by first | (simp; done) | (simp; omega)) _ | with_reducible refine Within.trans ?_ (by assumption))))).mono ?_; rintro e10 w10 ⟨rfl, hb10⟩
  go_wp2_with fail
  refine (RF.out _).mono ?_; rintro e11 w11 ⟨rfl, hb11⟩
  go_wp2_with fail
  refine (awake_true _ (hT.of (by repeat (first | with_reducible exact Within.refl _ | with_reducible assumption | with_reducible refine Within.alloc ?_ _ | with_reducible refine Within.drew ?_ | with_reducible refine Within.setCell ?_ (by first | (simp; done) | (simp; omega)) _ | with_reducible refine Within.trans ?_ (by assumption))))).mono ?_; rintro e12 w12 ⟨rfl, hb12⟩
  go_wp2
  go_ret
  exact ⟨rfl, (by repeat (first | with_reducible exact Within.refl _ | with_reducible assumption | with_reducible refine Within.alloc ?_ _ | with_reducible refine Within.drew ?_ | with_reducible refine Within.setCell ?_ (by first | (simp; done) | (simp; omega)) _ | with_reducible refine Within.trans ?_ (by assumption)))⟩

theorem narrows_walk (x s : Nat) (mode : Int) (hx : x < 18446744073709551616) (hs : s < 4294967296) (_ : -9223372036854775808 ≤ mode) (_ : mode < 9223372036854775808) (w : World) (hT : FmS w) : Calls Tryd.prog 4 #[.int .u64 (x : Int), .int .u32 (s : Int), .int .i64 mode] w fun e' w' => e' = .returned (.bool true) ∧ Within w w' := by
  refine narrows_core x s (nWord x mode) (wWord s) mode (nFlags x mode) (nErr mode) (nFlags x 0 == 0) (Lib.hid fun w h => Narrow_any x mode hx w h) (Lib.hid fun w => ?_) (Lib.hid fun w => Widen_any s hs w) (Lib.hid fun w => ?_) (Lib.hid fun w h => Fits_any x hx w h) (Lib.hid fun w => ?_) w hT
  · refine (RNarrow x hx mode w).mono fun e w' h => ⟨h.1.trans ?_, h.2⟩
    by_cases hm : 0 ≤ mode ∧ mode ≤ 4
    · obtain ⟨h1, h2⟩ := narrow_word (x := x) hm
      rw [if_pos hm, if_pos hm, if_pos hm, h1, h2, Nat.mod_eq_of_lt (nWord_lt x hx mode)]
      unfold nErr; rw [if_pos hm]
    · rw [if_neg hm, if_neg hm, if_neg hm]
      unfold nWord nFlags nErr
      rw [if_pos hm, if_pos hm, if_neg hm]
  · rw [← widen_word hs]; exact RWiden s hs w
  · rw [← (narrow_word (x := x) (mode := 0) (by decide)).2]; exact RFits x hx w

end Go.Proofs.YtifgngmebnjfkaaDoor
