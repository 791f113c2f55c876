/- ConvertScales: any number, any power: the walk. -/
import Derived.Test.YtifgngmebnjfkaaDoorSc1
import Derived.Test.YtifgngmebnjfkaaDoorRf7
import Derived.Test.YtifgngmebnjfkaaDoorTold
namespace Go.Proofs.YtifgngmebnjfkaaDoor
open Go.RowKit

set_option maxRecDepth 100000 in
set_option maxHeartbeats 600000 in
theorem scales_core (x a : Nat) (k mode fl n : Int) (NX : Hid (∀ w, FmD w → Calls Tryd.prog 34 #[.float .f64 x, .int .i64 k, .int .i64 mode] w fun e' w' => e' = .returned (.tuple #[.float .f64 a, .int .i64 fl, .int .i64 n]) ∧ Within w w')) (RX : Hid (∀ w, Calls Tryd.prog 35 #[.int .u64 (x : Int), .int .i64 k, .int .i64 mode] w fun e' w' => e' = .returned (.tuple #[.int .u64 (a : Int), .int .i64 fl, .int .i64 n]) ∧ Within w w')) (w : World) (hT : FmS w) (hD : FmD w) : Calls Tryd.prog 6 #[.int .u64 (x : Int), .int .i64 k, .int .i64 mode] w fun e' w' => e' = .returned (.bool true) ∧ Within w w' := by
  go_enter Tryd.func6, Tryd.ntmps6
  go_wp2_with fail
  refine (f_any x _).mono ?_; rintro e1 w1 ⟨rfl, rfl⟩
  go_wp2_with fail
  refine (NX.out _ (hD.of (by repeat (first | with_reducible exact Within.refl _ | with_reducible assumption | with_reducible refine Within.alloc ?_ _ | with_reducible refine Within.drew ?_ | with_reducible refine Within.setCell ?_ (by first | (simp; done) | (simp; omega)) _ | with_reducible refine Within.trans ?_ (by assumption))))).mono ?_; rintro e2 w2 ⟨rfl, hb2⟩
  go_wp2_with fail
  refine (RX.out _).mono ?_; rintro e3 w3 ⟨rfl, hb3⟩
  go_wp2_with fail
  refine (told64_yes a fl n _).mono ?_; rintro e4 w4 ⟨rfl, rfl⟩
  go_wp2_with fail
  refine (awake_true _ (hT.of (by repeat (first | with_reducible exact Within.refl _ | with_reducible assumption | with_reducible refine Within.alloc ?_ _ | with_reducible refine Within.drew ?_ | with_reducible refine Within.setCell ?_ (by first | (simp; done) | (simp; omega)) _ | with_reducible refine Within.trans ?_ (by assumption))))).mono ?_; rintro e5 w5 ⟨rfl, hb5⟩
  go_wp2
  go_ret
  exact ⟨rfl, (by repeat (first | with_reducible exact Within.refl _ | with_reducible assumption | with_reducible refine Within.alloc ?_ _ | with_reducible refine Within.drew ?_ | with_reducible refine Within.setCell ?_ (by first | (simp; done) | (simp; omega)) _ | with_reducible refine Within.trans ?_ (by assumption)))⟩

theorem scales_walk (x : Nat) (k mode : Int) (hx : x < 18446744073709551616) (_ : -9223372036854775808 ≤ k) (_ : k < 9223372036854775808) (_ : -9223372036854775808 ≤ mode) (_ : mode < 9223372036854775808) (w : World) (hT : FmS w) (hD : FmD w) : Calls Tryd.prog 6 #[.int .u64 (x : Int), .int .i64 k, .int .i64 mode] w fun e' w' => e' = .returned (.bool true) ∧ Within w w' := by
  refine scales_core x (pScW x k mode) k mode (pScF x k mode) (nErr mode) (Lib.hid fun w h => Scale_any x k mode hx w h) (Lib.hid fun w => ?_) w hT hD
  refine (RScale x hx k mode w).mono fun e w' h => ⟨h.1.trans ?_, h.2⟩
  by_cases hm : 0 ≤ mode ∧ mode ≤ 4
  · obtain ⟨h1, h2⟩ := scale_word (a := x) (k := k) hx hm
    rw [if_pos hm, if_pos hm, if_pos hm, h1, h2]
    unfold nErr; rw [if_pos hm]
  · rw [if_neg hm, if_neg hm, if_neg hm]
    unfold pScW pScF nErr
    rw [if_pos hm, if_pos hm, if_neg hm]

end Go.Proofs.YtifgngmebnjfkaaDoor
