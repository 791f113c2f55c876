/- The laws' comparisons of answers: walks. -/
import Derived.Test.YtifgngmebnjfkaaDoorCv11
namespace Go.Proofs.YtifgngmebnjfkaaDoor
open Go.RowKit

set_option maxRecDepth 100000 in
set_option maxHeartbeats 600000 in
theorem is_any (a b : Nat) (w : World) : Calls Tryd.prog 25 #[.float .f64 a, .int .u64 (b : Int)] w fun e w' => e = .returned (.bool ((a : Int) == b)) ∧ w = w' := by
  go_enter Tryd.func25, Tryd.ntmps25
  go_wp2
  go_ret
  exact ⟨rfl, rfl⟩

theorem is_yes (a : Nat) (w : World) : Calls Tryd.prog 25 #[.float .f64 a, .int .u64 (a : Int)] w fun e w' => e = .returned (.bool true) ∧ w = w' := by
  have := is_any a a w
  rwa [show ((a : Int) == (a : Int)) = true by simp] at this
theorem is32_yes (a : Nat) (w : World) : Calls Tryd.prog 56 #[.float .f32 a, .int .u32 (a : Int)] w fun e w' => e = .returned (.bool true) ∧ w = w' := by
  have := is32_any a a w
  rwa [show ((a : Int) == (a : Int)) = true by simp] at this

set_option maxRecDepth 100000 in
set_option maxHeartbeats 600000 in
theorem told_yes (a : Nat) (k n : Int) (w : World) : Calls Tryd.prog 24 #[.float .f32 a, .int .i64 k, .int .i64 n, .int .u32 (a : Int), .int .i64 k, .int .i64 n] w fun e w' => e = .returned (.bool true) ∧ w = w' := by
  have hk : (k == k) = true := by simp
  have hn : (n == n) = true := by simp
  go_enter Tryd.func24, Tryd.ntmps24
  go_wp2_with fail
  refine (is32_yes a _).mono ?_; rintro e1 w1 ⟨rfl, rfl⟩
  go_wp2
  go_ret
  exact ⟨rfl, rfl⟩

set_option maxRecDepth 100000 in
set_option maxHeartbeats 600000 in
theorem told64_yes (a : Nat) (k n : Int) (w : World) : Calls Tryd.prog 36 #[.float .f64 a, .int .i64 k, .int .i64 n, .int .u64 (a : Int), .int .i64 k, .int .i64 n] w fun e w' => e = .returned (.bool true) ∧ w = w' := by
  have hk : (k == k) = true := by simp
  have hn : (n == n) = true := by simp
  go_enter Tryd.func36, Tryd.ntmps36
  go_wp2_with fail
  refine (is_yes a _).mono ?_; rintro e1 w1 ⟨rfl, rfl⟩
  go_wp2
  go_ret
  exact ⟨rfl, rfl⟩

end Go.Proofs.YtifgngmebnjfkaaDoor
