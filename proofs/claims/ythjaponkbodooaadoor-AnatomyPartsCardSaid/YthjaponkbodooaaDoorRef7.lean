/- the document's numbers of parts: may, Copysign: walks. -/
import Derived.Test.YthjaponkbodooaaDoorRef6
import Derived.Test.YthjaponkbodooaaDoorMay
import Derived.Deep.QuietTactic
import Derived.Outline
namespace Go.Proofs.YthjaponkbodooaaDoor
open Go.RowKit

theorem u64_or_sign (a : Nat) (ha : a < 9223372036854775808) : bits .or .u64 (a : Int) 9223372036854775808 = ((a + 9223372036854775808 : Nat) : Int) := by
  rw [show (9223372036854775808 : Int) = ((9223372036854775808 : Nat) : Int) from rfl, u64_or_nat a 9223372036854775808 (by omega) (by decide), Nat.or_comm, nat_join 63 9223372036854775808 a (by decide) ha, Nat.add_comm]

set_option maxRecDepth 100000 in
set_option maxHeartbeats 600000 in
theorem copysign_neg (a : Nat) (ha : a < 9223372036854775808) (w : World) : Calls Tryd.prog 81 #[.float .f64 a, .float .f64 13830554455654793216] w fun e w' => e = .returned (.float .f64 (a + 9223372036854775808)) ∧ w = w' := by
  have h1 := u64_unsign a (by omega)
  rw [Nat.mod_eq_of_lt ha] at h1
  have h2 : bits .and .u64 13830554455654793216 9223372036854775808 = 9223372036854775808 := by decide +kernel
  have h3 := u64_or_sign a ha
  generalize hs : a + 9223372036854775808 = s at *
  have HS := Lib.hid hs; clear ha hs
  go_enter Tryd.func81, Tryd.ntmps81
  go_wp2
  go_ret
  exact ⟨rfl, rfl⟩

set_option maxRecDepth 100000 in
set_option maxHeartbeats 600000 in
theorem Rmay_D (m : Nat) (e : Int) (h0 : m ≠ 0) (hm : m < 18446744073709551616) (w : World) : Calls Tryd.prog 80 #[.int .u64 m, .int .i64 e, .int .i64 53, .int .i64 (-1074), .int .i64 1024] w fun e' w' => e' = .returned (.bool (mayD m e)) ∧ w = w' := by
  have HS := Lib.hid (fun w => Rsize_any m h0 hm w)
  have hl := (len_bounds h0 hm).2.2
  have hl2 : Lib.bitLen m ≤ 64 := by rw [bitLen_log2 m h0 hm]; have := (Nat.log2_lt h0 (k := 64)).2 hm; omega
  unfold mayD
  generalize Lib.bitLen m = L at *
  have g : IntKind.i64.wrap ((1024 : Int) - (L : Int)) = 1024 - (L : Int) := by rw [IntKind.wrap_i64]; omega
  clear h0 hm
  by_cases h1 : L ≤ 53
  · have d1 : decide ((L : Int) ≤ 53) = true := decide_eq_true (by omega)
    rw [decide_eq_true h1]
    by_cases h2 : (-1074 : Int) ≤ e
    · have d2 : decide (e ≥ (-1074 : Int)) = true := decide_eq_true h2
      have d2' : decide ((-1074 : Int) ≤ e) = true := decide_eq_true h2
      generalize hz : decide (e ≤ 1024 - (L : Int)) = z
      rw [decide_eq_true h2]
      clear h1 h2 hl hl2
      go_enter Tryd.func80, Tryd.ntmps80
      go_wp2_with fail
      refine (HS.out _).mono ?_; rintro e1 w1 ⟨rfl, rfl⟩
      go_wp2_with fail
      refine (HS.out _).mono ?_; rintro e2 w2 ⟨rfl, rfl⟩
      go_wp2
      go_ret
      exact ⟨ret_bool (by simp [hz]), rfl⟩
    · have d2 : decide (e ≥ (-1074 : Int)) = false := decide_eq_false h2
      have d2' : decide ((-1074 : Int) ≤ e) = false := decide_eq_false h2
      rw [decide_eq_false h2]
      clear h1 h2 hl hl2
      go_enter Tryd.func80, Tryd.ntmps80
      go_wp2_with fail
      refine (HS.out _).mono ?_; rintro e1 w1 ⟨rfl, rfl⟩
      go_wp2
      go_ret
      exact ⟨ret_bool (by simp), rfl⟩
  · have d1 : decide ((L : Int) ≤ 53) = false := decide_eq_false (by omega)
    rw [decide_eq_false h1]
    clear h1 hl hl2
    go_enter Tryd.func80, Tryd.ntmps80
    go_wp2_with fail
    refine (HS.out _).mono ?_; rintro e1 w1 ⟨rfl, rfl⟩
    go_wp2
    go_ret
    exact ⟨ret_bool (by simp), rfl⟩

set_option maxRecDepth 100000 in
set_option maxHeartbeats 600000 in
theorem Rmay_S (m : Nat) (e : Int) (h0 : m ≠ 0) (hm : m < 18446744073709551616) (w : World) : Calls Tryd.prog 80 #[.int .u64 m, .int .i64 e, .int .i64 24, .int .i64 (-149), .int .i64 128] w fun e' w' => e' = .returned (.bool (mayS m e)) ∧ w = w' := by
  have HS := Lib.hid (fun w => Rsize_any m h0 hm w)
  have hl := (len_bounds h0 hm).2.2
  have hl2 : Lib.bitLen m ≤ 64 := by rw [bitLen_log2 m h0 hm]; have := (Nat.log2_lt h0 (k := 64)).2 hm; omega
  unfold mayS
  generalize Lib.bitLen m = L at *
  have g : IntKind.i64.wrap ((128 : Int) - (L : Int)) = 128 - (L : Int) := by rw [IntKind.wrap_i64]; omega
  clear h0 hm
  by_cases h1 : L ≤ 24
  · have d1 : decide ((L : Int) ≤ 24) = true := decide_eq_true (by omega)
    rw [decide_eq_true h1]
    by_cases h2 : (-149 : Int) ≤ e
    · have d2 : decide (e ≥ (-149 : Int)) = true := decide_eq_true h2
      have d2' : decide ((-149 : Int) ≤ e) = true := decide_eq_true h2
      generalize hz : decide (e ≤ 128 - (L : Int)) = z
      rw [decide_eq_true h2]
      clear h1 h2 hl hl2
      go_enter Tryd.func80, Tryd.ntmps80
      go_wp2_with fail
      refine (HS.out _).mono ?_; rintro e1 w1 ⟨rfl, rfl⟩
      go_wp2_with fail
      refine (HS.out _).mono ?_; rintro e2 w2 ⟨rfl, rfl⟩
      go_wp2
      go_ret
      exact ⟨ret_bool (by simp [hz]), rfl⟩
    · have d2 : decide (e ≥ (-149 : Int)) = false := decide_eq_false h2
      have d2' : decide ((-149 : Int) ≤ e) = false := decide_eq_false h2
      rw [decide_eq_false h2]
      clear h1 h2 hl hl2
      go_enter Tryd.func80, Tryd.ntmps80
      go_wp2_with fail
      refine (HS.out _).mono ?_; rintro e1 w1 ⟨rfl, rfl⟩
      go_wp2
      go_ret
      exact ⟨ret_bool (by simp), rfl⟩
  · have d1 : decide ((L : Int) ≤ 24) = false := decide_eq_false (by omega)
    rw [decide_eq_false h1]
    clear h1 hl hl2
    go_enter Tryd.func80, Tryd.ntmps80
    go_wp2_with fail
    refine (HS.out _).mono ?_; rintro e1 w1 ⟨rfl, rfl⟩
    go_wp2
    go_ret
    exact ⟨ret_bool (by simp), rfl⟩

end Go.Proofs.YthjaponkbodooaaDoor
