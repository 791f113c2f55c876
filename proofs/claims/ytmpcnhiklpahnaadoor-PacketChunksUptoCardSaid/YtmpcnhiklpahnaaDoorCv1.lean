/- Rounding in package convert: digits are taken away: the walk of 'drop', way by way. -/
import Derived.Test.YtmpcnhiklpahnaaDoorMath2
import Derived.Test.YtmpcnhiklpahnaaDoorLen
namespace Go.Proofs.YtmpcnhiklpahnaaDoor
open Go.RowKit


set_option maxRecDepth 100000 in
set_option maxHeartbeats 600000 in
theorem drop_left (neg : Bool) (m k y : Nat) (e mode : Int) (hk : k ≤ 63) (hs : IntKind.u64.wrap ((m : Int) * 2 ^ k) = (y : Int)) (w : World) : Calls Tryd.prog 73 #[.agg #[.bool neg, .int .u64 m, .int .i64 e], .int .i64 (-(k : Int)), .int .i64 mode] w fun e' w' => e' = .returned (.tuple #[.int .u64 y, .bool false]) ∧ Within w w' := by
  have d : decide (-(k : Int) ≤ 0) = true := decide_eq_true (by omega)
  have g : IntKind.i64.wrap (- -(k : Int)) = (k : Int) := by rw [IntKind.wrap_i64]; omega
  have g' : - -(k : Int) = (k : Int) := by omega
  have g2 : IntKind.u64.wrap (k : Int) = (k : Int) := by rw [IntKind.wrap_u64]; omega
  go_enter Tryd.func73, Tryd.ntmps73
  go_wp2
  go_ret2
  exact ⟨rfl, (by repeat (first | with_reducible exact Within.refl _ | with_reducible assumption | with_reducible refine Within.alloc ?_ _ | with_reducible refine Within.drew ?_ | with_reducible refine Within.setCell ?_ (by first | (simp; done) | (simp; omega)) _ | with_reducible refine Within.trans ?_ (by assumption)))⟩

set_option maxRecDepth 100000 in
set_option maxHeartbeats 600000 in
theorem drop_none (neg : Bool) (m s t q q1 p mid rest : Nat) (e : Int) (hq1 : q1 = q + 1) (h1 : 1 ≤ s) (h2 : s ≤ 64) (ht : s = t + 1) (hm : m < 18446744073709551616) (hq : q ≤ 9223372036854775808) (sh1 : (m : Int) / 2 ^ s = (q : Int)) (sh2 : IntKind.u64.wrap ((q : Int) * 2 ^ s) = (p : Int)) (sh3 : IntKind.u64.wrap (2 ^ t) = (mid : Int)) (hr : (m : Int) - p = rest) (mode : Int) (h0 : rest = 0) (hmid : 0 < mid) (w : World) : Calls Tryd.prog 73 #[.agg #[.bool neg, .int .u64 m, .int .i64 e], .int .i64 (s : Int), .int .i64 mode] w fun e' w' => e' = .returned (.tuple #[.int .u64 q, .bool false]) ∧ Within w w' := by
  have d1 : decide ((s : Int) ≤ 0) = false := decide_eq_false (by omega)
  have d2 : decide ((s : Int) > 64) = false := decide_eq_false (by omega)
  have g2 : IntKind.u64.wrap (s : Int) = (s : Int) := by rw [IntKind.wrap_u64]; omega
  have g3 : (s : Int) - 1 = (t : Int) := by omega
  have g4 : IntKind.u64.wrap (t : Int) = (t : Int) := by rw [IntKind.wrap_u64]; omega
  have h3 : t ≤ 63 := by omega
  have g5 : IntKind.u64.wrap ((m : Int) - p) = (rest : Int) := by rw [IntKind.wrap_u64]; omega
  have g7 : IntKind.u64.wrap ((q : Int) + 1) = (q1 : Int) := by rw [IntKind.wrap_u64]; omega
  subst h0
  have HS := Lib.hid (And.intro ht (And.intro hm (And.intro hq hq1)))
  clear hr ht hm hq hq1
  go_enter Tryd.func73, Tryd.ntmps73
  go_wp2
  go_ret2
  exact ⟨rfl, (by repeat (first | with_reducible exact Within.refl _ | with_reducible assumption | with_reducible refine Within.alloc ?_ _ | with_reducible refine Within.drew ?_ | with_reducible refine Within.setCell ?_ (by first | (simp; done) | (simp; omega)) _ | with_reducible refine Within.trans ?_ (by assumption)))⟩

set_option maxRecDepth 100000 in
set_option maxHeartbeats 600000 in
theorem drop_lt_0 (neg : Bool) (m s t q q1 p mid rest : Nat) (e : Int) (hq1 : q1 = q + 1) (h1 : 1 ≤ s) (h2 : s ≤ 64) (ht : s = t + 1) (hm : m < 18446744073709551616) (hq : q ≤ 9223372036854775808) (sh1 : (m : Int) / 2 ^ s = (q : Int)) (sh2 : IntKind.u64.wrap ((q : Int) * 2 ^ s) = (p : Int)) (sh3 : IntKind.u64.wrap (2 ^ t) = (mid : Int)) (hr : (m : Int) - p = rest) (hc : rest < mid) (h0 : ((rest : Int) == 0) = false) (w : World) : Calls Tryd.prog 73 #[.agg #[.bool neg, .int .u64 m, .int .i64 e], .int .i64 (s : Int), .int .i64 0] w fun e' w' => e' = .returned (.tuple #[.int .u64 q, .bool true]) ∧ Within w w' := by
  have d1 : decide ((s : Int) ≤ 0) = false := decide_eq_false (by omega)
  have d2 : decide ((s : Int) > 64) = false := decide_eq_false (by omega)
  have g2 : IntKind.u64.wrap (s : Int) = (s : Int) := by rw [IntKind.wrap_u64]; omega
  have g3 : (s : Int) - 1 = (t : Int) := by omega
  have g4 : IntKind.u64.wrap (t : Int) = (t : Int) := by rw [IntKind.wrap_u64]; omega
  have h3 : t ≤ 63 := by omega
  have g5 : IntKind.u64.wrap ((m : Int) - p) = (rest : Int) := by rw [IntKind.wrap_u64]; omega
  have g7 : IntKind.u64.wrap ((q : Int) + 1) = (q1 : Int) := by rw [IntKind.wrap_u64]; omega
  have c1 : rest < mid := hc
  have g8 : IntKind.u64.wrap (q1 : Int) = (q1 : Int) := by rw [IntKind.wrap_u64]; omega
  have HS := Lib.hid (And.intro ht (And.intro hm (And.intro hq hq1)))
  clear hr ht hm hq hq1
  go_enter Tryd.func73, Tryd.ntmps73
  go_wp2
  go_ret2
  exact ⟨rfl, (by repeat (first | with_reducible exact Within.refl _ | with_reducible assumption | with_reducible refine Within.alloc ?_ _ | with_reducible refine Within.drew ?_ | with_reducible refine Within.setCell ?_ (by first | (simp; done) | (simp; omega)) _ | with_reducible refine Within.trans ?_ (by assumption)))⟩

set_option maxRecDepth 100000 in
set_option maxHeartbeats 600000 in
theorem drop_lt_1 (neg : Bool) (m s t q q1 p mid rest : Nat) (e : Int) (hq1 : q1 = q + 1) (h1 : 1 ≤ s) (h2 : s ≤ 64) (ht : s = t + 1) (hm : m < 18446744073709551616) (hq : q ≤ 9223372036854775808) (sh1 : (m : Int) / 2 ^ s = (q : Int)) (sh2 : IntKind.u64.wrap ((q : Int) * 2 ^ s) = (p : Int)) (sh3 : IntKind.u64.wrap (2 ^ t) = (mid : Int)) (hr : (m : Int) - p = rest) (hc : rest < mid) (h0 : ((rest : Int) == 0) = false) (w : World) : Calls Tryd.prog 73 #[.agg #[.bool neg, .int .u64 m, .int .i64 e], .int .i64 (s : Int), .int .i64 1] w fun e' w' => e' = .returned (.tuple #[.int .u64 q, .bool true]) ∧ Within w w' := by
  have d1 : decide ((s : Int) ≤ 0) = false := decide_eq_false (by omega)
  have d2 : decide ((s : Int) > 64) = false := decide_eq_false (by omega)
  have g2 : IntKind.u64.wrap (s : Int) = (s : Int) := by rw [IntKind.wrap_u64]; omega
  have g3 : (s : Int) - 1 = (t : Int) := by omega
  have g4 : IntKind.u64.wrap (t : Int) = (t : Int) := by rw [IntKind.wrap_u64]; omega
  have h3 : t ≤ 63 := by omega
  have g5 : IntKind.u64.wrap ((m : Int) - p) = (rest : Int) := by rw [IntKind.wrap_u64]; omega
  have g7 : IntKind.u64.wrap ((q : Int) + 1) = (q1 : Int) := by rw [IntKind.wrap_u64]; omega
  have c1 : rest < mid := hc
  have g8 : IntKind.u64.wrap (q1 : Int) = (q1 : Int) := by rw [IntKind.wrap_u64]; omega
  have HS := Lib.hid (And.intro ht (And.intro hm (And.intro hq hq1)))
  clear hr ht hm hq hq1
  go_enter Tryd.func73, Tryd.ntmps73
  go_wp2
  go_ret2
  exact ⟨rfl, (by repeat (first | with_reducible exact Within.refl _ | with_reducible assumption | with_reducible refine Within.alloc ?_ _ | with_reducible refine Within.drew ?_ | with_reducible refine Within.setCell ?_ (by first | (simp; done) | (simp; omega)) _ | with_reducible refine Within.trans ?_ (by assumption)))⟩

set_option maxRecDepth 100000 in
set_option maxHeartbeats 600000 in
theorem drop_lt_2 (neg : Bool) (m s t q q1 p mid rest : Nat) (e : Int) (hq1 : q1 = q + 1) (h1 : 1 ≤ s) (h2 : s ≤ 64) (ht : s = t + 1) (hm : m < 18446744073709551616) (hq : q ≤ 9223372036854775808) (sh1 : (m : Int) / 2 ^ s = (q : Int)) (sh2 : IntKind.u64.wrap ((q : Int) * 2 ^ s) = (p : Int)) (sh3 : IntKind.u64.wrap (2 ^ t) = (mid : Int)) (hr : (m : Int) - p = rest) (hc : rest < mid) (h0 : ((rest : Int) == 0) = false) (w : World) : Calls Tryd.prog 73 #[.agg #[.bool neg, .int .u64 m, .int .i64 e], .int .i64 (s : Int), .int .i64 2] w fun e' w' => e' = .returned (.tuple #[.int .u64 q, .bool true]) ∧ Within w w' := by
  have d1 : decide ((s : Int) ≤ 0) = false := decide_eq_false (by omega)
  have d2 : decide ((s : Int) > 64) = false := decide_eq_false (by omega)
  have g2 : IntKind.u64.wrap (s : Int) = (s : Int) := by rw [IntKind.wrap_u64]; omega
  have g3 : (s : Int) - 1 = (t : Int) := by omega
  have g4 : IntKind.u64.wrap (t : Int) = (t : Int) := by rw [IntKind.wrap_u64]; omega
  have h3 : t ≤ 63 := by omega
  have g5 : IntKind.u64.wrap ((m : Int) - p) = (rest : Int) := by rw [IntKind.wrap_u64]; omega
  have g7 : IntKind.u64.wrap ((q : Int) + 1) = (q1 : Int) := by rw [IntKind.wrap_u64]; omega
  have c1 : rest < mid := hc
  have g8 : IntKind.u64.wrap (q1 : Int) = (q1 : Int) := by rw [IntKind.wrap_u64]; omega
  have HS := Lib.hid (And.intro ht (And.intro hm (And.intro hq hq1)))
  clear hr ht hm hq hq1
  go_enter Tryd.func73, Tryd.ntmps73
  go_wp2
  go_ret2
  exact ⟨rfl, (by repeat (first | with_reducible exact Within.refl _ | with_reducible assumption | with_reducible refine Within.alloc ?_ _ | with_reducible refine Within.drew ?_ | with_reducible refine Within.setCell ?_ (by first | (simp; done) | (simp; omega)) _ | with_reducible refine Within.trans ?_ (by assumption)))⟩

set_option maxRecDepth 100000 in
set_option maxHeartbeats 600000 in
theorem drop_lt_3n (m s t q q1 p mid rest : Nat) (e : Int) (hq1 : q1 = q + 1) (h1 : 1 ≤ s) (h2 : s ≤ 64) (ht : s = t + 1) (hm : m < 18446744073709551616) (hq : q ≤ 9223372036854775808) (sh1 : (m : Int) / 2 ^ s = (q : Int)) (sh2 : IntKind.u64.wrap ((q : Int) * 2 ^ s) = (p : Int)) (sh3 : IntKind.u64.wrap (2 ^ t) = (mid : Int)) (hr : (m : Int) - p = rest) (hc : rest < mid) (h0 : ((rest : Int) == 0) = false) (w : World) : Calls Tryd.prog 73 #[.agg #[.bool true, .int .u64 m, .int .i64 e], .int .i64 (s : Int), .int .i64 3] w fun e' w' => e' = .returned (.tuple #[.int .u64 q, .bool true]) ∧ Within w w' := by
  have d1 : decide ((s : Int) ≤ 0) = false := decide_eq_false (by omega)
  have d2 : decide ((s : Int) > 64) = false := decide_eq_false (by omega)
  have g2 : IntKind.u64.wrap (s : Int) = (s : Int) := by rw [IntKind.wrap_u64]; omega
  have g3 : (s : Int) - 1 = (t : Int) := by omega
  have g4 : IntKind.u64.wrap (t : Int) = (t : Int) := by rw [IntKind.wrap_u64]; omega
  have h3 : t ≤ 63 := by omega
  have g5 : IntKind.u64.wrap ((m : Int) - p) = (rest : Int) := by rw [IntKind.wrap_u64]; omega
  have g7 : IntKind.u64.wrap ((q : Int) + 1) = (q1 : Int) := by rw [IntKind.wrap_u64]; omega
  have c1 : rest < mid := hc
  have g8 : IntKind.u64.wrap (q1 : Int) = (q1 : Int) := by rw [IntKind.wrap_u64]; omega
  have HS := Lib.hid (And.intro ht (And.intro hm (And.intro hq hq1)))
  clear hr ht hm hq hq1
  go_enter Tryd.func73, Tryd.ntmps73
  go_wp2
  go_ret2
  exact ⟨rfl, (by repeat (first | with_reducible exact Within.refl _ | with_reducible assumption | with_reducible refine Within.alloc ?_ _ | with_reducible refine Within.drew ?_ | with_reducible refine Within.setCell ?_ (by first | (simp; done) | (simp; omega)) _ | with_reducible refine Within.trans ?_ (by assumption)))⟩

set_option maxRecDepth 100000 in
set_option maxHeartbeats 600000 in
theorem drop_lt_3p (m s t q q1 p mid rest : Nat) (e : Int) (hq1 : q1 = q + 1) (h1 : 1 ≤ s) (h2 : s ≤ 64) (ht : s = t + 1) (hm : m < 18446744073709551616) (hq : q ≤ 9223372036854775808) (sh1 : (m : Int) / 2 ^ s = (q : Int)) (sh2 : IntKind.u64.wrap ((q : Int) * 2 ^ s) = (p : Int)) (sh3 : IntKind.u64.wrap (2 ^ t) = (mid : Int)) (hr : (m : Int) - p = rest) (hc : rest < mid) (h0 : ((rest : Int) == 0) = false) (w : World) : Calls Tryd.prog 73 #[.agg #[.bool false, .int .u64 m, .int .i64 e], .int .i64 (s : Int), .int .i64 3] w fun e' w' => e' = .returned (.tuple #[.int .u64 q1, .bool true]) ∧ Within w w' := by
  have d1 : decide ((s : Int) ≤ 0) = false := decide_eq_false (by omega)
  have d2 : decide ((s : Int) > 64) = false := decide_eq_false (by omega)
  have g2 : IntKind.u64.wrap (s : Int) = (s : Int) := by rw [IntKind.wrap_u64]; omega
  have g3 : (s : Int) - 1 = (t : Int) := by omega
  have g4 : IntKind.u64.wrap (t : Int) = (t : Int) := by rw [IntKind.wrap_u64]; omega
  have h3 : t ≤ 63 := by omega
  have g5 : IntKind.u64.wrap ((m : Int) - p) = (rest : Int) := by rw [IntKind.wrap_u64]; omega
  have g7 : IntKind.u64.wrap ((q : Int) + 1) = (q1 : Int) := by rw [IntKind.wrap_u64]; omega
  have c1 : rest < mid := hc
  have g8 : IntKind.u64.wrap (q1 : Int) = (q1 : Int) := by rw [IntKind.wrap_u64]; omega
  have HS := Lib.hid (And.intro ht (And.intro hm (And.intro hq hq1)))
  clear hr ht hm hq hq1
  go_enter Tryd.func73, Tryd.ntmps73
  go_wp2
  go_ret2
  exact ⟨rfl, (by repeat (first | with_reducible exact Within.refl _ | with_reducible assumption | with_reducible refine Within.alloc ?_ _ | with_reducible refine Within.drew ?_ | with_reducible refine Within.setCell ?_ (by first | (simp; done) | (simp; omega)) _ | with_reducible refine Within.trans ?_ (by assumption)))⟩

set_option maxRecDepth 100000 in
set_option maxHeartbeats 600000 in
theorem drop_lt_4n (m s t q q1 p mid rest : Nat) (e : Int) (hq1 : q1 = q + 1) (h1 : 1 ≤ s) (h2 : s ≤ 64) (ht : s = t + 1) (hm : m < 18446744073709551616) (hq : q ≤ 9223372036854775808) (sh1 : (m : Int) / 2 ^ s = (q : Int)) (sh2 : IntKind.u64.wrap ((q : Int) * 2 ^ s) = (p : Int)) (sh3 : IntKind.u64.wrap (2 ^ t) = (mid : Int)) (hr : (m : Int) - p = rest) (hc : rest < mid) (h0 : ((rest : Int) == 0) = false) (w : World) : Calls Tryd.prog 73 #[.agg #[.bool true, .int .u64 m, .int .i64 e], .int .i64 (s : Int), .int .i64 4] w fun e' w' => e' = .returned (.tuple #[.int .u64 q1, .bool true]) ∧ Within w w' := by
  have d1 : decide ((s : Int) ≤ 0) = false := decide_eq_false (by omega)
  have d2 : decide ((s : Int) > 64) = false := decide_eq_false (by omega)
  have g2 : IntKind.u64.wrap (s : Int) = (s : Int) := by rw [IntKind.wrap_u64]; omega
  have g3 : (s : Int) - 1 = (t : Int) := by omega
  have g4 : IntKind.u64.wrap (t : Int) = (t : Int) := by rw [IntKind.wrap_u64]; omega
  have h3 : t ≤ 63 := by omega
  have g5 : IntKind.u64.wrap ((m : Int) - p) = (rest : Int) := by rw [IntKind.wrap_u64]; omega
  have g7 : IntKind.u64.wrap ((q : Int) + 1) = (q1 : Int) := by rw [IntKind.wrap_u64]; omega
  have c1 : rest < mid := hc
  have g8 : IntKind.u64.wrap (q1 : Int) = (q1 : Int) := by rw [IntKind.wrap_u64]; omega
  have HS := Lib.hid (And.intro ht (And.intro hm (And.intro hq hq1)))
  clear hr ht hm hq hq1
  go_enter Tryd.func73, Tryd.ntmps73
  go_wp2
  go_ret2
  exact ⟨rfl, (by repeat (first | with_reducible exact Within.refl _ | with_reducible assumption | with_reducible refine Within.alloc ?_ _ | with_reducible refine Within.drew ?_ | with_reducible refine Within.setCell ?_ (by first | (simp; done) | (simp; omega)) _ | with_reducible refine Within.trans ?_ (by assumption)))⟩

set_option maxRecDepth 100000 in
set_option maxHeartbeats 600000 in
theorem drop_lt_4p (m s t q q1 p mid rest : Nat) (e : Int) (hq1 : q1 = q + 1) (h1 : 1 ≤ s) (h2 : s ≤ 64) (ht : s = t + 1) (hm : m < 18446744073709551616) (hq : q ≤ 9223372036854775808) (sh1 : (m : Int) / 2 ^ s = (q : Int)) (sh2 : IntKind.u64.wrap ((q : Int) * 2 ^ s) = (p : Int)) (sh3 : IntKind.u64.wrap (2 ^ t) = (mid : Int)) (hr : (m : Int) - p = rest) (hc : rest < mid) (h0 : ((rest : Int) == 0) = false) (w : World) : Calls Tryd.prog 73 #[.agg #[.bool false, .int .u64 m, .int .i64 e], .int .i64 (s : Int), .int .i64 4] w fun e' w' => e' = .returned (.tuple #[.int .u64 q, .bool true]) ∧ Within w w' := by
  have d1 : decide ((s : Int) ≤ 0) = false := decide_eq_false (by omega)
  have d2 : decide ((s : Int) > 64) = false := decide_eq_false (by omega)
  have g2 : IntKind.u64.wrap (s : Int) = (s : Int) := by rw [IntKind.wrap_u64]; omega
  have g3 : (s : Int) - 1 = (t : Int) := by omega
  have g4 : IntKind.u64.wrap (t : Int) = (t : Int) := by rw [IntKind.wrap_u64]; omega
  have h3 : t ≤ 63 := by omega
  have g5 : IntKind.u64.wrap ((m : Int) - p) = (rest : Int) := by rw [IntKind.wrap_u64]; omega
  have g7 : IntKind.u64.wrap ((q : Int) + 1) = (q1 : Int) := by rw [IntKind.wrap_u64]; omega
  have c1 : rest < mid := hc
  have g8 : IntKind.u64.wrap (q1 : Int) = (q1 : Int) := by rw [IntKind.wrap_u64]; omega
  have HS := Lib.hid (And.intro ht (And.intro hm (And.intro hq hq1)))
  clear hr ht hm hq hq1
  go_enter Tryd.func73, Tryd.ntmps73
  go_wp2
  go_ret2
  exact ⟨rfl, (by repeat (first | with_reducible exact Within.refl _ | with_reducible assumption | with_reducible refine Within.alloc ?_ _ | with_reducible refine Within.drew ?_ | with_reducible refine Within.setCell ?_ (by first | (simp; done) | (simp; omega)) _ | with_reducible refine Within.trans ?_ (by assumption)))⟩

set_option maxRecDepth 100000 in
set_option maxHeartbeats 600000 in
theorem drop_eq_0e (neg : Bool) (m s t q q1 p mid rest : Nat) (e : Int) (hq1 : q1 = q + 1) (h1 : 1 ≤ s) (h2 : s ≤ 64) (ht : s = t + 1) (hm : m < 18446744073709551616) (hq : q ≤ 9223372036854775808) (sh1 : (m : Int) / 2 ^ s = (q : Int)) (sh2 : IntKind.u64.wrap ((q : Int) * 2 ^ s) = (p : Int)) (sh3 : IntKind.u64.wrap (2 ^ t) = (mid : Int)) (hr : (m : Int) - p = rest) (hc : mid = rest) (h0 : ((rest : Int) == 0) = false) (hp : bits .and .u64 (q : Int) 1 = 0) (w : World) : Calls Tryd.prog 73 #[.agg #[.bool neg, .int .u64 m, .int .i64 e], .int .i64 (s : Int), .int .i64 0] w fun e' w' => e' = .returned (.tuple #[.int .u64 q, .bool true]) ∧ Within w w' := by
  have d1 : decide ((s : Int) ≤ 0) = false := decide_eq_false (by omega)
  have d2 : decide ((s : Int) > 64) = false := decide_eq_false (by omega)
  have g2 : IntKind.u64.wrap (s : Int) = (s : Int) := by rw [IntKind.wrap_u64]; omega
  have g3 : (s : Int) - 1 = (t : Int) := by omega
  have g4 : IntKind.u64.wrap (t : Int) = (t : Int) := by rw [IntKind.wrap_u64]; omega
  have h3 : t ≤ 63 := by omega
  have g5 : IntKind.u64.wrap ((m : Int) - p) = (rest : Int) := by rw [IntKind.wrap_u64]; omega
  have g7 : IntKind.u64.wrap ((q : Int) + 1) = (q1 : Int) := by rw [IntKind.wrap_u64]; omega
  subst hc
  have g8 : IntKind.u64.wrap (q1 : Int) = (q1 : Int) := by rw [IntKind.wrap_u64]; omega
  have HS := Lib.hid (And.intro ht (And.intro hm (And.intro hq hq1)))
  clear hr ht hm hq hq1
  go_enter Tryd.func73, Tryd.ntmps73
  go_wp2
  go_ret2
  exact ⟨rfl, (by repeat (first | with_reducible exact Within.refl _ | with_reducible assumption | with_reducible refine Within.alloc ?_ _ | with_reducible refine Within.drew ?_ | with_reducible refine Within.setCell ?_ (by first | (simp; done) | (simp; omega)) _ | with_reducible refine Within.trans ?_ (by assumption)))⟩

set_option maxRecDepth 100000 in
set_option maxHeartbeats 600000 in
theorem drop_eq_0o (neg : Bool) (m s t q q1 p mid rest : Nat) (e : Int) (hq1 : q1 = q + 1) (h1 : 1 ≤ s) (h2 : s ≤ 64) (ht : s = t + 1) (hm : m < 18446744073709551616) (hq : q ≤ 9223372036854775808) (sh1 : (m : Int) / 2 ^ s = (q : Int)) (sh2 : IntKind.u64.wrap ((q : Int) * 2 ^ s) = (p : Int)) (sh3 : IntKind.u64.wrap (2 ^ t) = (mid : Int)) (hr : (m : Int) - p = rest) (hc : mid = rest) (h0 : ((rest : Int) == 0) = false) (hp : bits .and .u64 (q : Int) 1 = 1) (w : World) : Calls Tryd.prog 73 #[.agg #[.bool neg, .int .u64 m, .int .i64 e], .int .i64 (s : Int), .int .i64 0] w fun e' w' => e' = .returned (.tuple #[.int .u64 q1, .bool true]) ∧ Within w w' := by
  have d1 : decide ((s : Int) ≤ 0) = false := decide_eq_false (by omega)
  have d2 : decide ((s : Int) > 64) = false := decide_eq_false (by omega)
  have g2 : IntKind.u64.wrap (s : Int) = (s : Int) := by rw [IntKind.wrap_u64]; omega
  have g3 : (s : Int) - 1 = (t : Int) := by omega
  have g4 : IntKind.u64.wrap (t : Int) = (t : Int) := by rw [IntKind.wrap_u64]; omega
  have h3 : t ≤ 63 := by omega
  have g5 : IntKind.u64.wrap ((m : Int) - p) = (rest : Int) := by rw [IntKind.wrap_u64]; omega
  have g7 : IntKind.u64.wrap ((q : Int) + 1) = (q1 : Int) := by rw [IntKind.wrap_u64]; omega
  subst hc
  have g8 : IntKind.u64.wrap (q1 : Int) = (q1 : Int) := by rw [IntKind.wrap_u64]; omega
  have HS := Lib.hid (And.intro ht (And.intro hm (And.intro hq hq1)))
  clear hr ht hm hq hq1
  go_enter Tryd.func73, Tryd.ntmps73
  go_wp2
  go_ret2
  exact ⟨rfl, (by repeat (first | with_reducible exact Within.refl _ | with_reducible assumption | with_reducible refine Within.alloc ?_ _ | with_reducible refine Within.drew ?_ | with_reducible refine Within.setCell ?_ (by first | (simp; done) | (simp; omega)) _ | with_reducible refine Within.trans ?_ (by assumption)))⟩

set_option maxRecDepth 100000 in
set_option maxHeartbeats 600000 in
theorem drop_eq_1 (neg : Bool) (m s t q q1 p mid rest : Nat) (e : Int) (hq1 : q1 = q + 1) (h1 : 1 ≤ s) (h2 : s ≤ 64) (ht : s = t + 1) (hm : m < 18446744073709551616) (hq : q ≤ 9223372036854775808) (sh1 : (m : Int) / 2 ^ s = (q : Int)) (sh2 : IntKind.u64.wrap ((q : Int) * 2 ^ s) = (p : Int)) (sh3 : IntKind.u64.wrap (2 ^ t) = (mid : Int)) (hr : (m : Int) - p = rest) (hc : mid = rest) (h0 : ((rest : Int) == 0) = false) (w : World) : Calls Tryd.prog 73 #[.agg #[.bool neg, .int .u64 m, .int .i64 e], .int .i64 (s : Int), .int .i64 1] w fun e' w' => e' = .returned (.tuple #[.int .u64 q1, .bool true]) ∧ Within w w' := by
  have d1 : decide ((s : Int) ≤ 0) = false := decide_eq_false (by omega)
  have d2 : decide ((s : Int) > 64) = false := decide_eq_false (by omega)
  have g2 : IntKind.u64.wrap (s : Int) = (s : Int) := by rw [IntKind.wrap_u64]; omega
  have g3 : (s : Int) - 1 = (t : Int) := by omega
  have g4 : IntKind.u64.wrap (t : Int) = (t : Int) := by rw [IntKind.wrap_u64]; omega
  have h3 : t ≤ 63 := by omega
  have g5 : IntKind.u64.wrap ((m : Int) - p) = (rest : Int) := by rw [IntKind.wrap_u64]; omega
  have g7 : IntKind.u64.wrap ((q : Int) + 1) = (q1 : Int) := by rw [IntKind.wrap_u64]; omega
  subst hc
  have g8 : IntKind.u64.wrap (q1 : Int) = (q1 : Int) := by rw [IntKind.wrap_u64]; omega
  have HS := Lib.hid (And.intro ht (And.intro hm (And.intro hq hq1)))
  clear hr ht hm hq hq1
  go_enter Tryd.func73, Tryd.ntmps73
  go_wp2
  go_ret2
  exact ⟨rfl, (by repeat (first | with_reducible exact Within.refl _ | with_reducible assumption | with_reducible refine Within.alloc ?_ _ | with_reducible refine Within.drew ?_ | with_reducible refine Within.setCell ?_ (by first | (simp; done) | (simp; omega)) _ | with_reducible refine Within.trans ?_ (by assumption)))⟩

set_option maxRecDepth 100000 in
set_option maxHeartbeats 600000 in
theorem drop_eq_2 (neg : Bool) (m s t q q1 p mid rest : Nat) (e : Int) (hq1 : q1 = q + 1) (h1 : 1 ≤ s) (h2 : s ≤ 64) (ht : s = t + 1) (hm : m < 18446744073709551616) (hq : q ≤ 9223372036854775808) (sh1 : (m : Int) / 2 ^ s = (q : Int)) (sh2 : IntKind.u64.wrap ((q : Int) * 2 ^ s) = (p : Int)) (sh3 : IntKind.u64.wrap (2 ^ t) = (mid : Int)) (hr : (m : Int) - p = rest) (hc : mid = rest) (h0 : ((rest : Int) == 0) = false) (w : World) : Calls Tryd.prog 73 #[.agg #[.bool neg, .int .u64 m, .int .i64 e], .int .i64 (s : Int), .int .i64 2] w fun e' w' => e' = .returned (.tuple #[.int .u64 q, .bool true]) ∧ Within w w' := by
  have d1 : decide ((s : Int) ≤ 0) = false := decide_eq_false (by omega)
  have d2 : decide ((s : Int) > 64) = false := decide_eq_false (by omega)
  have g2 : IntKind.u64.wrap (s : Int) = (s : Int) := by rw [IntKind.wrap_u64]; omega
  have g3 : (s : Int) - 1 = (t : Int) := by omega
  have g4 : IntKind.u64.wrap (t : Int) = (t : Int) := by rw [IntKind.wrap_u64]; omega
  have h3 : t ≤ 63 := by omega
  have g5 : IntKind.u64.wrap ((m : Int) - p) = (rest : Int) := by rw [IntKind.wrap_u64]; omega
  have g7 : IntKind.u64.wrap ((q : Int) + 1) = (q1 : Int) := by rw [IntKind.wrap_u64]; omega
  subst hc
  have g8 : IntKind.u64.wrap (q1 : Int) = (q1 : Int) := by rw [IntKind.wrap_u64]; omega
  have HS := Lib.hid (And.intro ht (And.intro hm (And.intro hq hq1)))
  clear hr ht hm hq hq1
  go_enter Tryd.func73, Tryd.ntmps73
  go_wp2
  go_ret2
  exact ⟨rfl, (by repeat (first | with_reducible exact Within.refl _ | with_reducible assumption | with_reducible refine Within.alloc ?_ _ | with_reducible refine Within.drew ?_ | with_reducible refine Within.setCell ?_ (by first | (simp; done) | (simp; omega)) _ | with_reducible refine Within.trans ?_ (by assumption)))⟩

set_option maxRecDepth 100000 in
set_option maxHeartbeats 600000 in
theorem drop_eq_3n (m s t q q1 p mid rest : Nat) (e : Int) (hq1 : q1 = q + 1) (h1 : 1 ≤ s) (h2 : s ≤ 64) (ht : s = t + 1) (hm : m < 18446744073709551616) (hq : q ≤ 9223372036854775808) (sh1 : (m : Int) / 2 ^ s = (q : Int)) (sh2 : IntKind.u64.wrap ((q : Int) * 2 ^ s) = (p : Int)) (sh3 : IntKind.u64.wrap (2 ^ t) = (mid : Int)) (hr : (m : Int) - p = rest) (hc : mid = rest) (h0 : ((rest : Int) == 0) = false) (w : World) : Calls Tryd.prog 73 #[.agg #[.bool true, .int .u64 m, .int .i64 e], .int .i64 (s : Int), .int .i64 3] w fun e' w' => e' = .returned (.tuple #[.int .u64 q, .bool true]) ∧ Within w w' := by
  have d1 : decide ((s : Int) ≤ 0) = false := decide_eq_false (by omega)
  have d2 : decide ((s : Int) > 64) = false := decide_eq_false (by omega)
  have g2 : IntKind.u64.wrap (s : Int) = (s : Int) := by rw [IntKind.wrap_u64]; omega
  have g3 : (s : Int) - 1 = (t : Int) := by omega
  have g4 : IntKind.u64.wrap (t : Int) = (t : Int) := by rw [IntKind.wrap_u64]; omega
  have h3 : t ≤ 63 := by omega
  have g5 : IntKind.u64.wrap ((m : Int) - p) = (rest : Int) := by rw [IntKind.wrap_u64]; omega
  have g7 : IntKind.u64.wrap ((q : Int) + 1) = (q1 : Int) := by rw [IntKind.wrap_u64]; omega
  subst hc
  have g8 : IntKind.u64.wrap (q1 : Int) = (q1 : Int) := by rw [IntKind.wrap_u64]; omega
  have HS := Lib.hid (And.intro ht (And.intro hm (And.intro hq hq1)))
  clear hr ht hm hq hq1
  go_enter Tryd.func73, Tryd.ntmps73
  go_wp2
  go_ret2
  exact ⟨rfl, (by repeat (first | with_reducible exact Within.refl _ | with_reducible assumption | with_reducible refine Within.alloc ?_ _ | with_reducible refine Within.drew ?_ | with_reducible refine Within.setCell ?_ (by first | (simp; done) | (simp; omega)) _ | with_reducible refine Within.trans ?_ (by assumption)))⟩

set_option maxRecDepth 100000 in
set_option maxHeartbeats 600000 in
theorem drop_eq_3p (m s t q q1 p mid rest : Nat) (e : Int) (hq1 : q1 = q + 1) (h1 : 1 ≤ s) (h2 : s ≤ 64) (ht : s = t + 1) (hm : m < 18446744073709551616) (hq : q ≤ 9223372036854775808) (sh1 : (m : Int) / 2 ^ s = (q : Int)) (sh2 : IntKind.u64.wrap ((q : Int) * 2 ^ s) = (p : Int)) (sh3 : IntKind.u64.wrap (2 ^ t) = (mid : Int)) (hr : (m : Int) - p = rest) (hc : mid = rest) (h0 : ((rest : Int) == 0) = false) (w : World) : Calls Tryd.prog 73 #[.agg #[.bool false, .int .u64 m, .int .i64 e], .int .i64 (s : Int), .int .i64 3] w fun e' w' => e' = .returned (.tuple #[.int .u64 q1, .bool true]) ∧ Within w w' := by
  have d1 : decide ((s : Int) ≤ 0) = false := decide_eq_false (by omega)
  have d2 : decide ((s : Int) > 64) = false := decide_eq_false (by omega)
  have g2 : IntKind.u64.wrap (s : Int) = (s : Int) := by rw [IntKind.wrap_u64]; omega
  have g3 : (s : Int) - 1 = (t : Int) := by omega
  have g4 : IntKind.u64.wrap (t : Int) = (t : Int) := by rw [IntKind.wrap_u64]; omega
  have h3 : t ≤ 63 := by omega
  have g5 : IntKind.u64.wrap ((m : Int) - p) = (rest : Int) := by rw [IntKind.wrap_u64]; omega
  have g7 : IntKind.u64.wrap ((q : Int) + 1) = (q1 : Int) := by rw [IntKind.wrap_u64]; omega
  subst hc
  have g8 : IntKind.u64.wrap (q1 : Int) = (q1 : Int) := by rw [IntKind.wrap_u64]; omega
  have HS := Lib.hid (And.intro ht (And.intro hm (And.intro hq hq1)))
  clear hr ht hm hq hq1
  go_enter Tryd.func73, Tryd.ntmps73
  go_wp2
  go_ret2
  exact ⟨rfl, (by repeat (first | with_reducible exact Within.refl _ | with_reducible assumption | with_reducible refine Within.alloc ?_ _ | with_reducible refine Within.drew ?_ | with_reducible refine Within.setCell ?_ (by first | (simp; done) | (simp; omega)) _ | with_reducible refine Within.trans ?_ (by assumption)))⟩

set_option maxRecDepth 100000 in
set_option maxHeartbeats 600000 in
theorem drop_eq_4n (m s t q q1 p mid rest : Nat) (e : Int) (hq1 : q1 = q + 1) (h1 : 1 ≤ s) (h2 : s ≤ 64) (ht : s = t + 1) (hm : m < 18446744073709551616) (hq : q ≤ 9223372036854775808) (sh1 : (m : Int) / 2 ^ s = (q : Int)) (sh2 : IntKind.u64.wrap ((q : Int) * 2 ^ s) = (p : Int)) (sh3 : IntKind.u64.wrap (2 ^ t) = (mid : Int)) (hr : (m : Int) - p = rest) (hc : mid = rest) (h0 : ((rest : Int) == 0) = false) (w : World) : Calls Tryd.prog 73 #[.agg #[.bool true, .int .u64 m, .int .i64 e], .int .i64 (s : Int), .int .i64 4] w fun e' w' => e' = .returned (.tuple #[.int .u64 q1, .bool true]) ∧ Within w w' := by
  have d1 : decide ((s : Int) ≤ 0) = false := decide_eq_false (by omega)
  have d2 : decide ((s : Int) > 64) = false := decide_eq_false (by omega)
  have g2 : IntKind.u64.wrap (s : Int) = (s : Int) := by rw [IntKind.wrap_u64]; omega
  have g3 : (s : Int) - 1 = (t : Int) := by omega
  have g4 : IntKind.u64.wrap (t : Int) = (t : Int) := by rw [IntKind.wrap_u64]; omega
  have h3 : t ≤ 63 := by omega
  have g5 : IntKind.u64.wrap ((m : Int) - p) = (rest : Int) := by rw [IntKind.wrap_u64]; omega
  have g7 : IntKind.u64.wrap ((q : Int) + 1) = (q1 : Int) := by rw [IntKind.wrap_u64]; omega
  subst hc
  have g8 : IntKind.u64.wrap (q1 : Int) = (q1 : Int) := by rw [IntKind.wrap_u64]; omega
  have HS := Lib.hid (And.intro ht (And.intro hm (And.intro hq hq1)))
  clear hr ht hm hq hq1
  go_enter Tryd.func73, Tryd.ntmps73
  go_wp2
  go_ret2
  exact ⟨rfl, (by repeat (first | with_reducible exact Within.refl _ | with_reducible assumption | with_reducible refine Within.alloc ?_ _ | with_reducible refine Within.drew ?_ | with_reducible refine Within.setCell ?_ (by first | (simp; done) | (simp; omega)) _ | with_reducible refine Within.trans ?_ (by assumption)))⟩

set_option maxRecDepth 100000 in
set_option maxHeartbeats 600000 in
theorem drop_eq_4p (m s t q q1 p mid rest : Nat) (e : Int) (hq1 : q1 = q + 1) (h1 : 1 ≤ s) (h2 : s ≤ 64) (ht : s = t + 1) (hm : m < 18446744073709551616) (hq : q ≤ 9223372036854775808) (sh1 : (m : Int) / 2 ^ s = (q : Int)) (sh2 : IntKind.u64.wrap ((q : Int) * 2 ^ s) = (p : Int)) (sh3 : IntKind.u64.wrap (2 ^ t) = (mid : Int)) (hr : (m : Int) - p = rest) (hc : mid = rest) (h0 : ((rest : Int) == 0) = false) (w : World) : Calls Tryd.prog 73 #[.agg #[.bool false, .int .u64 m, .int .i64 e], .int .i64 (s : Int), .int .i64 4] w fun e' w' => e' = .returned (.tuple #[.int .u64 q, .bool true]) ∧ Within w w' := by
  have d1 : decide ((s : Int) ≤ 0) = false := decide_eq_false (by omega)
  have d2 : decide ((s : Int) > 64) = false := decide_eq_false (by omega)
  have g2 : IntKind.u64.wrap (s : Int) = (s : Int) := by rw [IntKind.wrap_u64]; omega
  have g3 : (s : Int) - 1 = (t : Int) := by omega
  have g4 : IntKind.u64.wrap (t : Int) = (t : Int) := by rw [IntKind.wrap_u64]; omega
  have h3 : t ≤ 63 := by omega
  have g5 : IntKind.u64.wrap ((m : Int) - p) = (rest : Int) := by rw [IntKind.wrap_u64]; omega
  have g7 : IntKind.u64.wrap ((q : Int) + 1) = (q1 : Int) := by rw [IntKind.wrap_u64]; omega
  subst hc
  have g8 : IntKind.u64.wrap (q1 : Int) = (q1 : Int) := by rw [IntKind.wrap_u64]; omega
  have HS := Lib.hid (And.intro ht (And.intro hm (And.intro hq hq1)))
  clear hr ht hm hq hq1
  go_enter Tryd.func73, Tryd.ntmps73
  go_wp2
  go_ret2
  exact ⟨rfl, (by repeat (first | with_reducible exact Within.refl _ | with_reducible assumption | with_reducible refine Within.alloc ?_ _ | with_reducible refine Within.drew ?_ | with_reducible refine Within.setCell ?_ (by first | (simp; done) | (simp; omega)) _ | with_reducible refine Within.trans ?_ (by assumption)))⟩

set_option maxRecDepth 100000 in
set_option maxHeartbeats 600000 in
theorem drop_gt_0 (neg : Bool) (m s t q q1 p mid rest : Nat) (e : Int) (hq1 : q1 = q + 1) (h1 : 1 ≤ s) (h2 : s ≤ 64) (ht : s = t + 1) (hm : m < 18446744073709551616) (hq : q ≤ 9223372036854775808) (sh1 : (m : Int) / 2 ^ s = (q : Int)) (sh2 : IntKind.u64.wrap ((q : Int) * 2 ^ s) = (p : Int)) (sh3 : IntKind.u64.wrap (2 ^ t) = (mid : Int)) (hr : (m : Int) - p = rest) (hc : mid < rest) (h0 : ((rest : Int) == 0) = false) (w : World) : Calls Tryd.prog 73 #[.agg #[.bool neg, .int .u64 m, .int .i64 e], .int .i64 (s : Int), .int .i64 0] w fun e' w' => e' = .returned (.tuple #[.int .u64 q1, .bool true]) ∧ Within w w' := by
  have d1 : decide ((s : Int) ≤ 0) = false := decide_eq_false (by omega)
  have d2 : decide ((s : Int) > 64) = false := decide_eq_false (by omega)
  have g2 : IntKind.u64.wrap (s : Int) = (s : Int) := by rw [IntKind.wrap_u64]; omega
  have g3 : (s : Int) - 1 = (t : Int) := by omega
  have g4 : IntKind.u64.wrap (t : Int) = (t : Int) := by rw [IntKind.wrap_u64]; omega
  have h3 : t ≤ 63 := by omega
  have g5 : IntKind.u64.wrap ((m : Int) - p) = (rest : Int) := by rw [IntKind.wrap_u64]; omega
  have g7 : IntKind.u64.wrap ((q : Int) + 1) = (q1 : Int) := by rw [IntKind.wrap_u64]; omega
  have c1 : ¬ rest < mid := by omega
  have c2 : mid < rest := hc
  have g8 : IntKind.u64.wrap (q1 : Int) = (q1 : Int) := by rw [IntKind.wrap_u64]; omega
  have HS := Lib.hid (And.intro ht (And.intro hm (And.intro hq hq1)))
  clear hr ht hm hq hq1
  go_enter Tryd.func73, Tryd.ntmps73
  go_wp2
  go_ret2
  exact ⟨rfl, (by repeat (first | with_reducible exact Within.refl _ | with_reducible assumption | with_reducible refine Within.alloc ?_ _ | with_reducible refine Within.drew ?_ | with_reducible refine Within.setCell ?_ (by first | (simp; done) | (simp; omega)) _ | with_reducible refine Within.trans ?_ (by assumption)))⟩

set_option maxRecDepth 100000 in
set_option maxHeartbeats 600000 in
theorem drop_gt_1 (neg : Bool) (m s t q q1 p mid rest : Nat) (e : Int) (hq1 : q1 = q + 1) (h1 : 1 ≤ s) (h2 : s ≤ 64) (ht : s = t + 1) (hm : m < 18446744073709551616) (hq : q ≤ 9223372036854775808) (sh1 : (m : Int) / 2 ^ s = (q : Int)) (sh2 : IntKind.u64.wrap ((q : Int) * 2 ^ s) = (p : Int)) (sh3 : IntKind.u64.wrap (2 ^ t) = (mid : Int)) (hr : (m : Int) - p = rest) (hc : mid < rest) (h0 : ((rest : Int) == 0) = false) (w : World) : Calls Tryd.prog 73 #[.agg #[.bool neg, .int .u64 m, .int .i64 e], .int .i64 (s : Int), .int .i64 1] w fun e' w' => e' = .returned (.tuple #[.int .u64 q1, .bool true]) ∧ Within w w' := by
  have d1 : decide ((s : Int) ≤ 0) = false := decide_eq_false (by omega)
  have d2 : decide ((s : Int) > 64) = false := decide_eq_false (by omega)
  have g2 : IntKind.u64.wrap (s : Int) = (s : Int) := by rw [IntKind.wrap_u64]; omega
  have g3 : (s : Int) - 1 = (t : Int) := by omega
  have g4 : IntKind.u64.wrap (t : Int) = (t : Int) := by rw [IntKind.wrap_u64]; omega
  have h3 : t ≤ 63 := by omega
  have g5 : IntKind.u64.wrap ((m : Int) - p) = (rest : Int) := by rw [IntKind.wrap_u64]; omega
  have g7 : IntKind.u64.wrap ((q : Int) + 1) = (q1 : Int) := by rw [IntKind.wrap_u64]; omega
  have c1 : ¬ rest < mid := by omega
  have c2 : mid < rest := hc
  have g8 : IntKind.u64.wrap (q1 : Int) = (q1 : Int) := by rw [IntKind.wrap_u64]; omega
  have HS := Lib.hid (And.intro ht (And.intro hm (And.intro hq hq1)))
  clear hr ht hm hq hq1
  go_enter Tryd.func73, Tryd.ntmps73
  go_wp2
  go_ret2
  exact ⟨rfl, (by repeat (first | with_reducible exact Within.refl _ | with_reducible assumption | with_reducible refine Within.alloc ?_ _ | with_reducible refine Within.drew ?_ | with_reducible refine Within.setCell ?_ (by first | (simp; done) | (simp; omega)) _ | with_reducible refine Within.trans ?_ (by assumption)))⟩

set_option maxRecDepth 100000 in
set_option maxHeartbeats 600000 in
theorem drop_gt_2 (neg : Bool) (m s t q q1 p mid rest : Nat) (e : Int) (hq1 : q1 = q + 1) (h1 : 1 ≤ s) (h2 : s ≤ 64) (ht : s = t + 1) (hm : m < 18446744073709551616) (hq : q ≤ 9223372036854775808) (sh1 : (m : Int) / 2 ^ s = (q : Int)) (sh2 : IntKind.u64.wrap ((q : Int) * 2 ^ s) = (p : Int)) (sh3 : IntKind.u64.wrap (2 ^ t) = (mid : Int)) (hr : (m : Int) - p = rest) (hc : mid < rest) (h0 : ((rest : Int) == 0) = false) (w : World) : Calls Tryd.prog 73 #[.agg #[.bool neg, .int .u64 m, .int .i64 e], .int .i64 (s : Int), .int .i64 2] w fun e' w' => e' = .returned (.tuple #[.int .u64 q, .bool true]) ∧ Within w w' := by
  have d1 : decide ((s : Int) ≤ 0) = false := decide_eq_false (by omega)
  have d2 : decide ((s : Int) > 64) = false := decide_eq_false (by omega)
  have g2 : IntKind.u64.wrap (s : Int) = (s : Int) := by rw [IntKind.wrap_u64]; omega
  have g3 : (s : Int) - 1 = (t : Int) := by omega
  have g4 : IntKind.u64.wrap (t : Int) = (t : Int) := by rw [IntKind.wrap_u64]; omega
  have h3 : t ≤ 63 := by omega
  have g5 : IntKind.u64.wrap ((m : Int) - p) = (rest : Int) := by rw [IntKind.wrap_u64]; omega
  have g7 : IntKind.u64.wrap ((q : Int) + 1) = (q1 : Int) := by rw [IntKind.wrap_u64]; omega
  have c1 : ¬ rest < mid := by omega
  have c2 : mid < rest := hc
  have g8 : IntKind.u64.wrap (q1 : Int) = (q1 : Int) := by rw [IntKind.wrap_u64]; omega
  have HS := Lib.hid (And.intro ht (And.intro hm (And.intro hq hq1)))
  clear hr ht hm hq hq1
  go_enter Tryd.func73, Tryd.ntmps73
  go_wp2
  go_ret2
  exact ⟨rfl, (by repeat (first | with_reducible exact Within.refl _ | with_reducible assumption | with_reducible refine Within.alloc ?_ _ | with_reducible refine Within.drew ?_ | with_reducible refine Within.setCell ?_ (by first | (simp; done) | (simp; omega)) _ | with_reducible refine Within.trans ?_ (by assumption)))⟩

set_option maxRecDepth 100000 in
set_option maxHeartbeats 600000 in
theorem drop_gt_3n (m s t q q1 p mid rest : Nat) (e : Int) (hq1 : q1 = q + 1) (h1 : 1 ≤ s) (h2 : s ≤ 64) (ht : s = t + 1) (hm : m < 18446744073709551616) (hq : q ≤ 9223372036854775808) (sh1 : (m : Int) / 2 ^ s = (q : Int)) (sh2 : IntKind.u64.wrap ((q : Int) * 2 ^ s) = (p : Int)) (sh3 : IntKind.u64.wrap (2 ^ t) = (mid : Int)) (hr : (m : Int) - p = rest) (hc : mid < rest) (h0 : ((rest : Int) == 0) = false) (w : World) : Calls Tryd.prog 73 #[.agg #[.bool true, .int .u64 m, .int .i64 e], .int .i64 (s : Int), .int .i64 3] w fun e' w' => e' = .returned (.tuple #[.int .u64 q, .bool true]) ∧ Within w w' := by
  have d1 : decide ((s : Int) ≤ 0) = false := decide_eq_false (by omega)
  have d2 : decide ((s : Int) > 64) = false := decide_eq_false (by omega)
  have g2 : IntKind.u64.wrap (s : Int) = (s : Int) := by rw [IntKind.wrap_u64]; omega
  have g3 : (s : Int) - 1 = (t : Int) := by omega
  have g4 : IntKind.u64.wrap (t : Int) = (t : Int) := by rw [IntKind.wrap_u64]; omega
  have h3 : t ≤ 63 := by omega
  have g5 : IntKind.u64.wrap ((m : Int) - p) = (rest : Int) := by rw [IntKind.wrap_u64]; omega
  have g7 : IntKind.u64.wrap ((q : Int) + 1) = (q1 : Int) := by rw [IntKind.wrap_u64]; omega
  have c1 : ¬ rest < mid := by omega
  have c2 : mid < rest := hc
  have g8 : IntKind.u64.wrap (q1 : Int) = (q1 : Int) := by rw [IntKind.wrap_u64]; omega
  have HS := Lib.hid (And.intro ht (And.intro hm (And.intro hq hq1)))
  clear hr ht hm hq hq1
  go_enter Tryd.func73, Tryd.ntmps73
  go_wp2
  go_ret2
  exact ⟨rfl, (by repeat (first | with_reducible exact Within.refl _ | with_reducible assumption | with_reducible refine Within.alloc ?_ _ | with_reducible refine Within.drew ?_ | with_reducible refine Within.setCell ?_ (by first | (simp; done) | (simp; omega)) _ | with_reducible refine Within.trans ?_ (by assumption)))⟩

set_option maxRecDepth 100000 in
set_option maxHeartbeats 600000 in
theorem drop_gt_3p (m s t q q1 p mid rest : Nat) (e : Int) (hq1 : q1 = q + 1) (h1 : 1 ≤ s) (h2 : s ≤ 64) (ht : s = t + 1) (hm : m < 18446744073709551616) (hq : q ≤ 9223372036854775808) (sh1 : (m : Int) / 2 ^ s = (q : Int)) (sh2 : IntKind.u64.wrap ((q : Int) * 2 ^ s) = (p : Int)) (sh3 : IntKind.u64.wrap (2 ^ t) = (mid : Int)) (hr : (m : Int) - p = rest) (hc : mid < rest) (h0 : ((rest : Int) == 0) = false) (w : World) : Calls Tryd.prog 73 #[.agg #[.bool false, .int .u64 m, .int .i64 e], .int .i64 (s : Int), .int .i64 3] w fun e' w' => e' = .returned (.tuple #[.int .u64 q1, .bool true]) ∧ Within w w' := by
  have d1 : decide ((s : Int) ≤ 0) = false := decide_eq_false (by omega)
  have d2 : decide ((s : Int) > 64) = false := decide_eq_false (by omega)
  have g2 : IntKind.u64.wrap (s : Int) = (s : Int) := by rw [IntKind.wrap_u64]; omega
  have g3 : (s : Int) - 1 = (t : Int) := by omega
  have g4 : IntKind.u64.wrap (t : Int) = (t : Int) := by rw [IntKind.wrap_u64]; omega
  have h3 : t ≤ 63 := by omega
  have g5 : IntKind.u64.wrap ((m : Int) - p) = (rest : Int) := by rw [IntKind.wrap_u64]; omega
  have g7 : IntKind.u64.wrap ((q : Int) + 1) = (q1 : Int) := by rw [IntKind.wrap_u64]; omega
  have c1 : ¬ rest < mid := by omega
  have c2 : mid < rest := hc
  have g8 : IntKind.u64.wrap (q1 : Int) = (q1 : Int) := by rw [IntKind.wrap_u64]; omega
  have HS := Lib.hid (And.intro ht (And.intro hm (And.intro hq hq1)))
  clear hr ht hm hq hq1
  go_enter Tryd.func73, Tryd.ntmps73
  go_wp2
  go_ret2
  exact ⟨rfl, (by repeat (first | with_reducible exact Within.refl _ | with_reducible assumption | with_reducible refine Within.alloc ?_ _ | with_reducible refine Within.drew ?_ | with_reducible refine Within.setCell ?_ (by first | (simp; done) | (simp; omega)) _ | with_reducible refine Within.trans ?_ (by assumption)))⟩

set_option maxRecDepth 100000 in
set_option maxHeartbeats 600000 in
theorem drop_gt_4n (m s t q q1 p mid rest : Nat) (e : Int) (hq1 : q1 = q + 1) (h1 : 1 ≤ s) (h2 : s ≤ 64) (ht : s = t + 1) (hm : m < 18446744073709551616) (hq : q ≤ 9223372036854775808) (sh1 : (m : Int) / 2 ^ s = (q : Int)) (sh2 : IntKind.u64.wrap ((q : Int) * 2 ^ s) = (p : Int)) (sh3 : IntKind.u64.wrap (2 ^ t) = (mid : Int)) (hr : (m : Int) - p = rest) (hc : mid < rest) (h0 : ((rest : Int) == 0) = false) (w : World) : Calls Tryd.prog 73 #[.agg #[.bool true, .int .u64 m, .int .i64 e], .int .i64 (s : Int), .int .i64 4] w fun e' w' => e' = .returned (.tuple #[.int .u64 q1, .bool true]) ∧ Within w w' := by
  have d1 : decide ((s : Int) ≤ 0) = false := decide_eq_false (by omega)
  have d2 : decide ((s : Int) > 64) = false := decide_eq_false (by omega)
  have g2 : IntKind.u64.wrap (s : Int) = (s : Int) := by rw [IntKind.wrap_u64]; omega
  have g3 : (s : Int) - 1 = (t : Int) := by omega
  have g4 : IntKind.u64.wrap (t : Int) = (t : Int) := by rw [IntKind.wrap_u64]; omega
  have h3 : t ≤ 63 := by omega
  have g5 : IntKind.u64.wrap ((m : Int) - p) = (rest : Int) := by rw [IntKind.wrap_u64]; omega
  have g7 : IntKind.u64.wrap ((q : Int) + 1) = (q1 : Int) := by rw [IntKind.wrap_u64]; omega
  have c1 : ¬ rest < mid := by omega
  have c2 : mid < rest := hc
  have g8 : IntKind.u64.wrap (q1 : Int) = (q1 : Int) := by rw [IntKind.wrap_u64]; omega
  have HS := Lib.hid (And.intro ht (And.intro hm (And.intro hq hq1)))
  clear hr ht hm hq hq1
  go_enter Tryd.func73, Tryd.ntmps73
  go_wp2
  go_ret2
  exact ⟨rfl, (by repeat (first | with_reducible exact Within.refl _ | with_reducible assumption | with_reducible refine Within.alloc ?_ _ | with_reducible refine Within.drew ?_ | with_reducible refine Within.setCell ?_ (by first | (simp; done) | (simp; omega)) _ | with_reducible refine Within.trans ?_ (by assumption)))⟩

set_option maxRecDepth 100000 in
set_option maxHeartbeats 600000 in
theorem drop_gt_4p (m s t q q1 p mid rest : Nat) (e : Int) (hq1 : q1 = q + 1) (h1 : 1 ≤ s) (h2 : s ≤ 64) (ht : s = t + 1) (hm : m < 18446744073709551616) (hq : q ≤ 9223372036854775808) (sh1 : (m : Int) / 2 ^ s = (q : Int)) (sh2 : IntKind.u64.wrap ((q : Int) * 2 ^ s) = (p : Int)) (sh3 : IntKind.u64.wrap (2 ^ t) = (mid : Int)) (hr : (m : Int) - p = rest) (hc : mid < rest) (h0 : ((rest : Int) == 0) = false) (w : World) : Calls Tryd.prog 73 #[.agg #[.bool false, .int .u64 m, .int .i64 e], .int .i64 (s : Int), .int .i64 4] w fun e' w' => e' = .returned (.tuple #[.int .u64 q, .bool true]) ∧ Within w w' := by
  have d1 : decide ((s : Int) ≤ 0) = false := decide_eq_false (by omega)
  have d2 : decide ((s : Int) > 64) = false := decide_eq_false (by omega)
  have g2 : IntKind.u64.wrap (s : Int) = (s : Int) := by rw [IntKind.wrap_u64]; omega
  have g3 : (s : Int) - 1 = (t : Int) := by omega
  have g4 : IntKind.u64.wrap (t : Int) = (t : Int) := by rw [IntKind.wrap_u64]; omega
  have h3 : t ≤ 63 := by omega
  have g5 : IntKind.u64.wrap ((m : Int) - p) = (rest : Int) := by rw [IntKind.wrap_u64]; omega
  have g7 : IntKind.u64.wrap ((q : Int) + 1) = (q1 : Int) := by rw [IntKind.wrap_u64]; omega
  have c1 : ¬ rest < mid := by omega
  have c2 : mid < rest := hc
  have g8 : IntKind.u64.wrap (q1 : Int) = (q1 : Int) := by rw [IntKind.wrap_u64]; omega
  have HS := Lib.hid (And.intro ht (And.intro hm (And.intro hq hq1)))
  clear hr ht hm hq hq1
  go_enter Tryd.func73, Tryd.ntmps73
  go_wp2
  go_ret2
  exact ⟨rfl, (by repeat (first | with_reducible exact Within.refl _ | with_reducible assumption | with_reducible refine Within.alloc ?_ _ | with_reducible refine Within.drew ?_ | with_reducible refine Within.setCell ?_ (by first | (simp; done) | (simp; omega)) _ | with_reducible refine Within.trans ?_ (by assumption)))⟩

set_option maxRecDepth 100000 in
set_option maxHeartbeats 600000 in
theorem drop_far_0 (neg : Bool) (m : Nat) (s e : Int) (h1 : 64 < s) (hm : ((m : Int) == 0) = false) (w : World) : Calls Tryd.prog 73 #[.agg #[.bool neg, .int .u64 m, .int .i64 e], .int .i64 s, .int .i64 0] w fun e' w' => e' = .returned (.tuple #[.int .u64 0, .bool true]) ∧ Within w w' := by
  have d1 : decide (s ≤ 0) = false := decide_eq_false (by omega)
  have d2 : decide (s > 64) = true := decide_eq_true h1
  clear h1
  go_enter Tryd.func73, Tryd.ntmps73
  go_wp2
  go_ret2
  exact ⟨rfl, (by repeat (first | with_reducible exact Within.refl _ | with_reducible assumption | with_reducible refine Within.alloc ?_ _ | with_reducible refine Within.drew ?_ | with_reducible refine Within.setCell ?_ (by first | (simp; done) | (simp; omega)) _ | with_reducible refine Within.trans ?_ (by assumption)))⟩

set_option maxRecDepth 100000 in
set_option maxHeartbeats 600000 in
theorem drop_far_1 (neg : Bool) (m : Nat) (s e : Int) (h1 : 64 < s) (hm : ((m : Int) == 0) = false) (w : World) : Calls Tryd.prog 73 #[.agg #[.bool neg, .int .u64 m, .int .i64 e], .int .i64 s, .int .i64 1] w fun e' w' => e' = .returned (.tuple #[.int .u64 0, .bool true]) ∧ Within w w' := by
  have d1 : decide (s ≤ 0) = false := decide_eq_false (by omega)
  have d2 : decide (s > 64) = true := decide_eq_true h1
  clear h1
  go_enter Tryd.func73, Tryd.ntmps73
  go_wp2
  go_ret2
  exact ⟨rfl, (by repeat (first | with_reducible exact Within.refl _ | with_reducible assumption | with_reducible refine Within.alloc ?_ _ | with_reducible refine Within.drew ?_ | with_reducible refine Within.setCell ?_ (by first | (simp; done) | (simp; omega)) _ | with_reducible refine Within.trans ?_ (by assumption)))⟩

set_option maxRecDepth 100000 in
set_option maxHeartbeats 600000 in
theorem drop_far_2 (neg : Bool) (m : Nat) (s e : Int) (h1 : 64 < s) (hm : ((m : Int) == 0) = false) (w : World) : Calls Tryd.prog 73 #[.agg #[.bool neg, .int .u64 m, .int .i64 e], .int .i64 s, .int .i64 2] w fun e' w' => e' = .returned (.tuple #[.int .u64 0, .bool true]) ∧ Within w w' := by
  have d1 : decide (s ≤ 0) = false := decide_eq_false (by omega)
  have d2 : decide (s > 64) = true := decide_eq_true h1
  clear h1
  go_enter Tryd.func73, Tryd.ntmps73
  go_wp2
  go_ret2
  exact ⟨rfl, (by repeat (first | with_reducible exact Within.refl _ | with_reducible assumption | with_reducible refine Within.alloc ?_ _ | with_reducible refine Within.drew ?_ | with_reducible refine Within.setCell ?_ (by first | (simp; done) | (simp; omega)) _ | with_reducible refine Within.trans ?_ (by assumption)))⟩

set_option maxRecDepth 100000 in
set_option maxHeartbeats 600000 in
theorem drop_far_3n (m : Nat) (s e : Int) (h1 : 64 < s) (hm : ((m : Int) == 0) = false) (w : World) : Calls Tryd.prog 73 #[.agg #[.bool true, .int .u64 m, .int .i64 e], .int .i64 s, .int .i64 3] w fun e' w' => e' = .returned (.tuple #[.int .u64 0, .bool true]) ∧ Within w w' := by
  have d1 : decide (s ≤ 0) = false := decide_eq_false (by omega)
  have d2 : decide (s > 64) = true := decide_eq_true h1
  clear h1
  go_enter Tryd.func73, Tryd.ntmps73
  go_wp2
  go_ret2
  exact ⟨rfl, (by repeat (first | with_reducible exact Within.refl _ | with_reducible assumption | with_reducible refine Within.alloc ?_ _ | with_reducible refine Within.drew ?_ | with_reducible refine Within.setCell ?_ (by first | (simp; done) | (simp; omega)) _ | with_reducible refine Within.trans ?_ (by assumption)))⟩

set_option maxRecDepth 100000 in
set_option maxHeartbeats 600000 in
theorem drop_far_3p (m : Nat) (s e : Int) (h1 : 64 < s) (hm : ((m : Int) == 0) = false) (w : World) : Calls Tryd.prog 73 #[.agg #[.bool false, .int .u64 m, .int .i64 e], .int .i64 s, .int .i64 3] w fun e' w' => e' = .returned (.tuple #[.int .u64 1, .bool true]) ∧ Within w w' := by
  have d1 : decide (s ≤ 0) = false := decide_eq_false (by omega)
  have d2 : decide (s > 64) = true := decide_eq_true h1
  clear h1
  go_enter Tryd.func73, Tryd.ntmps73
  go_wp2
  go_ret2
  exact ⟨rfl, (by repeat (first | with_reducible exact Within.refl _ | with_reducible assumption | with_reducible refine Within.alloc ?_ _ | with_reducible refine Within.drew ?_ | with_reducible refine Within.setCell ?_ (by first | (simp; done) | (simp; omega)) _ | with_reducible refine Within.trans ?_ (by assumption)))⟩

set_option maxRecDepth 100000 in
set_option maxHeartbeats 600000 in
theorem drop_far_4n (m : Nat) (s e : Int) (h1 : 64 < s) (hm : ((m : Int) == 0) = false) (w : World) : Calls Tryd.prog 73 #[.agg #[.bool true, .int .u64 m, .int .i64 e], .int .i64 s, .int .i64 4] w fun e' w' => e' = .returned (.tuple #[.int .u64 1, .bool true]) ∧ Within w w' := by
  have d1 : decide (s ≤ 0) = false := decide_eq_false (by omega)
  have d2 : decide (s > 64) = true := decide_eq_true h1
  clear h1
  go_enter Tryd.func73, Tryd.ntmps73
  go_wp2
  go_ret2
  exact ⟨rfl, (by repeat (first | with_reducible exact Within.refl _ | with_reducible assumption | with_reducible refine Within.alloc ?_ _ | with_reducible refine Within.drew ?_ | with_reducible refine Within.setCell ?_ (by first | (simp; done) | (simp; omega)) _ | with_reducible refine Within.trans ?_ (by assumption)))⟩

set_option maxRecDepth 100000 in
set_option maxHeartbeats 600000 in
theorem drop_far_4p (m : Nat) (s e : Int) (h1 : 64 < s) (hm : ((m : Int) == 0) = false) (w : World) : Calls Tryd.prog 73 #[.agg #[.bool false, .int .u64 m, .int .i64 e], .int .i64 s, .int .i64 4] w fun e' w' => e' = .returned (.tuple #[.int .u64 0, .bool true]) ∧ Within w w' := by
  have d1 : decide (s ≤ 0) = false := decide_eq_false (by omega)
  have d2 : decide (s > 64) = true := decide_eq_true h1
  clear h1
  go_enter Tryd.func73, Tryd.ntmps73
  go_wp2
  go_ret2
  exact ⟨rfl, (by repeat (first | with_reducible exact Within.refl _ | with_reducible assumption | with_reducible refine Within.alloc ?_ _ | with_reducible refine Within.drew ?_ | with_reducible refine Within.setCell ?_ (by first | (simp; done) | (simp; omega)) _ | with_reducible refine Within.trans ?_ (by assumption)))⟩

end Go.Proofs.YtmpcnhiklpahnaaDoor
