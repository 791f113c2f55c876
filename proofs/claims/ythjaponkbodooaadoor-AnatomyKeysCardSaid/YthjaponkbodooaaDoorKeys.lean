/- AnatomyKeys: the walk: for any two numbers and any place the law returns true. -/
import Derived.Test.YthjaponkbodooaaDoorRef2
namespace Go.Proofs.YthjaponkbodooaaDoor
open Go.RowKit

set_option maxRecDepth 100000 in
set_option maxHeartbeats 600000 in
theorem keys_walk (a b : Nat) (k : Int) (ha : a < 18446744073709551616) (hb : b < 18446744073709551616) (hlo : -9223372036854775808 ≤ k) (hhi : k < 9223372036854775808) (w : World) (hT : Tab w) : Calls Tryd.prog 9 #[.int .u64 a, .int .u64 b, .int .i64 k] w fun e w' => e = .returned (.bool true) ∧ Within w w' := by
  have AK := Lib.hid (fun w => Key_any a ha w); have RK := Lib.hid (fun w => Rkey_any a ha w)
  have UK := Lib.hid (fun w => Unkey_any k hlo hhi w); have RU := Lib.hid (fun w => Runkey_any k hlo hhi w)
  have ST := Lib.hid (fun w => Steps_any a b ha hb w); have RS := Lib.hid (fun w => Rsteps_any a b ha hb w)
  have CM := Lib.hid (fun w => Compare_any a b ha hb w); have RC := Lib.hid (fun w => Rcompare_any a b ha hb w)
  have SM := Lib.hid (fun w => same_D (unkeyB k) (unkeyB k) w)
  rw [unkey_canon, decide_eq_true (rfl : unkeyB k = unkeyB k)] at SM
  clear ha hb hlo hhi
  generalize cmpOf (place a) (place b) = c at *
  generalize place a = p at *
  generalize unkeyB k = u at *
  generalize unkeyE k = v at *
  generalize stepsB a b = s at *
  generalize stepsE a b = t at *
  go_enter Tryd.func9, Tryd.ntmps9
  go_wp2_with fail
  refine (f_any a _).mono ?_; rintro e1 w1 ⟨rfl, rfl⟩
  go_wp2_with fail
  refine (f_any b _).mono ?_; rintro e2 w2 ⟨rfl, rfl⟩
  go_wp2_with fail
  refine (UK.out _).mono ?_; rintro e3 w3 ⟨rfl, hb3⟩
  go_wp2_with fail
  refine (RU.out _).mono ?_; rintro e4 w4 ⟨rfl, rfl⟩
  go_wp2_with fail
  refine (ST.out _).mono ?_; rintro e5 w5 ⟨rfl, hb5⟩
  go_wp2_with fail
  refine (RS.out _).mono ?_; rintro e6 w6 ⟨rfl, rfl⟩
  go_wp2_with fail
  refine (AK.out _).mono ?_; rintro e7 w7 ⟨rfl, hb7⟩
  go_wp2_with fail
  refine (RK.out _).mono ?_; rintro e8 w8 ⟨rfl, rfl⟩
  go_wp2_with fail
  refine (SM.out _).mono ?_; rintro e9 w9 ⟨rfl, rfl⟩
  go_wp2_with fail
  refine (CM.out _).mono ?_; rintro e10 w10 ⟨rfl, hb10⟩
  go_wp2_with fail
  refine (RC.out _).mono ?_; rintro e11 w11 ⟨rfl, rfl⟩
  go_wp2_with fail
  refine (awake_true _ (hT.of (by repeat (first | with_reducible exact Within.refl _ | with_reducible assumption | with_reducible refine Within.alloc ?_ _ | with_reducible refine Within.drew ?_ | with_reducible refine Within.setCell ?_ (by first | (simp; done) | (simp; omega)) _ | with_reducible refine Within.trans ?_ (by assumption))))).mono ?_; rintro e12 w12 ⟨rfl, hb12⟩
  go_wp2
  go_ret
  exact ⟨rfl, (by repeat (first | with_reducible exact Within.refl _ | with_reducible assumption | with_reducible refine Within.alloc ?_ _ | with_reducible refine Within.drew ?_ | with_reducible refine Within.setCell ?_ (by first | (simp; done) | (simp; omega)) _ | with_reducible refine Within.trans ?_ (by assumption)))⟩

end Go.Proofs.YthjaponkbodooaaDoor
