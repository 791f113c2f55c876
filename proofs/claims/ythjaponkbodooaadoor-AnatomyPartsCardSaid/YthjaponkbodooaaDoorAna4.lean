/- WHAT anatomy's INNER FUNCTIONS COME TO, further: made. -/
import Derived.Test.YthjaponkbodooaaDoorAna3
namespace Go.Proofs.YthjaponkbodooaaDoor
open Go.RowKit


/-- the bits that parts make, and the error -/
def oddM (mant : Nat) : Nat := mant / 2 ^ Lib.ctz 64 mant
def oddE (mant : Nat) (e : Int) : Int := e + Lib.ctz 64 mant
def badD (mant : Nat) (e : Int) : Bool := decide (2150 < e) || decide (e < -2150) || decide (53 < Lib.bitLen (oddM mant)) || decide (oddE mant e < -1074)
def downD (mant : Nat) (e : Int) : Nat := min (53 - Lib.bitLen (oddM mant)) (oddE mant e - -1074).toNat
def topD (mant : Nat) (e : Int) : Nat := oddM mant * 2 ^ downD mant e
def fieldD (mant : Nat) (e : Int) : Int := if topD mant e < 4503599627370496 then 0 else oddE mant e - downD mant e + 1075
def madeD (neg : Bool) (mant : Nat) (e : Int) : Nat := if mant = 0 then joinD neg 0 0 else if badD mant e then 0 else if 2047 ≤ fieldD mant e then 0 else joinD neg (fieldD mant e) (topD mant e % 4503599627370496)
def madeED (mant : Nat) (e : Int) : Int := if mant = 0 then joinED 0 0 else if badD mant e then 10 else if 2047 ≤ fieldD mant e then 10 else joinED (fieldD mant e) (topD mant e % 4503599627370496)

set_option maxRecDepth 100000 in
set_option maxHeartbeats 600000 in
theorem madeZero_D (neg : Bool) (e : Int) (w : World) : Calls Tryd.prog 79 #[.agg #[.bool neg, .int .u64 0, .int .i64 e], dbl] w fun e' w' => e' = .returned (.tuple #[.int .u64 (joinD neg 0 0), .int .i64 (joinED 0 0)]) ∧ Within w w' := by
  go_enter Tryd.func79, Tryd.ntmps79
  go_wp2_with fail
  refine (join_D neg 0 0 (by decide) (by decide) (by decide) _).mono ?_; rintro e1 w1 ⟨rfl, hb1⟩
  go_wp2
  go_ret2
  exact ⟨rfl, (by repeat (first | with_reducible exact Within.refl _ | with_reducible assumption | with_reducible refine Within.alloc ?_ _ | with_reducible refine Within.drew ?_ | with_reducible refine Within.setCell ?_ (by first | (simp; done) | (simp; omega)) _ | with_reducible refine Within.trans ?_ (by assumption)))⟩


set_option maxRecDepth 100000 in
set_option maxHeartbeats 600000 in
theorem madeFar_D (neg : Bool) (mant : Nat) (e : Int) (t1 : ((mant : Int) == 0) = false) (h : 2150 < e ∨ e < -2150) (w : World) : Calls Tryd.prog 79 #[.agg #[.bool neg, .int .u64 mant, .int .i64 e], dbl] w fun e' w' => e' = .returned (.tuple #[.int .u64 (0), .int .i64 (10)]) ∧ Within w w' := by
  rcases h with h | h
  all_goals
    go_enter Tryd.func79, Tryd.ntmps79
    go_wp2
    go_ret2
    exact ⟨rfl, (by repeat (first | with_reducible exact Within.refl _ | with_reducible assumption | with_reducible refine Within.alloc ?_ _ | with_reducible refine Within.drew ?_ | with_reducible refine Within.setCell ?_ (by first | (simp; done) | (simp; omega)) _ | with_reducible refine Within.trans ?_ (by assumption)))⟩


set_option maxRecDepth 100000 in
set_option maxHeartbeats 600000 in
theorem madeBad_D (neg : Bool) (mant k q : Nat) (e : Int) (hb : mant < 18446744073709551616) (t1 : ((mant : Int) == 0) = false) (h1 : e ≤ 2150) (h2 : -2150 ≤ e) (K : Hid (k < 64)) (KE : Hid (Lib.ctz 64 mant = k)) (Q : Hid (q = mant / 2 ^ k)) (HQ : Hid (q < 18446744073709551616)) (h3 : 53 < Lib.bitLen q ∨ e + k < -1074) (w : World) (hT : Tab w) : Calls Tryd.prog 79 #[.agg #[.bool neg, .int .u64 mant, .int .i64 e], dbl] w fun e' w' => e' = .returned (.tuple #[.int .u64 (0), .int .i64 (10)]) ∧ Within w w' := by
  have HB := Lib.hid hb; clear hb
  have TZ := Lib.hid (fun w => bits_tz64 mant HB.out w)
  have hq : (mant : Int) / 2 ^ k = (q : Int) := by rw [Q.out]; simp
  have hsh := shr_u64 mant k K.out
  rw [← Q.out] at hsh
  have hk : (k : Int) < 64 := by have := K.out; omega
  have ew : IntKind.i64.wrap (e + k) = e + k := by rw [IntKind.wrap_i64]; omega
  have LN := Lib.hid (fun w => bits_len64 q HQ.out w)
  generalize hL : Lib.bitLen q = L at *
  rw [KE.out] at TZ
  go_enter Tryd.func79, Tryd.ntmps79
  go_wp2_with fail
  refine (TZ.out _ (hT.of (by repeat (first | with_reducible exact Within.refl _ | with_reducible assumption | with_reducible refine Within.alloc ?_ _ | with_reducible refine Within.drew ?_ | with_reducible refine Within.setCell ?_ (by first | (simp; done) | (simp; omega)) _ | with_reducible refine Within.trans ?_ (by assumption))))).mono ?_; rintro e1 w1 ⟨rfl, rfl⟩
  go_wp2_with fail
  refine wp_region_within (by kernel_rfl) (by kernel_rfl) ?_
  repeat
    apply wpq_step rfl
    · intro wq hCq
      have hcq := hCq.cells
      go_simp
      first | rfl | (trace_state; fail)
    simp only [Act.put, List.setIfInBounds_toArray, List.set_cons_zero, List.set_cons_succ]
  refine wpQuiet_nil ?_
  intro w1 hb1
  have hc1 := hb1.cells; have hz1 : w.heap.size + 1 < w1.heap.size := (by have := hb1.sizes; simp at this; omega); have hy1 : w.heap.size < w1.heap.size := (by omega)
  go_wp2_with fail
  refine (LN.out _).mono ?_; rintro e2 w2 ⟨rfl, rfl⟩
  rcases h3 with h3 | h3
  all_goals
    go_wp2
    all_goals
      go_ret2
      exact ⟨rfl, (by repeat (first | with_reducible exact Within.refl _ | with_reducible assumption | with_reducible refine Within.alloc ?_ _ | with_reducible refine Within.drew ?_ | with_reducible refine Within.setCell ?_ (by first | (simp; done) | (simp; omega)) _ | with_reducible refine Within.trans ?_ (by assumption)))⟩


set_option maxRecDepth 100000 in
set_option maxHeartbeats 600000 in
theorem madeLow_D (neg : Bool) (mant k q D m : Nat) (e : Int) (hb : mant < 18446744073709551616) (t1 : ((mant : Int) == 0) = false) (h1 : e ≤ 2150) (h2 : -2150 ≤ e) (K : Hid (k < 64)) (KE : Hid (Lib.ctz 64 mant = k)) (Q : Hid (q = mant / 2 ^ k)) (HQ : Hid (q < 18446744073709551616)) (hD : min ((53 : Int) - Lib.bitLen q) (e + k + 1074) = D) (hL : (Lib.bitLen q : Int) ≤ 53) (he : -1074 ≤ e + k) (HD : Hid (D < 64)) (MQ : Hid (m = q * 2 ^ D)) (HM : Hid (m < 18446744073709551616)) (hm : (m : Int) < 4503599627370496) (w : World) (hT : Tab w) : Calls Tryd.prog 79 #[.agg #[.bool neg, .int .u64 mant, .int .i64 e], dbl] w fun e' w' => e' = .returned (.tuple #[.int .u64 (joinD neg 0 m), .int .i64 (joinED 0 m)]) ∧ Within w w' := by
  have d6 : True → decide ((m : Int) < 4503599627370496) = true := fun _ => decide_eq_true hm
  have HMM := Lib.hid (show m < 4503599627370496 by omega); clear hm
  have HB := Lib.hid hb; clear hb
  have TZ := Lib.hid (fun w => bits_tz64 mant HB.out w)
  have hq : (mant : Int) / 2 ^ k = (q : Int) := by rw [Q.out]; simp
  have hsh := shr_u64 mant k K.out
  rw [← Q.out] at hsh
  have hk : (k : Int) < 64 := by have := K.out; omega
  have ew : IntKind.i64.wrap (e + k) = e + k := by rw [IntKind.wrap_i64]; omega
  have LN := Lib.hid (fun w => bits_len64 q HQ.out w)
  have hshl := shl_u64 q D HD.out (by rw [← MQ.out]; exact HM.out)
  rw [← MQ.out] at hshl
  have hm2 : IntKind.u64.wrap ((q : Int) * 2 ^ D) = m := by rw [show (q : Int) * 2 ^ D = (m : Int) by rw [MQ.out]; simp, IntKind.wrap_u64]; have := HM.out; omega
  generalize Lib.bitLen q = L at *
  rw [KE.out] at TZ
  go_enter Tryd.func79, Tryd.ntmps79
  go_wp2_with fail
  refine (TZ.out _ (hT.of (by repeat (first | with_reducible exact Within.refl _ | with_reducible assumption | with_reducible refine Within.alloc ?_ _ | with_reducible refine Within.drew ?_ | with_reducible refine Within.setCell ?_ (by first | (simp; done) | (simp; omega)) _ | with_reducible refine Within.trans ?_ (by assumption))))).mono ?_; rintro e1 w1 ⟨rfl, rfl⟩
  go_wp2_with fail
  refine wp_region_within (by kernel_rfl) (by kernel_rfl) ?_
  repeat
    apply wpq_step rfl
    · intro wq hCq
      have hcq := hCq.cells
      go_simp
      first | rfl | (trace_state; fail)
    simp only [Act.put, List.setIfInBounds_toArray, List.set_cons_zero, List.set_cons_succ]
  refine wpQuiet_nil ?_
  intro w1 hb1
  have hc1 := hb1.cells; have hz1 : w.heap.size + 1 < w1.heap.size := (by have := hb1.sizes; simp at this; omega); have hy1 : w.heap.size < w1.heap.size := (by omega)
  go_wp2_with fail
  refine (LN.out _).mono ?_; rintro e2 w2 ⟨rfl, rfl⟩
  go_wp2_with fail
  refine (hidden_D _).mono ?_; rintro e2 w2 ⟨rfl, hb2⟩
  have hc2 := hb2.cells; have hz2 : w.heap.size + 1 < w2.heap.size := (by have := hb2.sizes; omega); have hy2 : w.heap.size < w2.heap.size := (by omega)
  go_wp2_with fail
  refine (join_D neg 0 m (by decide) (by decide) (by have := HMM.out; omega) _).mono ?_; rintro e3 w3 ⟨rfl, hb3⟩
  go_wp2
  go_ret2
  exact ⟨rfl, (by repeat (first | with_reducible exact Within.refl _ | with_reducible assumption | with_reducible refine Within.alloc ?_ _ | with_reducible refine Within.drew ?_ | with_reducible refine Within.setCell ?_ (by first | (simp; done) | (simp; omega)) _ | with_reducible refine Within.trans ?_ (by assumption)))⟩


set_option maxRecDepth 100000 in
set_option maxHeartbeats 600000 in
theorem madeOver_D (neg : Bool) (mant k q D m : Nat) (e : Int) (hb : mant < 18446744073709551616) (t1 : ((mant : Int) == 0) = false) (h1 : e ≤ 2150) (h2 : -2150 ≤ e) (K : Hid (k < 64)) (KE : Hid (Lib.ctz 64 mant = k)) (Q : Hid (q = mant / 2 ^ k)) (HQ : Hid (q < 18446744073709551616)) (hD : min ((53 : Int) - Lib.bitLen q) (e + k + 1074) = D) (hL : (Lib.bitLen q : Int) ≤ 53) (he : -1074 ≤ e + k) (HD : Hid (D < 64)) (MQ : Hid (m = q * 2 ^ D)) (HM : Hid (m < 18446744073709551616)) (hm : (4503599627370496 : Int) ≤ m) (h4 : 2047 ≤ e + k - D + 1075) (w : World) (hT : Tab w) : Calls Tryd.prog 79 #[.agg #[.bool neg, .int .u64 mant, .int .i64 e], dbl] w fun e' w' => e' = .returned (.tuple #[.int .u64 (0), .int .i64 (10)]) ∧ Within w w' := by
  have d6 : True → decide ((m : Int) < 4503599627370496) = false := fun _ => decide_eq_false (by omega)
  have HMM := Lib.hid (show 4503599627370496 ≤ m by omega); clear hm
  have HB := Lib.hid hb; clear hb
  have TZ := Lib.hid (fun w => bits_tz64 mant HB.out w)
  have hq : (mant : Int) / 2 ^ k = (q : Int) := by rw [Q.out]; simp
  have hsh := shr_u64 mant k K.out
  rw [← Q.out] at hsh
  have hk : (k : Int) < 64 := by have := K.out; omega
  have ew : IntKind.i64.wrap (e + k) = e + k := by rw [IntKind.wrap_i64]; omega
  have LN := Lib.hid (fun w => bits_len64 q HQ.out w)
  have hshl := shl_u64 q D HD.out (by rw [← MQ.out]; exact HM.out)
  rw [← MQ.out] at hshl
  have hm2 : IntKind.u64.wrap ((q : Int) * 2 ^ D) = m := by rw [show (q : Int) * 2 ^ D = (m : Int) by rw [MQ.out]; simp, IntKind.wrap_u64]; have := HM.out; omega
  generalize Lib.bitLen q = L at *
  rw [KE.out] at TZ
  go_enter Tryd.func79, Tryd.ntmps79
  go_wp2_with fail
  refine (TZ.out _ (hT.of (by repeat (first | with_reducible exact Within.refl _ | with_reducible assumption | with_reducible refine Within.alloc ?_ _ | with_reducible refine Within.drew ?_ | with_reducible refine Within.setCell ?_ (by first | (simp; done) | (simp; omega)) _ | with_reducible refine Within.trans ?_ (by assumption))))).mono ?_; rintro e1 w1 ⟨rfl, rfl⟩
  go_wp2_with fail
  refine wp_region_within (by kernel_rfl) (by kernel_rfl) ?_
  repeat
    apply wpq_step rfl
    · intro wq hCq
      have hcq := hCq.cells
      go_simp
      first | rfl | (trace_state; fail)
    simp only [Act.put, List.setIfInBounds_toArray, List.set_cons_zero, List.set_cons_succ]
  refine wpQuiet_nil ?_
  intro w1 hb1
  have hc1 := hb1.cells; have hz1 : w.heap.size + 1 < w1.heap.size := (by have := hb1.sizes; simp at this; omega); have hy1 : w.heap.size < w1.heap.size := (by omega)
  go_wp2_with fail
  refine (LN.out _).mono ?_; rintro e2 w2 ⟨rfl, rfl⟩
  go_wp2_with fail
  refine (hidden_D _).mono ?_; rintro e2 w2 ⟨rfl, hb2⟩
  have hc2 := hb2.cells; have hz2 : w.heap.size + 1 < w2.heap.size := (by have := hb2.sizes; omega); have hy2 : w.heap.size < w2.heap.size := (by omega)
  go_wp2
  go_ret2
  exact ⟨rfl, (by repeat (first | with_reducible exact Within.refl _ | with_reducible assumption | with_reducible refine Within.alloc ?_ _ | with_reducible refine Within.drew ?_ | with_reducible refine Within.setCell ?_ (by first | (simp; done) | (simp; omega)) _ | with_reducible refine Within.trans ?_ (by assumption)))⟩


set_option maxRecDepth 100000 in
set_option maxHeartbeats 600000 in
theorem madeNorm_D (neg : Bool) (mant k q D m : Nat) (e : Int) (hb : mant < 18446744073709551616) (t1 : ((mant : Int) == 0) = false) (h1 : e ≤ 2150) (h2 : -2150 ≤ e) (K : Hid (k < 64)) (KE : Hid (Lib.ctz 64 mant = k)) (Q : Hid (q = mant / 2 ^ k)) (HQ : Hid (q < 18446744073709551616)) (hD : min ((53 : Int) - Lib.bitLen q) (e + k + 1074) = D) (hL : (Lib.bitLen q : Int) ≤ 53) (he : -1074 ≤ e + k) (HD : Hid (D < 64)) (MQ : Hid (m = q * 2 ^ D)) (HM : Hid (m < 18446744073709551616)) (hm : (4503599627370496 : Int) ≤ m) (hm2 : m < 2 * 4503599627370496) (h4 : e + k - D + 1075 < 2047) (w : World) (hT : Tab w) : Calls Tryd.prog 79 #[.agg #[.bool neg, .int .u64 mant, .int .i64 e], dbl] w fun e' w' => e' = .returned (.tuple #[.int .u64 (joinD neg (e + k - D + 1075) (m - 4503599627370496)), .int .i64 (joinED (e + k - D + 1075) (m - 4503599627370496))]) ∧ Within w w' := by
  have d6 : True → decide ((m : Int) < 4503599627370496) = false := fun _ => decide_eq_false (by omega)
  have HMM := Lib.hid (show 4503599627370496 ≤ m by omega)
  have HM2 := Lib.hid hm2
  have ewm : IntKind.u64.wrap ((m : Int) - 4503599627370496) = ((m - 4503599627370496 : Nat) : Int) := by rw [IntKind.wrap_u64]; omega
  clear hm hm2
  have HB := Lib.hid hb; clear hb
  have TZ := Lib.hid (fun w => bits_tz64 mant HB.out w)
  have hq : (mant : Int) / 2 ^ k = (q : Int) := by rw [Q.out]; simp
  have hsh := shr_u64 mant k K.out
  rw [← Q.out] at hsh
  have hk : (k : Int) < 64 := by have := K.out; omega
  have ew : IntKind.i64.wrap (e + k) = e + k := by rw [IntKind.wrap_i64]; omega
  have LN := Lib.hid (fun w => bits_len64 q HQ.out w)
  have hshl := shl_u64 q D HD.out (by rw [← MQ.out]; exact HM.out)
  rw [← MQ.out] at hshl
  have hm3 : IntKind.u64.wrap ((q : Int) * 2 ^ D) = m := by rw [show (q : Int) * 2 ^ D = (m : Int) by rw [MQ.out]; simp, IntKind.wrap_u64]; have := HM.out; omega
  generalize Lib.bitLen q = L at *
  rw [KE.out] at TZ
  go_enter Tryd.func79, Tryd.ntmps79
  go_wp2_with fail
  refine (TZ.out _ (hT.of (by repeat (first | with_reducible exact Within.refl _ | with_reducible assumption | with_reducible refine Within.alloc ?_ _ | with_reducible refine Within.drew ?_ | with_reducible refine Within.setCell ?_ (by first | (simp; done) | (simp; omega)) _ | with_reducible refine Within.trans ?_ (by assumption))))).mono ?_; rintro e1 w1 ⟨rfl, rfl⟩
  go_wp2_with fail
  refine wp_region_within (by kernel_rfl) (by kernel_rfl) ?_
  repeat
    apply wpq_step rfl
    · intro wq hCq
      have hcq := hCq.cells
      go_simp
      first | rfl | (trace_state; fail)
    simp only [Act.put, List.setIfInBounds_toArray, List.set_cons_zero, List.set_cons_succ]
  refine wpQuiet_nil ?_
  intro w1 hb1
  have hc1 := hb1.cells; have hz1 : w.heap.size + 1 < w1.heap.size := (by have := hb1.sizes; simp at this; omega); have hy1 : w.heap.size < w1.heap.size := (by omega)
  go_wp2_with fail
  refine (LN.out _).mono ?_; rintro e2 w2 ⟨rfl, rfl⟩
  go_wp2_with fail
  refine (hidden_D _).mono ?_; rintro e2 w2 ⟨rfl, hb2⟩
  have hc2 := hb2.cells; have hz2 : w.heap.size + 1 < w2.heap.size := (by have := hb2.sizes; omega); have hy2 : w.heap.size < w2.heap.size := (by omega)
  go_wp2_with fail
  refine wp_region_within (by kernel_rfl) (by kernel_rfl) ?_
  repeat
    apply wpq_step rfl
    · intro wq hCq
      have hcq := hCq.cells
      go_simp
      first | rfl | exact hCq.call (hidden_D _) | exact hCq.call (join_D neg _ _ (by omega) (by omega) (by have := HM2.out; omega) _) | (trace_state; fail)
    simp only [Act.put, List.setIfInBounds_toArray, List.set_cons_zero, List.set_cons_succ]
  refine wpQuiet_nil ?_
  intro w3 hb3
  go_wp2
  go_ret2
  exact ⟨rfl, (by repeat (first | with_reducible exact Within.refl _ | with_reducible assumption | with_reducible refine Within.alloc ?_ _ | with_reducible refine Within.drew ?_ | with_reducible refine Within.setCell ?_ (by first | (simp; done) | (simp; omega)) _ | with_reducible refine Within.trans ?_ (by assumption)))⟩



/-- the bits that parts make, and the error -/
def badS (mant : Nat) (e : Int) : Bool := decide (300 < e) || decide (e < -300) || decide (24 < Lib.bitLen (oddM mant)) || decide (oddE mant e < -149)
def downS (mant : Nat) (e : Int) : Nat := min (24 - Lib.bitLen (oddM mant)) (oddE mant e - -149).toNat
def topS (mant : Nat) (e : Int) : Nat := oddM mant * 2 ^ downS mant e
def fieldS (mant : Nat) (e : Int) : Int := if topS mant e < 8388608 then 0 else oddE mant e - downS mant e + 150
def madeS (neg : Bool) (mant : Nat) (e : Int) : Nat := if mant = 0 then joinS neg 0 0 else if badS mant e then 0 else if 255 ≤ fieldS mant e then 0 else joinS neg (fieldS mant e) (topS mant e % 8388608)
def madeES (mant : Nat) (e : Int) : Int := if mant = 0 then joinES 0 0 else if badS mant e then 10 else if 255 ≤ fieldS mant e then 10 else joinES (fieldS mant e) (topS mant e % 8388608)

set_option maxRecDepth 100000 in
set_option maxHeartbeats 600000 in
theorem madeZero_S (neg : Bool) (e : Int) (w : World) : Calls Tryd.prog 84 #[.agg #[.bool neg, .int .u64 0, .int .i64 e], sgl] w fun e' w' => e' = .returned (.tuple #[.int .u32 (joinS neg 0 0), .int .i64 (joinES 0 0)]) ∧ Within w w' := by
  go_enter Tryd.func84, Tryd.ntmps84
  go_wp2_with fail
  refine (join_S neg 0 0 (by decide) (by decide) (by decide) _).mono ?_; rintro e1 w1 ⟨rfl, hb1⟩
  go_wp2
  go_ret2
  exact ⟨rfl, (by repeat (first | with_reducible exact Within.refl _ | with_reducible assumption | with_reducible refine Within.alloc ?_ _ | with_reducible refine Within.drew ?_ | with_reducible refine Within.setCell ?_ (by first | (simp; done) | (simp; omega)) _ | with_reducible refine Within.trans ?_ (by assumption)))⟩


set_option maxRecDepth 100000 in
set_option maxHeartbeats 600000 in
theorem madeFar_S (neg : Bool) (mant : Nat) (e : Int) (t1 : ((mant : Int) == 0) = false) (h : 300 < e ∨ e < -300) (w : World) : Calls Tryd.prog 84 #[.agg #[.bool neg, .int .u64 mant, .int .i64 e], sgl] w fun e' w' => e' = .returned (.tuple #[.int .u32 (0), .int .i64 (10)]) ∧ Within w w' := by
  rcases h with h | h
  all_goals
    go_enter Tryd.func84, Tryd.ntmps84
    go_wp2
    go_ret2
    exact ⟨rfl, (by repeat (first | with_reducible exact Within.refl _ | with_reducible assumption | with_reducible refine Within.alloc ?_ _ | with_reducible refine Within.drew ?_ | with_reducible refine Within.setCell ?_ (by first | (simp; done) | (simp; omega)) _ | with_reducible refine Within.trans ?_ (by assumption)))⟩


set_option maxRecDepth 100000 in
set_option maxHeartbeats 600000 in
theorem madeBad_S (neg : Bool) (mant k q : Nat) (e : Int) (hb : mant < 18446744073709551616) (t1 : ((mant : Int) == 0) = false) (h1 : e ≤ 300) (h2 : -300 ≤ e) (K : Hid (k < 64)) (KE : Hid (Lib.ctz 64 mant = k)) (Q : Hid (q = mant / 2 ^ k)) (HQ : Hid (q < 18446744073709551616)) (h3 : 24 < Lib.bitLen q ∨ e + k < -149) (w : World) (hT : Tab w) : Calls Tryd.prog 84 #[.agg #[.bool neg, .int .u64 mant, .int .i64 e], sgl] w fun e' w' => e' = .returned (.tuple #[.int .u32 (0), .int .i64 (10)]) ∧ Within w w' := by
  have HB := Lib.hid hb; clear hb
  have TZ := Lib.hid (fun w => bits_tz64 mant HB.out w)
  have hq : (mant : Int) / 2 ^ k = (q : Int) := by rw [Q.out]; simp
  have hsh := shr_u64 mant k K.out
  rw [← Q.out] at hsh
  have hk : (k : Int) < 64 := by have := K.out; omega
  have ew : IntKind.i64.wrap (e + k) = e + k := by rw [IntKind.wrap_i64]; omega
  have LN := Lib.hid (fun w => bits_len64 q HQ.out w)
  generalize hL : Lib.bitLen q = L at *
  rw [KE.out] at TZ
  go_enter Tryd.func84, Tryd.ntmps84
  go_wp2_with fail
  refine (TZ.out _ (hT.of (by repeat (first | with_reducible exact Within.refl _ | with_reducible assumption | with_reducible refine Within.alloc ?_ _ | with_reducible refine Within.drew ?_ | with_reducible refine Within.setCell ?_ (by first | (simp; done) | (simp; omega)) _ | with_reducible refine Within.trans ?_ (by assumption))))).mono ?_; rintro e1 w1 ⟨rfl, rfl⟩
  go_wp2_with fail
  refine wp_region_within (by kernel_rfl) (by kernel_rfl) ?_
  repeat
    apply wpq_step rfl
    · intro wq hCq
      have hcq := hCq.cells
      go_simp
      first | rfl | (trace_state; fail)
    simp only [Act.put, List.setIfInBounds_toArray, List.set_cons_zero, List.set_cons_succ]
  refine wpQuiet_nil ?_
  intro w1 hb1
  have hc1 := hb1.cells; have hz1 : w.heap.size + 1 < w1.heap.size := (by have := hb1.sizes; simp at this; omega); have hy1 : w.heap.size < w1.heap.size := (by omega)
  go_wp2_with fail
  refine (LN.out _).mono ?_; rintro e2 w2 ⟨rfl, rfl⟩
  rcases h3 with h3 | h3
  all_goals
    go_wp2
    all_goals
      go_ret2
      exact ⟨rfl, (by repeat (first | with_reducible exact Within.refl _ | with_reducible assumption | with_reducible refine Within.alloc ?_ _ | with_reducible refine Within.drew ?_ | with_reducible refine Within.setCell ?_ (by first | (simp; done) | (simp; omega)) _ | with_reducible refine Within.trans ?_ (by assumption)))⟩


set_option maxRecDepth 100000 in
set_option maxHeartbeats 600000 in
theorem madeLow_S (neg : Bool) (mant k q D m : Nat) (e : Int) (hb : mant < 18446744073709551616) (t1 : ((mant : Int) == 0) = false) (h1 : e ≤ 300) (h2 : -300 ≤ e) (K : Hid (k < 64)) (KE : Hid (Lib.ctz 64 mant = k)) (Q : Hid (q = mant / 2 ^ k)) (HQ : Hid (q < 18446744073709551616)) (hD : min ((24 : Int) - Lib.bitLen q) (e + k + 149) = D) (hL : (Lib.bitLen q : Int) ≤ 24) (he : -149 ≤ e + k) (HD : Hid (D < 64)) (MQ : Hid (m = q * 2 ^ D)) (HM : Hid (m < 18446744073709551616)) (hm : (m : Int) < 8388608) (w : World) (hT : Tab w) : Calls Tryd.prog 84 #[.agg #[.bool neg, .int .u64 mant, .int .i64 e], sgl] w fun e' w' => e' = .returned (.tuple #[.int .u32 (joinS neg 0 m), .int .i64 (joinES 0 m)]) ∧ Within w w' := by
  have d6 : True → decide ((m : Int) < 8388608) = true := fun _ => decide_eq_true hm
  have HMM := Lib.hid (show m < 8388608 by omega); clear hm
  have HB := Lib.hid hb; clear hb
  have TZ := Lib.hid (fun w => bits_tz64 mant HB.out w)
  have hq : (mant : Int) / 2 ^ k = (q : Int) := by rw [Q.out]; simp
  have hsh := shr_u64 mant k K.out
  rw [← Q.out] at hsh
  have hk : (k : Int) < 64 := by have := K.out; omega
  have ew : IntKind.i64.wrap (e + k) = e + k := by rw [IntKind.wrap_i64]; omega
  have LN := Lib.hid (fun w => bits_len64 q HQ.out w)
  have hshl := shl_u64 q D HD.out (by rw [← MQ.out]; exact HM.out)
  rw [← MQ.out] at hshl
  have hm2 : IntKind.u64.wrap ((q : Int) * 2 ^ D) = m := by rw [show (q : Int) * 2 ^ D = (m : Int) by rw [MQ.out]; simp, IntKind.wrap_u64]; have := HM.out; omega
  generalize Lib.bitLen q = L at *
  rw [KE.out] at TZ
  go_enter Tryd.func84, Tryd.ntmps84
  go_wp2_with fail
  refine (TZ.out _ (hT.of (by repeat (first | with_reducible exact Within.refl _ | with_reducible assumption | with_reducible refine Within.alloc ?_ _ | with_reducible refine Within.drew ?_ | with_reducible refine Within.setCell ?_ (by first | (simp; done) | (simp; omega)) _ | with_reducible refine Within.trans ?_ (by assumption))))).mono ?_; rintro e1 w1 ⟨rfl, rfl⟩
  go_wp2_with fail
  refine wp_region_within (by kernel_rfl) (by kernel_rfl) ?_
  repeat
    apply wpq_step rfl
    · intro wq hCq
      have hcq := hCq.cells
      go_simp
      first | rfl | (trace_state; fail)
    simp only [Act.put, List.setIfInBounds_toArray, List.set_cons_zero, List.set_cons_succ]
  refine wpQuiet_nil ?_
  intro w1 hb1
  have hc1 := hb1.cells; have hz1 : w.heap.size + 1 < w1.heap.size := (by have := hb1.sizes; simp at this; omega); have hy1 : w.heap.size < w1.heap.size := (by omega)
  go_wp2_with fail
  refine (LN.out _).mono ?_; rintro e2 w2 ⟨rfl, rfl⟩
  go_wp2_with fail
  refine (hidden_S _).mono ?_; rintro e2 w2 ⟨rfl, hb2⟩
  have hc2 := hb2.cells; have hz2 : w.heap.size + 1 < w2.heap.size := (by have := hb2.sizes; omega); have hy2 : w.heap.size < w2.heap.size := (by omega)
  go_wp2_with fail
  rw [show (m : Int) % 4294967296 = m by have := HMM.out; omega]
  refine (join_S neg 0 m (by decide) (by decide) (by have := HMM.out; omega) _).mono ?_; rintro e3 w3 ⟨rfl, hb3⟩
  go_wp2
  go_ret2
  exact ⟨rfl, (by repeat (first | with_reducible exact Within.refl _ | with_reducible assumption | with_reducible refine Within.alloc ?_ _ | with_reducible refine Within.drew ?_ | with_reducible refine Within.setCell ?_ (by first | (simp; done) | (simp; omega)) _ | with_reducible refine Within.trans ?_ (by assumption)))⟩


set_option maxRecDepth 100000 in
set_option maxHeartbeats 600000 in
theorem madeOver_S (neg : Bool) (mant k q D m : Nat) (e : Int) (hb : mant < 18446744073709551616) (t1 : ((mant : Int) == 0) = false) (h1 : e ≤ 300) (h2 : -300 ≤ e) (K : Hid (k < 64)) (KE : Hid (Lib.ctz 64 mant = k)) (Q : Hid (q = mant / 2 ^ k)) (HQ : Hid (q < 18446744073709551616)) (hD : min ((24 : Int) - Lib.bitLen q) (e + k + 149) = D) (hL : (Lib.bitLen q : Int) ≤ 24) (he : -149 ≤ e + k) (HD : Hid (D < 64)) (MQ : Hid (m = q * 2 ^ D)) (HM : Hid (m < 18446744073709551616)) (hm : (8388608 : Int) ≤ m) (h4 : 255 ≤ e + k - D + 150) (w : World) (hT : Tab w) : Calls Tryd.prog 84 #[.agg #[.bool neg, .int .u64 mant, .int .i64 e], sgl] w fun e' w' => e' = .returned (.tuple #[.int .u32 (0), .int .i64 (10)]) ∧ Within w w' := by
  have d6 : True → decide ((m : Int) < 8388608) = false := fun _ => decide_eq_false (by omega)
  have HMM := Lib.hid (show 8388608 ≤ m by omega); clear hm
  have HB := Lib.hid hb; clear hb
  have TZ := Lib.hid (fun w => bits_tz64 mant HB.out w)
  have hq : (mant : Int) / 2 ^ k = (q : Int) := by rw [Q.out]; simp
  have hsh := shr_u64 mant k K.out
  rw [← Q.out] at hsh
  have hk : (k : Int) < 64 := by have := K.out; omega
  have ew : IntKind.i64.wrap (e + k) = e + k := by rw [IntKind.wrap_i64]; omega
  have LN := Lib.hid (fun w => bits_len64 q HQ.out w)
  have hshl := shl_u64 q D HD.out (by rw [← MQ.out]; exact HM.out)
  rw [← MQ.out] at hshl
  have hm2 : IntKind.u64.wrap ((q : Int) * 2 ^ D) = m := by rw [show (q : Int) * 2 ^ D = (m : Int) by rw [MQ.out]; simp, IntKind.wrap_u64]; have := HM.out; omega
  generalize Lib.bitLen q = L at *
  rw [KE.out] at TZ
  go_enter Tryd.func84, Tryd.ntmps84
  go_wp2_with fail
  refine (TZ.out _ (hT.of (by repeat (first | with_reducible exact Within.refl _ | with_reducible assumption | with_reducible refine Within.alloc ?_ _ | with_reducible refine Within.drew ?_ | with_reducible refine Within.setCell ?_ (by first | (simp; done) | (simp; omega)) _ | with_reducible refine Within.trans ?_ (by assumption))))).mono ?_; rintro e1 w1 ⟨rfl, rfl⟩
  go_wp2_with fail
  refine wp_region_within (by kernel_rfl) (by kernel_rfl) ?_
  repeat
    apply wpq_step rfl
    · intro wq hCq
      have hcq := hCq.cells
      go_simp
      first | rfl | (trace_state; fail)
    simp only [Act.put, List.setIfInBounds_toArray, List.set_cons_zero, List.set_cons_succ]
  refine wpQuiet_nil ?_
  intro w1 hb1
  have hc1 := hb1.cells; have hz1 : w.heap.size + 1 < w1.heap.size := (by have := hb1.sizes; simp at this; omega); have hy1 : w.heap.size < w1.heap.size := (by omega)
  go_wp2_with fail
  refine (LN.out _).mono ?_; rintro e2 w2 ⟨rfl, rfl⟩
  go_wp2_with fail
  refine (hidden_S _).mono ?_; rintro e2 w2 ⟨rfl, hb2⟩
  have hc2 := hb2.cells; have hz2 : w.heap.size + 1 < w2.heap.size := (by have := hb2.sizes; omega); have hy2 : w.heap.size < w2.heap.size := (by omega)
  go_wp2
  go_ret2
  exact ⟨rfl, (by repeat (first | with_reducible exact Within.refl _ | with_reducible assumption | with_reducible refine Within.alloc ?_ _ | with_reducible refine Within.drew ?_ | with_reducible refine Within.setCell ?_ (by first | (simp; done) | (simp; omega)) _ | with_reducible refine Within.trans ?_ (by assumption)))⟩


set_option maxRecDepth 100000 in
set_option maxHeartbeats 600000 in
theorem madeNorm_S (neg : Bool) (mant k q D m : Nat) (e : Int) (hb : mant < 18446744073709551616) (t1 : ((mant : Int) == 0) = false) (h1 : e ≤ 300) (h2 : -300 ≤ e) (K : Hid (k < 64)) (KE : Hid (Lib.ctz 64 mant = k)) (Q : Hid (q = mant / 2 ^ k)) (HQ : Hid (q < 18446744073709551616)) (hD : min ((24 : Int) - Lib.bitLen q) (e + k + 149) = D) (hL : (Lib.bitLen q : Int) ≤ 24) (he : -149 ≤ e + k) (HD : Hid (D < 64)) (MQ : Hid (m = q * 2 ^ D)) (HM : Hid (m < 18446744073709551616)) (hm : (8388608 : Int) ≤ m) (hm2 : m < 2 * 8388608) (h4 : e + k - D + 150 < 255) (w : World) (hT : Tab w) : Calls Tryd.prog 84 #[.agg #[.bool neg, .int .u64 mant, .int .i64 e], sgl] w fun e' w' => e' = .returned (.tuple #[.int .u32 (joinS neg (e + k - D + 150) (m - 8388608)), .int .i64 (joinES (e + k - D + 150) (m - 8388608))]) ∧ Within w w' := by
  have d6 : True → decide ((m : Int) < 8388608) = false := fun _ => decide_eq_false (by omega)
  have HMM := Lib.hid (show 8388608 ≤ m by omega)
  have HM2 := Lib.hid hm2
  have ewm : IntKind.u64.wrap ((m : Int) - 8388608) = ((m - 8388608 : Nat) : Int) := by rw [IntKind.wrap_u64]; omega
  have ewn : IntKind.u32.wrap ((m - 8388608 : Nat) : Int) = ((m - 8388608 : Nat) : Int) := by rw [IntKind.wrap_u32]; omega
  clear hm hm2
  have HB := Lib.hid hb; clear hb
  have TZ := Lib.hid (fun w => bits_tz64 mant HB.out w)
  have hq : (mant : Int) / 2 ^ k = (q : Int) := by rw [Q.out]; simp
  have hsh := shr_u64 mant k K.out
  rw [← Q.out] at hsh
  have hk : (k : Int) < 64 := by have := K.out; omega
  have ew : IntKind.i64.wrap (e + k) = e + k := by rw [IntKind.wrap_i64]; omega
  have LN := Lib.hid (fun w => bits_len64 q HQ.out w)
  have hshl := shl_u64 q D HD.out (by rw [← MQ.out]; exact HM.out)
  rw [← MQ.out] at hshl
  have hm3 : IntKind.u64.wrap ((q : Int) * 2 ^ D) = m := by rw [show (q : Int) * 2 ^ D = (m : Int) by rw [MQ.out]; simp, IntKind.wrap_u64]; have := HM.out; omega
  generalize Lib.bitLen q = L at *
  rw [KE.out] at TZ
  go_enter Tryd.func84, Tryd.ntmps84
  go_wp2_with fail
  refine (TZ.out _ (hT.of (by repeat (first | with_reducible exact Within.refl _ | with_reducible assumption | with_reducible refine Within.alloc ?_ _ | with_reducible refine Within.drew ?_ | with_reducible refine Within.setCell ?_ (by first | (simp; done) | (simp; omega)) _ | with_reducible refine Within.trans ?_ (by assumption))))).mono ?_; rintro e1 w1 ⟨rfl, rfl⟩
  go_wp2_with fail
  refine wp_region_within (by kernel_rfl) (by kernel_rfl) ?_
  repeat
    apply wpq_step rfl
    · intro wq hCq
      have hcq := hCq.cells
      go_simp
      first | rfl | (trace_state; fail)
    simp only [Act.put, List.setIfInBounds_toArray, List.set_cons_zero, List.set_cons_succ]
  refine wpQuiet_nil ?_
  intro w1 hb1
  have hc1 := hb1.cells; have hz1 : w.heap.size + 1 < w1.heap.size := (by have := hb1.sizes; simp at this; omega); have hy1 : w.heap.size < w1.heap.size := (by omega)
  go_wp2_with fail
  refine (LN.out _).mono ?_; rintro e2 w2 ⟨rfl, rfl⟩
  go_wp2_with fail
  refine (hidden_S _).mono ?_; rintro e2 w2 ⟨rfl, hb2⟩
  have hc2 := hb2.cells; have hz2 : w.heap.size + 1 < w2.heap.size := (by have := hb2.sizes; omega); have hy2 : w.heap.size < w2.heap.size := (by omega)
  go_wp2_with fail
  refine wp_region_within (by kernel_rfl) (by kernel_rfl) ?_
  repeat
    apply wpq_step rfl
    · intro wq hCq
      have hcq := hCq.cells
      go_simp
      first | rfl | exact hCq.call (hidden_S _) | exact hCq.call (join_S neg _ _ (by omega) (by omega) (by have := HM2.out; omega) _) | (trace_state; fail)
    simp only [Act.put, List.setIfInBounds_toArray, List.set_cons_zero, List.set_cons_succ]
  refine wpQuiet_nil ?_
  intro w3 hb3
  go_wp2
  go_ret2
  exact ⟨rfl, (by repeat (first | with_reducible exact Within.refl _ | with_reducible assumption | with_reducible refine Within.alloc ?_ _ | with_reducible refine Within.drew ?_ | with_reducible refine Within.setCell ?_ (by first | (simp; done) | (simp; omega)) _ | with_reducible refine Within.trans ?_ (by assumption)))⟩


end Go.Proofs.YthjaponkbodooaaDoor
