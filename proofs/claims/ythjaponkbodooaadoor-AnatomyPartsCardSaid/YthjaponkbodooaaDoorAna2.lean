/- WHAT anatomy's INNER FUNCTIONS COME TO, further: join, next, prev. -/
import Derived.Test.YthjaponkbodooaaDoorAna1
import Derived.Test.YthjaponkbodooaaDoorBits
namespace Go.Proofs.YthjaponkbodooaaDoor
open Go.RowKit


/-- the bits of fields -/
def bitsOfD (neg : Bool) (e fr : Nat) : Nat := e * 4503599627370496 + fr + (if neg then 9223372036854775808 else 0)
def joinD (neg : Bool) (e : Int) (fr : Nat) : Nat := if e < 0 ∨ 2047 < e ∨ 4503599627370496 ≤ fr then 0 else canonD (bitsOfD neg e.toNat fr)
def joinED (e : Int) (fr : Nat) : Int := if e < 0 ∨ 2047 < e ∨ 4503599627370496 ≤ fr then 1 else 0
/-- the next one above, the next one below -/
def nextD (b : Nat) : Nat := if canonD b = 9221120237041090561 ∨ canonD b = 9218868437227405312 then canonD b else if canonD b % 9223372036854775808 = 0 then 1 else if 9223372036854775808 ≤ canonD b then canonD b - 1 else canonD b + 1
def turnD (b : Nat) : Nat := (b + 9223372036854775808) % 18446744073709551616
def prevD (b : Nat) : Nat := if nanD b then canonD b else turnD (nextD (turnD b))
theorem nextD_lt {b : Nat} (h : b < 18446744073709551616) : nextD b < 18446744073709551616 := by
  have := canonD_lt h
  unfold nextD; split
  · omega
  · split
    · omega
    · split <;> omega
theorem turnD_lt (b : Nat) : turnD b < 18446744073709551616 := by unfold turnD; omega
theorem prevD_lt {b : Nat} (h : b < 18446744073709551616) : prevD b < 18446744073709551616 := by
  unfold prevD; split
  · exact canonD_lt h
  · exact turnD_lt _
theorem bitsOfD_lt (neg : Bool) {e fr : Nat} (h1 : e ≤ 2047) (h2 : fr < 4503599627370496) : bitsOfD neg e fr < 18446744073709551616 := by unfold bitsOfD; cases neg <;> simp <;> omega

set_option maxHeartbeats 400000 in
theorem join_D (neg : Bool) (e : Int) (fr : Nat) (hlo : -9223372036854775808 ≤ e) (hhi : e ≤ 9223372036854775807) (hb : fr < 18446744073709551616) (w : World) : Calls Tryd.prog 93 #[.bool neg, .int .i64 e, .int .u64 fr, dbl] w fun e' w' => e' = .returned (.tuple #[.int .u64 (joinD neg e fr), .int .i64 (joinED e fr)]) ∧ Within w w' := by
  by_cases c1 : e < 0
  · have hv : (joinD neg e fr : Int) = 0 ∧ joinED e fr = 1 := by unfold joinD joinED; rw [if_pos (by omega), if_pos (by omega)]; exact ⟨rfl, rfl⟩
    rw [hv.1, hv.2]; clear hv hb
    go_enter Tryd.func93, Tryd.ntmps93
    go_wp2
    go_ret2
    exact ⟨rfl, (by repeat (first | exact Within.refl _ | assumption | refine Within.alloc ?_ _ | refine Within.drew ?_ | refine Within.trans ?_ (by assumption)))⟩
  by_cases c2 : 2047 < e
  · have hv : (joinD neg e fr : Int) = 0 ∧ joinED e fr = 1 := by unfold joinD joinED; rw [if_pos (by omega), if_pos (by omega)]; exact ⟨rfl, rfl⟩
    rw [hv.1, hv.2]; clear hv hb
    go_enter Tryd.func93, Tryd.ntmps93
    go_wp2
    go_ret2
    exact ⟨rfl, (by repeat (first | exact Within.refl _ | assumption | refine Within.alloc ?_ _ | refine Within.drew ?_ | refine Within.trans ?_ (by assumption)))⟩
  obtain ⟨k, rfl⟩ := Int.eq_ofNat_of_zero_le (show 0 ≤ e by omega)
  have c3 : (k : Int) ≤ 2047 := by omega
  by_cases c4 : 4503599627370496 ≤ fr
  · have c5 : decide ((4503599627370496 : Int) ≤ fr) = true := decide_eq_true (by omega)
    have d1 : decide ((k : Int) < 0) = false := decide_eq_false (by omega)
    have d2 : decide ((2047 : Int) < k) = false := decide_eq_false (by omega)
    have ew3 : IntKind.u64.wrap (fr : Int) = fr := by rw [IntKind.wrap_u64]; omega
    have hv : (joinD neg k fr : Int) = 0 ∧ joinED k fr = 1 := by unfold joinD joinED; rw [if_pos (by omega), if_pos (by omega)]; exact ⟨rfl, rfl⟩
    rw [hv.1, hv.2]; clear hv hlo hhi hb c4 c1 c2 c3
    go_enter Tryd.func93, Tryd.ntmps93
    go_wp2_with fail
    refine (hidden_D _).mono ?_; rintro e1 w1 ⟨rfl, hb1⟩
    have hc1 := hb1.cells; have hz1 : w.heap.size < w1.heap.size := by have := hb1.sizes; simp at this; omega
    go_wp2
    go_ret2
    exact ⟨rfl, (by repeat (first | exact Within.refl _ | assumption | refine Within.alloc ?_ _ | refine Within.drew ?_ | refine Within.trans ?_ (by assumption)))⟩
  · have c5 : decide ((4503599627370496 : Int) ≤ fr) = false := decide_eq_false (by omega)
    have d1 : decide ((k : Int) < 0) = false := decide_eq_false (by omega)
    have d2 : decide ((2047 : Int) < k) = false := decide_eq_false (by omega)
    have hv : (joinD neg k fr : Int) = canonD (bitsOfD neg k fr) ∧ joinED k fr = 0 := by unfold joinD joinED; rw [if_neg (by omega), if_neg (by omega)]; exact ⟨rfl, rfl⟩
    rw [hv.1, hv.2]
    have hlt := Lib.hid (bitsOfD_lt neg (e := k) (fr := fr) (by omega) (by omega))
    have j1 := u64_join 52 (k * 4503599627370496) fr (by omega) (by omega) (by rw [show (2 : Nat) ^ 52 = 4503599627370496 from rfl]; omega) (by rw [show (2 : Nat) ^ 52 = 4503599627370496 from rfl]; omega)
    have j2 := u64_join 63 9223372036854775808 (k * 4503599627370496 + fr) (by omega) (by omega) (by decide) (by rw [show (2 : Nat) ^ 63 = 9223372036854775808 from rfl]; omega)
    have j2' : bits .or .u64 ((k : Int) * 4503599627370496 + fr) 9223372036854775808 = (k : Int) * 4503599627370496 + fr + 9223372036854775808 := by
      rw [show (k : Int) * 4503599627370496 + fr = ((k * 4503599627370496 + fr : Nat) : Int) by omega, show (9223372036854775808 : Int) = ((9223372036854775808 : Nat) : Int) from rfl, u64_or_nat _ _ (by omega) (by omega), Nat.or_comm, ← u64_or_nat _ _ (by omega) (by omega), j2]
      omega
    simp only [Int.natCast_mul, Int.natCast_add, Int.cast_ofNat_Int] at j1
    have ew : IntKind.u64.wrap (k : Int) = k := by rw [IntKind.wrap_u64]; omega
    have ew2 : IntKind.u64.wrap ((k : Int) * 4503599627370496) = k * 4503599627370496 := by rw [IntKind.wrap_u64]; omega
    have ew3 : IntKind.u64.wrap (fr : Int) = fr := by rw [IntKind.wrap_u64]; omega
    have f0 : (0 : Int) ≤ k := by omega
    have f1 : (0 : Int) ≤ fr := by omega
    clear hv hlo hhi c1 c2 c4 hb j2 c3
    cases neg
    · have j3 : (k : Int) * 4503599627370496 + fr = (bitsOfD false k fr : Int) := by
        unfold bitsOfD; simp
      have J3 := Lib.hid j3; clear j3
      go_enter Tryd.func93, Tryd.ntmps93
      go_wp2_with fail
      refine (hidden_D _).mono ?_; rintro e1 w1 ⟨rfl, hb1⟩
      have hc1 := hb1.cells; have hz1 : w.heap.size < w1.heap.size := by have := hb1.sizes; simp at this; omega
      go_wp2_with fail
      rw [J3.out]
      refine (canon_D _ hlt.out _).mono ?_; rintro e2 w2 ⟨rfl, hb2⟩
      go_wp2
      go_ret2
      exact ⟨rfl, (by repeat (first | exact Within.refl _ | assumption | refine Within.alloc ?_ _ | refine Within.drew ?_ | refine Within.trans ?_ (by assumption)))⟩
    · have j3 : (k : Int) * 4503599627370496 + fr + 9223372036854775808 = (bitsOfD true k fr : Int) := by
        unfold bitsOfD; simp
      have J3 := Lib.hid j3; clear j3
      go_enter Tryd.func93, Tryd.ntmps93
      go_wp2_with fail
      refine (hidden_D _).mono ?_; rintro e1 w1 ⟨rfl, hb1⟩
      have hc1 := hb1.cells; have hz1 : w.heap.size < w1.heap.size := by have := hb1.sizes; simp at this; omega
      go_wp2_with fail
      refine (sign_D _).mono ?_; rintro e2 w2 ⟨rfl, hb2⟩
      have hc2 := hb2.cells; have hz2 : w.heap.size < w2.heap.size := by have := hb2.sizes; omega
      go_wp2_with fail
      rw [J3.out]
      refine (canon_D _ hlt.out _).mono ?_; rintro e3 w3 ⟨rfl, hb3⟩
      go_wp2
      go_ret2
      exact ⟨rfl, (by repeat (first | exact Within.refl _ | assumption | refine Within.alloc ?_ _ | refine Within.drew ?_ | refine Within.trans ?_ (by assumption)))⟩



/-- the bits of fields -/
def bitsOfS (neg : Bool) (e fr : Nat) : Nat := e * 8388608 + fr + (if neg then 2147483648 else 0)
def joinS (neg : Bool) (e : Int) (fr : Nat) : Nat := if e < 0 ∨ 255 < e ∨ 8388608 ≤ fr then 0 else canonS (bitsOfS neg e.toNat fr)
def joinES (e : Int) (fr : Nat) : Int := if e < 0 ∨ 255 < e ∨ 8388608 ≤ fr then 1 else 0
/-- the next one above, the next one below -/
def nextS (b : Nat) : Nat := if canonS b = 2143289344 ∨ canonS b = 2139095040 then canonS b else if canonS b % 2147483648 = 0 then 1 else if 2147483648 ≤ canonS b then canonS b - 1 else canonS b + 1
def turnS (b : Nat) : Nat := (b + 2147483648) % 4294967296
def prevS (b : Nat) : Nat := if nanS b then canonS b else turnS (nextS (turnS b))
theorem nextS_lt {b : Nat} (h : b < 4294967296) : nextS b < 4294967296 := by
  have := canonS_lt h
  unfold nextS; split
  · omega
  · split
    · omega
    · split <;> omega
theorem turnS_lt (b : Nat) : turnS b < 4294967296 := by unfold turnS; omega
theorem prevS_lt {b : Nat} (h : b < 4294967296) : prevS b < 4294967296 := by
  unfold prevS; split
  · exact canonS_lt h
  · exact turnS_lt _
theorem bitsOfS_lt (neg : Bool) {e fr : Nat} (h1 : e ≤ 255) (h2 : fr < 8388608) : bitsOfS neg e fr < 4294967296 := by unfold bitsOfS; cases neg <;> simp <;> omega

set_option maxHeartbeats 400000 in
theorem join_S (neg : Bool) (e : Int) (fr : Nat) (hlo : -9223372036854775808 ≤ e) (hhi : e ≤ 9223372036854775807) (hb : fr < 4294967296) (w : World) : Calls Tryd.prog 87 #[.bool neg, .int .i64 e, .int .u32 fr, sgl] w fun e' w' => e' = .returned (.tuple #[.int .u32 (joinS neg e fr), .int .i64 (joinES e fr)]) ∧ Within w w' := by
  by_cases c1 : e < 0
  · have hv : (joinS neg e fr : Int) = 0 ∧ joinES e fr = 1 := by unfold joinS joinES; rw [if_pos (by omega), if_pos (by omega)]; exact ⟨rfl, rfl⟩
    rw [hv.1, hv.2]; clear hv hb
    go_enter Tryd.func87, Tryd.ntmps87
    go_wp2
    go_ret2
    exact ⟨rfl, (by repeat (first | exact Within.refl _ | assumption | refine Within.alloc ?_ _ | refine Within.drew ?_ | refine Within.trans ?_ (by assumption)))⟩
  by_cases c2 : 255 < e
  · have hv : (joinS neg e fr : Int) = 0 ∧ joinES e fr = 1 := by unfold joinS joinES; rw [if_pos (by omega), if_pos (by omega)]; exact ⟨rfl, rfl⟩
    rw [hv.1, hv.2]; clear hv hb
    go_enter Tryd.func87, Tryd.ntmps87
    go_wp2
    go_ret2
    exact ⟨rfl, (by repeat (first | exact Within.refl _ | assumption | refine Within.alloc ?_ _ | refine Within.drew ?_ | refine Within.trans ?_ (by assumption)))⟩
  obtain ⟨k, rfl⟩ := Int.eq_ofNat_of_zero_le (show 0 ≤ e by omega)
  have c3 : (k : Int) ≤ 255 := by omega
  by_cases c4 : 8388608 ≤ fr
  · have c5 : decide ((8388608 : Int) ≤ fr) = true := decide_eq_true (by omega)
    have d1 : decide ((k : Int) < 0) = false := decide_eq_false (by omega)
    have d2 : decide ((255 : Int) < k) = false := decide_eq_false (by omega)
    have ew3 : IntKind.u64.wrap (fr : Int) = fr := by rw [IntKind.wrap_u64]; omega
    have hv : (joinS neg k fr : Int) = 0 ∧ joinES k fr = 1 := by unfold joinS joinES; rw [if_pos (by omega), if_pos (by omega)]; exact ⟨rfl, rfl⟩
    rw [hv.1, hv.2]; clear hv hlo hhi hb c4 c1 c2 c3
    go_enter Tryd.func87, Tryd.ntmps87
    go_wp2_with fail
    refine (hidden_S _).mono ?_; rintro e1 w1 ⟨rfl, hb1⟩
    have hc1 := hb1.cells; have hz1 : w.heap.size < w1.heap.size := by have := hb1.sizes; simp at this; omega
    go_wp2
    go_ret2
    exact ⟨rfl, (by repeat (first | exact Within.refl _ | assumption | refine Within.alloc ?_ _ | refine Within.drew ?_ | refine Within.trans ?_ (by assumption)))⟩
  · have c5 : decide ((8388608 : Int) ≤ fr) = false := decide_eq_false (by omega)
    have d1 : decide ((k : Int) < 0) = false := decide_eq_false (by omega)
    have d2 : decide ((255 : Int) < k) = false := decide_eq_false (by omega)
    have hv : (joinS neg k fr : Int) = canonS (bitsOfS neg k fr) ∧ joinES k fr = 0 := by unfold joinS joinES; rw [if_neg (by omega), if_neg (by omega)]; exact ⟨rfl, rfl⟩
    rw [hv.1, hv.2]
    have hlt := Lib.hid (bitsOfS_lt neg (e := k) (fr := fr) (by omega) (by omega))
    have j1 := u64_join 23 (k * 8388608) fr (by omega) (by omega) (by rw [show (2 : Nat) ^ 23 = 8388608 from rfl]; omega) (by rw [show (2 : Nat) ^ 23 = 8388608 from rfl]; omega)
    have j2 := u64_join 31 2147483648 (k * 8388608 + fr) (by omega) (by omega) (by decide) (by rw [show (2 : Nat) ^ 31 = 2147483648 from rfl]; omega)
    have j2' : bits .or .u64 ((k : Int) * 8388608 + fr) 2147483648 = (k : Int) * 8388608 + fr + 2147483648 := by
      rw [show (k : Int) * 8388608 + fr = ((k * 8388608 + fr : Nat) : Int) by omega, show (2147483648 : Int) = ((2147483648 : Nat) : Int) from rfl, u64_or_nat _ _ (by omega) (by omega), Nat.or_comm, ← u64_or_nat _ _ (by omega) (by omega), j2]
      omega
    simp only [Int.natCast_mul, Int.natCast_add, Int.cast_ofNat_Int] at j1
    have ew : IntKind.u64.wrap (k : Int) = k := by rw [IntKind.wrap_u64]; omega
    have ew2 : IntKind.u64.wrap ((k : Int) * 8388608) = k * 8388608 := by rw [IntKind.wrap_u64]; omega
    have ew3 : IntKind.u64.wrap (fr : Int) = fr := by rw [IntKind.wrap_u64]; omega
    have f0 : (0 : Int) ≤ k := by omega
    have f1 : (0 : Int) ≤ fr := by omega
    clear hv hlo hhi c1 c2 c4 hb j2 c3
    cases neg
    · have j3 : (k : Int) * 8388608 + fr = (bitsOfS false k fr : Int) := by
        unfold bitsOfS; simp
      have J3 := Lib.hid j3; clear j3
      go_enter Tryd.func87, Tryd.ntmps87
      go_wp2_with fail
      refine (hidden_S _).mono ?_; rintro e1 w1 ⟨rfl, hb1⟩
      have hc1 := hb1.cells; have hz1 : w.heap.size < w1.heap.size := by have := hb1.sizes; simp at this; omega
      go_wp2_with fail
      rw [J3.out, show ((bitsOfS false k fr : Nat) : Int) % 4294967296 = (bitsOfS false k fr : Nat) by have := hlt.out; omega]
      refine (canon_S _ hlt.out _).mono ?_; rintro e2 w2 ⟨rfl, hb2⟩
      go_wp2
      go_ret2
      exact ⟨rfl, (by repeat (first | exact Within.refl _ | assumption | refine Within.alloc ?_ _ | refine Within.drew ?_ | refine Within.trans ?_ (by assumption)))⟩
    · have j3 : (k : Int) * 8388608 + fr + 2147483648 = (bitsOfS true k fr : Int) := by
        unfold bitsOfS; simp
      have J3 := Lib.hid j3; clear j3
      go_enter Tryd.func87, Tryd.ntmps87
      go_wp2_with fail
      refine (hidden_S _).mono ?_; rintro e1 w1 ⟨rfl, hb1⟩
      have hc1 := hb1.cells; have hz1 : w.heap.size < w1.heap.size := by have := hb1.sizes; simp at this; omega
      go_wp2_with fail
      refine (sign_S _).mono ?_; rintro e2 w2 ⟨rfl, hb2⟩
      have hc2 := hb2.cells; have hz2 : w.heap.size < w2.heap.size := by have := hb2.sizes; omega
      go_wp2_with fail
      rw [J3.out, show ((bitsOfS true k fr : Nat) : Int) % 4294967296 = (bitsOfS true k fr : Nat) by have := hlt.out; omega]
      refine (canon_S _ hlt.out _).mono ?_; rintro e3 w3 ⟨rfl, hb3⟩
      go_wp2
      go_ret2
      exact ⟨rfl, (by repeat (first | exact Within.refl _ | assumption | refine Within.alloc ?_ _ | refine Within.drew ?_ | refine Within.trans ?_ (by assumption)))⟩


set_option maxHeartbeats 400000 in
theorem next_D (b : Nat) (hb : b < 18446744073709551616) (w : World) : Calls Tryd.prog 102 #[.int .u64 b, dbl] w fun e w' => e = .returned (.int .u64 (nextD b)) ∧ Within w w' := by
  have H0 := Lib.hid hb; clear hb
  have HL := Lib.hid (canonD_lt H0.out)
  have ew : IntKind.u64.wrap (canonD b : Int) = canonD b := by have := HL.out; rw [IntKind.wrap_u64]; omega
  have e1 := u64_unsign (canonD b) HL.out
  have e2 := u64_sign (canonD b) HL.out
  generalize hn : (nextD b : Int) = r
  unfold nextD at hn
  by_cases c1 : canonD b = 9221120237041090561
  · have t1 : ((canonD b : Int) == 9221120237041090561) = true := beq_iff_eq.2 (by omega)
    rw [if_pos (.inl c1)] at hn; subst hn
    clear c1
    go_enter Tryd.func102, Tryd.ntmps102
    go_wp2_with fail
    refine (canon_D _ H0.out _).mono ?_; rintro e1 w1 ⟨rfl, hb1⟩
    have hc1 := hb1.cells; have hz1 : w.heap.size < w1.heap.size := by have := hb1.sizes; simp at this; omega
    go_wp2_with fail
    refine (none_D _).mono ?_; rintro e2 w2 ⟨rfl, hb2⟩
    have hc2 := hb2.cells; have hz2 : w.heap.size < w2.heap.size := by have := hb2.sizes; omega
    go_wp2
    go_ret
    exact ⟨ret_int (by have := HL.out; first | rfl | omega), (by repeat (first | exact Within.refl _ | assumption | refine Within.alloc ?_ _ | refine Within.drew ?_ | refine Within.trans ?_ (by assumption)))⟩
  have t1 : ((canonD b : Int) == 9221120237041090561) = false := beq_eq_false_iff_ne.2 (by omega)
  by_cases c2 : canonD b = 9218868437227405312
  · have t2 : ((canonD b : Int) == 9218868437227405312) = true := beq_iff_eq.2 (by omega)
    rw [if_pos (.inr c2)] at hn; subst hn
    clear c1 c2
    go_enter Tryd.func102, Tryd.ntmps102
    go_wp2_with fail
    refine (canon_D _ H0.out _).mono ?_; rintro e1 w1 ⟨rfl, hb1⟩
    have hc1 := hb1.cells; have hz1 : w.heap.size < w1.heap.size := by have := hb1.sizes; simp at this; omega
    go_wp2_with fail
    refine (none_D _).mono ?_; rintro e2 w2 ⟨rfl, hb2⟩
    have hc2 := hb2.cells; have hz2 : w.heap.size < w2.heap.size := by have := hb2.sizes; omega
    go_wp2_with fail
    refine (infinite_D _).mono ?_; rintro e3 w3 ⟨rfl, hb3⟩
    have hc3 := hb3.cells; have hz3 : w.heap.size < w3.heap.size := by have := hb3.sizes; omega
    go_wp2
    go_ret
    exact ⟨ret_int (by have := HL.out; first | rfl | omega), (by repeat (first | exact Within.refl _ | assumption | refine Within.alloc ?_ _ | refine Within.drew ?_ | refine Within.trans ?_ (by assumption)))⟩
  have t2 : ((canonD b : Int) == 9218868437227405312) = false := beq_eq_false_iff_ne.2 (by omega)
  rw [if_neg (by omega)] at hn
  by_cases c3 : canonD b % 9223372036854775808 = 0
  · have t3 : ((canonD b : Int) % 9223372036854775808 == 0) = true := beq_iff_eq.2 (by omega)
    rw [if_pos c3] at hn; subst hn
    clear c1 c2 c3
    go_enter Tryd.func102, Tryd.ntmps102
    go_wp2_with fail
    refine (canon_D _ H0.out _).mono ?_; rintro e1 w1 ⟨rfl, hb1⟩
    have hc1 := hb1.cells; have hz1 : w.heap.size < w1.heap.size := by have := hb1.sizes; simp at this; omega
    go_wp2_with fail
    refine (none_D _).mono ?_; rintro e2 w2 ⟨rfl, hb2⟩
    have hc2 := hb2.cells; have hz2 : w.heap.size < w2.heap.size := by have := hb2.sizes; omega
    go_wp2_with fail
    refine (infinite_D _).mono ?_; rintro e3 w3 ⟨rfl, hb3⟩
    have hc3 := hb3.cells; have hz3 : w.heap.size < w3.heap.size := by have := hb3.sizes; omega
    go_wp2_with fail
    refine (sign_D _).mono ?_; rintro e4 w4 ⟨rfl, hb4⟩
    have hc4 := hb4.cells; have hz4 : w.heap.size < w4.heap.size := by have := hb4.sizes; omega
    go_wp2
    go_ret
    exact ⟨rfl, (by repeat (first | exact Within.refl _ | assumption | refine Within.alloc ?_ _ | refine Within.drew ?_ | refine Within.trans ?_ (by assumption)))⟩
  have t3 : ((canonD b : Int) % 9223372036854775808 == 0) = false := beq_eq_false_iff_ne.2 (by omega)
  rw [if_neg c3] at hn
  by_cases c4 : 9223372036854775808 ≤ canonD b
  · have t4 : ((canonD b : Int) / 9223372036854775808 * 9223372036854775808 != 0) = true := by rw [bne_iff_ne]; omega
    rw [if_pos c4] at hn; subst hn
    have C := Lib.hid c4
    clear c1 c2 c3 c4
    go_enter Tryd.func102, Tryd.ntmps102
    go_wp2_with fail
    refine (canon_D _ H0.out _).mono ?_; rintro e1 w1 ⟨rfl, hb1⟩
    have hc1 := hb1.cells; have hz1 : w.heap.size < w1.heap.size := by have := hb1.sizes; simp at this; omega
    go_wp2_with fail
    refine (none_D _).mono ?_; rintro e2 w2 ⟨rfl, hb2⟩
    have hc2 := hb2.cells; have hz2 : w.heap.size < w2.heap.size := by have := hb2.sizes; omega
    go_wp2_with fail
    refine (infinite_D _).mono ?_; rintro e3 w3 ⟨rfl, hb3⟩
    have hc3 := hb3.cells; have hz3 : w.heap.size < w3.heap.size := by have := hb3.sizes; omega
    go_wp2_with fail
    refine (sign_D _).mono ?_; rintro e4 w4 ⟨rfl, hb4⟩
    have hc4 := hb4.cells; have hz4 : w.heap.size < w4.heap.size := by have := hb4.sizes; omega
    go_wp2_with fail
    refine (sign_D _).mono ?_; rintro e5 w5 ⟨rfl, hb5⟩
    have hc5 := hb5.cells; have hz5 : w.heap.size < w5.heap.size := by have := hb5.sizes; omega
    go_wp2
    go_ret
    exact ⟨ret_int (by have := HL.out; have := C.out; first | omega | (simp only [IntKind.wrap_u64]; omega)), (by repeat (first | exact Within.refl _ | assumption | refine Within.alloc ?_ _ | refine Within.drew ?_ | refine Within.trans ?_ (by assumption)))⟩
  · have t4 : ((canonD b : Int) / 9223372036854775808 * 9223372036854775808 != 0) = false := by have := HL.out; rw [bne_eq_false_iff_eq]; omega
    rw [if_neg c4] at hn; subst hn
    have C := Lib.hid c4
    clear c1 c2 c3 c4
    go_enter Tryd.func102, Tryd.ntmps102
    go_wp2_with fail
    refine (canon_D _ H0.out _).mono ?_; rintro e1 w1 ⟨rfl, hb1⟩
    have hc1 := hb1.cells; have hz1 : w.heap.size < w1.heap.size := by have := hb1.sizes; simp at this; omega
    go_wp2_with fail
    refine (none_D _).mono ?_; rintro e2 w2 ⟨rfl, hb2⟩
    have hc2 := hb2.cells; have hz2 : w.heap.size < w2.heap.size := by have := hb2.sizes; omega
    go_wp2_with fail
    refine (infinite_D _).mono ?_; rintro e3 w3 ⟨rfl, hb3⟩
    have hc3 := hb3.cells; have hz3 : w.heap.size < w3.heap.size := by have := hb3.sizes; omega
    go_wp2_with fail
    refine (sign_D _).mono ?_; rintro e4 w4 ⟨rfl, hb4⟩
    have hc4 := hb4.cells; have hz4 : w.heap.size < w4.heap.size := by have := hb4.sizes; omega
    go_wp2_with fail
    refine (sign_D _).mono ?_; rintro e5 w5 ⟨rfl, hb5⟩
    have hc5 := hb5.cells; have hz5 : w.heap.size < w5.heap.size := by have := hb5.sizes; omega
    go_wp2
    go_ret
    exact ⟨ret_int (by have := HL.out; have := C.out; first | omega | (simp only [IntKind.wrap_u64]; omega)), (by repeat (first | exact Within.refl _ | assumption | refine Within.alloc ?_ _ | refine Within.drew ?_ | refine Within.trans ?_ (by assumption)))⟩


set_option maxHeartbeats 400000 in
theorem next_S (b : Nat) (hb : b < 4294967296) (w : World) : Calls Tryd.prog 106 #[.int .u32 b, sgl] w fun e w' => e = .returned (.int .u32 (nextS b)) ∧ Within w w' := by
  have H0 := Lib.hid hb; clear hb
  have HL := Lib.hid (canonS_lt H0.out)
  have ew : IntKind.u64.wrap (canonS b : Int) = canonS b := by have := HL.out; rw [IntKind.wrap_u64]; omega
  have e1 := u64_unsign32 (canonS b) HL.out
  have e2 := u64_sign32 (canonS b) HL.out
  generalize hn : (nextS b : Int) = r
  unfold nextS at hn
  by_cases c1 : canonS b = 2143289344
  · have t1 : ((canonS b : Int) == 2143289344) = true := beq_iff_eq.2 (by omega)
    rw [if_pos (.inl c1)] at hn; subst hn
    clear c1
    go_enter Tryd.func106, Tryd.ntmps106
    go_wp2_with fail
    refine (canon_S _ H0.out _).mono ?_; rintro e1 w1 ⟨rfl, hb1⟩
    have hc1 := hb1.cells; have hz1 : w.heap.size < w1.heap.size := by have := hb1.sizes; simp at this; omega
    go_wp2_with fail
    refine (none_S _).mono ?_; rintro e2 w2 ⟨rfl, hb2⟩
    have hc2 := hb2.cells; have hz2 : w.heap.size < w2.heap.size := by have := hb2.sizes; omega
    go_wp2
    go_ret
    exact ⟨ret_int (by have := HL.out; first | rfl | omega), (by repeat (first | exact Within.refl _ | assumption | refine Within.alloc ?_ _ | refine Within.drew ?_ | refine Within.trans ?_ (by assumption)))⟩
  have t1 : ((canonS b : Int) == 2143289344) = false := beq_eq_false_iff_ne.2 (by omega)
  by_cases c2 : canonS b = 2139095040
  · have t2 : ((canonS b : Int) == 2139095040) = true := beq_iff_eq.2 (by omega)
    rw [if_pos (.inr c2)] at hn; subst hn
    clear c1 c2
    go_enter Tryd.func106, Tryd.ntmps106
    go_wp2_with fail
    refine (canon_S _ H0.out _).mono ?_; rintro e1 w1 ⟨rfl, hb1⟩
    have hc1 := hb1.cells; have hz1 : w.heap.size < w1.heap.size := by have := hb1.sizes; simp at this; omega
    go_wp2_with fail
    refine (none_S _).mono ?_; rintro e2 w2 ⟨rfl, hb2⟩
    have hc2 := hb2.cells; have hz2 : w.heap.size < w2.heap.size := by have := hb2.sizes; omega
    go_wp2_with fail
    refine (infinite_S _).mono ?_; rintro e3 w3 ⟨rfl, hb3⟩
    have hc3 := hb3.cells; have hz3 : w.heap.size < w3.heap.size := by have := hb3.sizes; omega
    go_wp2
    go_ret
    exact ⟨ret_int (by have := HL.out; first | rfl | omega), (by repeat (first | exact Within.refl _ | assumption | refine Within.alloc ?_ _ | refine Within.drew ?_ | refine Within.trans ?_ (by assumption)))⟩
  have t2 : ((canonS b : Int) == 2139095040) = false := beq_eq_false_iff_ne.2 (by omega)
  rw [if_neg (by omega)] at hn
  by_cases c3 : canonS b % 2147483648 = 0
  · have t3 : ((canonS b : Int) % 2147483648 == 0) = true := beq_iff_eq.2 (by omega)
    rw [if_pos c3] at hn; subst hn
    clear c1 c2 c3
    go_enter Tryd.func106, Tryd.ntmps106
    go_wp2_with fail
    refine (canon_S _ H0.out _).mono ?_; rintro e1 w1 ⟨rfl, hb1⟩
    have hc1 := hb1.cells; have hz1 : w.heap.size < w1.heap.size := by have := hb1.sizes; simp at this; omega
    go_wp2_with fail
    refine (none_S _).mono ?_; rintro e2 w2 ⟨rfl, hb2⟩
    have hc2 := hb2.cells; have hz2 : w.heap.size < w2.heap.size := by have := hb2.sizes; omega
    go_wp2_with fail
    refine (infinite_S _).mono ?_; rintro e3 w3 ⟨rfl, hb3⟩
    have hc3 := hb3.cells; have hz3 : w.heap.size < w3.heap.size := by have := hb3.sizes; omega
    go_wp2_with fail
    refine (sign_S _).mono ?_; rintro e4 w4 ⟨rfl, hb4⟩
    have hc4 := hb4.cells; have hz4 : w.heap.size < w4.heap.size := by have := hb4.sizes; omega
    go_wp2
    go_ret
    exact ⟨rfl, (by repeat (first | exact Within.refl _ | assumption | refine Within.alloc ?_ _ | refine Within.drew ?_ | refine Within.trans ?_ (by assumption)))⟩
  have t3 : ((canonS b : Int) % 2147483648 == 0) = false := beq_eq_false_iff_ne.2 (by omega)
  rw [if_neg c3] at hn
  by_cases c4 : 2147483648 ≤ canonS b
  · have t4 : ((canonS b : Int) / 2147483648 * 2147483648 != 0) = true := by rw [bne_iff_ne]; omega
    rw [if_pos c4] at hn; subst hn
    have C := Lib.hid c4
    clear c1 c2 c3 c4
    go_enter Tryd.func106, Tryd.ntmps106
    go_wp2_with fail
    refine (canon_S _ H0.out _).mono ?_; rintro e1 w1 ⟨rfl, hb1⟩
    have hc1 := hb1.cells; have hz1 : w.heap.size < w1.heap.size := by have := hb1.sizes; simp at this; omega
    go_wp2_with fail
    refine (none_S _).mono ?_; rintro e2 w2 ⟨rfl, hb2⟩
    have hc2 := hb2.cells; have hz2 : w.heap.size < w2.heap.size := by have := hb2.sizes; omega
    go_wp2_with fail
    refine (infinite_S _).mono ?_; rintro e3 w3 ⟨rfl, hb3⟩
    have hc3 := hb3.cells; have hz3 : w.heap.size < w3.heap.size := by have := hb3.sizes; omega
    go_wp2_with fail
    refine (sign_S _).mono ?_; rintro e4 w4 ⟨rfl, hb4⟩
    have hc4 := hb4.cells; have hz4 : w.heap.size < w4.heap.size := by have := hb4.sizes; omega
    go_wp2_with fail
    refine (sign_S _).mono ?_; rintro e5 w5 ⟨rfl, hb5⟩
    have hc5 := hb5.cells; have hz5 : w.heap.size < w5.heap.size := by have := hb5.sizes; omega
    go_wp2
    go_ret
    exact ⟨ret_int (by have := HL.out; have := C.out; first | omega | (simp only [IntKind.wrap_u64]; omega)), (by repeat (first | exact Within.refl _ | assumption | refine Within.alloc ?_ _ | refine Within.drew ?_ | refine Within.trans ?_ (by assumption)))⟩
  · have t4 : ((canonS b : Int) / 2147483648 * 2147483648 != 0) = false := by have := HL.out; rw [bne_eq_false_iff_eq]; omega
    rw [if_neg c4] at hn; subst hn
    have C := Lib.hid c4
    clear c1 c2 c3 c4
    go_enter Tryd.func106, Tryd.ntmps106
    go_wp2_with fail
    refine (canon_S _ H0.out _).mono ?_; rintro e1 w1 ⟨rfl, hb1⟩
    have hc1 := hb1.cells; have hz1 : w.heap.size < w1.heap.size := by have := hb1.sizes; simp at this; omega
    go_wp2_with fail
    refine (none_S _).mono ?_; rintro e2 w2 ⟨rfl, hb2⟩
    have hc2 := hb2.cells; have hz2 : w.heap.size < w2.heap.size := by have := hb2.sizes; omega
    go_wp2_with fail
    refine (infinite_S _).mono ?_; rintro e3 w3 ⟨rfl, hb3⟩
    have hc3 := hb3.cells; have hz3 : w.heap.size < w3.heap.size := by have := hb3.sizes; omega
    go_wp2_with fail
    refine (sign_S _).mono ?_; rintro e4 w4 ⟨rfl, hb4⟩
    have hc4 := hb4.cells; have hz4 : w.heap.size < w4.heap.size := by have := hb4.sizes; omega
    go_wp2_with fail
    refine (sign_S _).mono ?_; rintro e5 w5 ⟨rfl, hb5⟩
    have hc5 := hb5.cells; have hz5 : w.heap.size < w5.heap.size := by have := hb5.sizes; omega
    go_wp2
    go_ret
    exact ⟨ret_int (by have := HL.out; have := C.out; first | omega | (simp only [IntKind.wrap_u64]; omega)), (by repeat (first | exact Within.refl _ | assumption | refine Within.alloc ?_ _ | refine Within.drew ?_ | refine Within.trans ?_ (by assumption)))⟩


set_option maxHeartbeats 400000 in
theorem prev_D (b : Nat) (hb : b < 18446744073709551616) (w : World) : Calls Tryd.prog 103 #[.int .u64 b, dbl] w fun e w' => e = .returned (.int .u64 (prevD b)) ∧ Within w w' := by
  have H0 := Lib.hid hb
  have HL := Lib.hid (canonD_lt hb)
  have HT := Lib.hid (turnD_lt b)
  have HN := Lib.hid (nextD_lt (turnD_lt b))
  have HP := Lib.hid (turnD_lt (nextD (turnD b)))
  clear hb
  have ew : IntKind.u64.wrap (b : Int) = b := by have := H0.out; rw [IntKind.wrap_u64]; omega
  have ew2 : IntKind.u64.wrap (nextD (turnD b) : Int) = nextD (turnD b) := by have := HN.out; rw [IntKind.wrap_u64]; omega
  have ew3 : IntKind.u32.wrap (turnD b : Int) = turnD b % 4294967296 := by rw [IntKind.wrap_u32]
  have ew4 : IntKind.u32.wrap (turnD (nextD (turnD b)) : Int) = turnD (nextD (turnD b)) % 4294967296 := by rw [IntKind.wrap_u32]
  have e1 : bits .xor .u64 (b : Int) 9223372036854775808 = (turnD b : Int) := u64_xsign b H0.out
  have e2 : bits .xor .u64 (nextD (turnD b) : Int) 9223372036854775808 = (turnD (nextD (turnD b)) : Int) := u64_xsign _ HN.out
  generalize hn : (prevD b : Int) = r
  unfold prevD at hn
  by_cases c1 : nanD b = true
  · rw [if_pos c1] at hn; subst hn
    go_enter Tryd.func103, Tryd.ntmps103
    go_wp2_with fail
    refine (nan_D b H0.out _).mono ?_; rintro e1 w1 ⟨rfl, hb1⟩
    have hc1 := hb1.cells; have hz1 : w.heap.size < w1.heap.size := by have := hb1.sizes; simp at this; omega
    go_wp2_with fail
    refine (canon_D b H0.out _).mono ?_; rintro e2 w2 ⟨rfl, hb2⟩
    go_wp2
    go_ret
    exact ⟨rfl, (by repeat (first | exact Within.refl _ | assumption | refine Within.alloc ?_ _ | refine Within.drew ?_ | refine Within.trans ?_ (by assumption)))⟩
  · have c2 : nanD b = false := by simpa using c1
    rw [if_neg c1] at hn; subst hn
    clear c1
    go_enter Tryd.func103, Tryd.ntmps103
    go_wp2_with fail
    refine (nan_D b H0.out _).mono ?_; rintro e1 w1 ⟨rfl, hb1⟩
    have hc1 := hb1.cells; have hz1 : w.heap.size < w1.heap.size := by have := hb1.sizes; simp at this; omega
    go_wp2
    refine wp_region_within (by kernel_rfl) (by kernel_rfl) ?_
    repeat
      apply wpq_step rfl
      · intro wq hCq
        have hcq := hCq.cells
        go_simp
        first | rfl | exact hCq.call (sign_D _) | exact hCq.call (next_D _ HT.out _) | (trace_state; fail)
      simp only [Act.put, List.setIfInBounds_toArray, List.set_cons_zero, List.set_cons_succ]
    refine wpQuiet_nil ?_
    intro w2 hC2
    go_wp2
    go_ret
    exact ⟨rfl, (by repeat (first | exact Within.refl _ | assumption | refine Within.alloc ?_ _ | refine Within.drew ?_ | refine Within.trans ?_ (by assumption)))⟩


set_option maxHeartbeats 400000 in
theorem prev_S (b : Nat) (hb : b < 4294967296) (w : World) : Calls Tryd.prog 107 #[.int .u32 b, sgl] w fun e w' => e = .returned (.int .u32 (prevS b)) ∧ Within w w' := by
  have H0 := Lib.hid hb
  have HL := Lib.hid (canonS_lt hb)
  have HT := Lib.hid (turnS_lt b)
  have HN := Lib.hid (nextS_lt (turnS_lt b))
  have HP := Lib.hid (turnS_lt (nextS (turnS b)))
  clear hb
  have ew : IntKind.u64.wrap (b : Int) = b := by have := H0.out; rw [IntKind.wrap_u64]; omega
  have ew2 : IntKind.u64.wrap (nextS (turnS b) : Int) = nextS (turnS b) := by have := HN.out; rw [IntKind.wrap_u64]; omega
  have ew3 : IntKind.u32.wrap (turnS b : Int) = turnS b % 4294967296 := by rw [IntKind.wrap_u32]
  have ew4 : IntKind.u32.wrap (turnS (nextS (turnS b)) : Int) = turnS (nextS (turnS b)) % 4294967296 := by rw [IntKind.wrap_u32]
  have e1 : bits .xor .u64 (b : Int) 2147483648 = (turnS b : Int) := u64_xsign32 b H0.out
  have e2 : bits .xor .u64 (nextS (turnS b) : Int) 2147483648 = (turnS (nextS (turnS b)) : Int) := u64_xsign32 _ HN.out
  have x1 : (turnS b : Int) % 4294967296 = turnS b := by have := HT.out; omega
  have x2 : (turnS (nextS (turnS b)) : Int) % 4294967296 = turnS (nextS (turnS b)) := by have := HP.out; omega
  rw [x1] at ew3; rw [x2] at ew4; clear x1 x2
  generalize hn : (prevS b : Int) = r
  unfold prevS at hn
  by_cases c1 : nanS b = true
  · rw [if_pos c1] at hn; subst hn
    go_enter Tryd.func107, Tryd.ntmps107
    go_wp2_with fail
    refine (nan_S b H0.out _).mono ?_; rintro e1 w1 ⟨rfl, hb1⟩
    have hc1 := hb1.cells; have hz1 : w.heap.size < w1.heap.size := by have := hb1.sizes; simp at this; omega
    go_wp2_with fail
    refine (canon_S b H0.out _).mono ?_; rintro e2 w2 ⟨rfl, hb2⟩
    go_wp2
    go_ret
    exact ⟨rfl, (by repeat (first | exact Within.refl _ | assumption | refine Within.alloc ?_ _ | refine Within.drew ?_ | refine Within.trans ?_ (by assumption)))⟩
  · have c2 : nanS b = false := by simpa using c1
    rw [if_neg c1] at hn; subst hn
    clear c1
    go_enter Tryd.func107, Tryd.ntmps107
    go_wp2_with fail
    refine (nan_S b H0.out _).mono ?_; rintro e1 w1 ⟨rfl, hb1⟩
    have hc1 := hb1.cells; have hz1 : w.heap.size < w1.heap.size := by have := hb1.sizes; simp at this; omega
    go_wp2
    refine wp_region_within (by kernel_rfl) (by kernel_rfl) ?_
    repeat
      apply wpq_step rfl
      · intro wq hCq
        have hcq := hCq.cells
        go_simp
        first | rfl | exact hCq.call (sign_S _) | exact hCq.call (next_S _ HT.out _) | (trace_state; fail)
      simp only [Act.put, List.setIfInBounds_toArray, List.set_cons_zero, List.set_cons_succ]
    refine wpQuiet_nil ?_
    intro w2 hC2
    go_wp2
    go_ret
    exact ⟨rfl, (by repeat (first | exact Within.refl _ | assumption | refine Within.alloc ?_ _ | refine Within.drew ?_ | refine Within.trans ?_ (by assumption)))⟩


end Go.Proofs.YthjaponkbodooaaDoor
