/- fields joined, lists of finite numbers: walks. -/
import Derived.Test.YthjaponkbodooaaDoorRef2
namespace Go.Proofs.YthjaponkbodooaaDoor
open Go.RowKit

set_option maxRecDepth 100000 in
set_option maxHeartbeats 600000 in
theorem RjoinNeg_D (neg : Bool) (e : Int) (fr : Nat) (h : e < 0) (w : World) : Calls Tryd.prog 38 #[.bool neg, .int .i64 e, .int .u64 fr] w fun e' w' => e' = .returned (.tuple #[.float .f64 0, .int .i64 1]) ∧ w = w' := by
  have d1 : decide (e < 0) = true := decide_eq_true h
  clear h
  go_enter Tryd.func38, Tryd.ntmps38
  go_wp2
  go_ret2
  exact ⟨rfl, rfl⟩

set_option maxRecDepth 100000 in
set_option maxHeartbeats 600000 in
theorem RjoinHigh_D (neg : Bool) (e : Int) (fr : Nat) (h0 : ¬ e < 0) (h : 2047 < e) (w : World) : Calls Tryd.prog 38 #[.bool neg, .int .i64 e, .int .u64 fr] w fun e' w' => e' = .returned (.tuple #[.float .f64 0, .int .i64 1]) ∧ w = w' := by
  have d1 : decide (e < 0) = false := decide_eq_false h0
  have d2 : True → decide (e > 2047) = true := fun _ => decide_eq_true (by omega)
  clear h h0
  go_enter Tryd.func38, Tryd.ntmps38
  go_wp2
  go_ret2
  exact ⟨rfl, rfl⟩

set_option maxRecDepth 100000 in
set_option maxHeartbeats 600000 in
theorem RjoinFrac_D (neg : Bool) (e : Int) (fr : Nat) (h0 : ¬ e < 0) (h : ¬ 2047 < e) (hf : 4503599627370496 ≤ fr) (w : World) : Calls Tryd.prog 38 #[.bool neg, .int .i64 e, .int .u64 fr] w fun e' w' => e' = .returned (.tuple #[.float .f64 0, .int .i64 1]) ∧ w = w' := by
  have d1 : decide (e < 0) = false := decide_eq_false h0
  have d2 : True → decide (e > 2047) = false := fun _ => decide_eq_false (by omega)
  have d3 : True → decide ((fr : Int) ≥ 4503599627370496) = true := fun _ => decide_eq_true (by omega)
  have d4 : True → 4503599627370496 ≤ fr := fun _ => hf
  clear h h0 hf
  go_enter Tryd.func38, Tryd.ntmps38
  go_wp2
  go_ret2
  exact ⟨rfl, rfl⟩

set_option maxRecDepth 100000 in
set_option maxHeartbeats 600000 in
theorem RjoinGood_D (neg : Bool) (q fr : Nat) (hq : q ≤ 2047) (hf : fr < 4503599627370496) (w : World) : Calls Tryd.prog 38 #[.bool neg, .int .i64 q, .int .u64 fr] w fun e' w' => e' = .returned (.tuple #[.float .f64 (canonD (bitsOfD neg q fr)), .int .i64 0]) ∧ w = w' := by
  have d1 : decide ((q : Int) < 0) = false := decide_eq_false (by omega)
  have d2 : True → decide ((q : Int) > 2047) = false := fun _ => decide_eq_false (by omega)
  have d3 : True → decide ((fr : Int) ≥ 4503599627370496) = false := fun _ => decide_eq_false (by omega)
  have d4 : True → ¬ 4503599627370496 ≤ fr := fun _ => by omega
  have g1 : IntKind.u64.wrap (q : Int) = q := by rw [IntKind.wrap_u64]; omega
  have HQ := Lib.hid (And.intro hq hf)
  clear hq hf
  cases neg
  · go_enter Tryd.func38, Tryd.ntmps38
    go_wp2_with fail
    refine (Rcanon_D _ _).mono ?_; rintro e1 w1 ⟨rfl, rfl⟩
    go_wp2
    go_ret2
    refine ⟨ret2 (v_float (congrArg canonD ?_)) rfl, rfl⟩
    have := HQ.out
    unfold bitsOfD; (repeat rw [IntKind.wrap_u64]); (first | rw [if_pos rfl] | rw [if_neg (by decide)]); omega
  · go_enter Tryd.func38, Tryd.ntmps38
    go_wp2_with fail
    refine (Rcanon_D _ _).mono ?_; rintro e1 w1 ⟨rfl, rfl⟩
    go_wp2
    go_ret2
    refine ⟨ret2 (v_float (congrArg canonD ?_)) rfl, rfl⟩
    have := HQ.out
    unfold bitsOfD; (repeat rw [IntKind.wrap_u64]); (first | rw [if_pos rfl] | rw [if_neg (by decide)]); omega

theorem Rjoin_D (neg : Bool) (e : Int) (fr : Nat) (w : World) : Calls Tryd.prog 38 #[.bool neg, .int .i64 e, .int .u64 fr] w fun e' w' => e' = .returned (.tuple #[.float .f64 (joinD neg e fr), .int .i64 (joinED e fr)]) ∧ w = w' := by
  unfold joinD joinED
  by_cases h1 : e < 0
  · rw [if_pos (.inl h1), if_pos (.inl h1)]; exact RjoinNeg_D neg e fr h1 w
  by_cases h2 : 2047 < e
  · rw [if_pos (.inr (.inl h2)), if_pos (.inr (.inl h2))]; exact RjoinHigh_D neg e fr h1 h2 w
  by_cases h3 : 4503599627370496 ≤ fr
  · rw [if_pos (.inr (.inr h3)), if_pos (.inr (.inr h3))]; exact RjoinFrac_D neg e fr h1 h2 h3 w
  have h : ¬ (e < 0 ∨ 2047 < e ∨ 4503599627370496 ≤ fr) := by omega
  rw [if_neg h, if_neg h]
  obtain ⟨q, rfl⟩ : ∃ q : Nat, e = q := ⟨e.toNat, by omega⟩
  exact RjoinGood_D neg q fr (by omega) (by omega) w

set_option maxRecDepth 100000 in
set_option maxHeartbeats 600000 in
theorem RjoinNeg_S (neg : Bool) (e : Int) (fr : Nat) (h : e < 0) (w : World) : Calls Tryd.prog 29 #[.bool neg, .int .i64 e, .int .u32 fr] w fun e' w' => e' = .returned (.tuple #[.float .f32 0, .int .i64 1]) ∧ w = w' := by
  have d1 : decide (e < 0) = true := decide_eq_true h
  clear h
  go_enter Tryd.func29, Tryd.ntmps29
  go_wp2
  go_ret2
  exact ⟨rfl, rfl⟩

set_option maxRecDepth 100000 in
set_option maxHeartbeats 600000 in
theorem RjoinHigh_S (neg : Bool) (e : Int) (fr : Nat) (h0 : ¬ e < 0) (h : 255 < e) (w : World) : Calls Tryd.prog 29 #[.bool neg, .int .i64 e, .int .u32 fr] w fun e' w' => e' = .returned (.tuple #[.float .f32 0, .int .i64 1]) ∧ w = w' := by
  have d1 : decide (e < 0) = false := decide_eq_false h0
  have d2 : True → decide (e > 255) = true := fun _ => decide_eq_true (by omega)
  clear h h0
  go_enter Tryd.func29, Tryd.ntmps29
  go_wp2
  go_ret2
  exact ⟨rfl, rfl⟩

set_option maxRecDepth 100000 in
set_option maxHeartbeats 600000 in
theorem RjoinFrac_S (neg : Bool) (e : Int) (fr : Nat) (h0 : ¬ e < 0) (h : ¬ 255 < e) (hf : 8388608 ≤ fr) (w : World) : Calls Tryd.prog 29 #[.bool neg, .int .i64 e, .int .u32 fr] w fun e' w' => e' = .returned (.tuple #[.float .f32 0, .int .i64 1]) ∧ w = w' := by
  have d1 : decide (e < 0) = false := decide_eq_false h0
  have d2 : True → decide (e > 255) = false := fun _ => decide_eq_false (by omega)
  have d3 : True → decide ((fr : Int) ≥ 8388608) = true := fun _ => decide_eq_true (by omega)
  have d4 : True → 8388608 ≤ fr := fun _ => hf
  clear h h0 hf
  go_enter Tryd.func29, Tryd.ntmps29
  go_wp2
  go_ret2
  exact ⟨rfl, rfl⟩

set_option maxRecDepth 100000 in
set_option maxHeartbeats 600000 in
theorem RjoinGood_S (neg : Bool) (q fr : Nat) (hq : q ≤ 255) (hf : fr < 8388608) (w : World) : Calls Tryd.prog 29 #[.bool neg, .int .i64 q, .int .u32 fr] w fun e' w' => e' = .returned (.tuple #[.float .f32 (canonS (bitsOfS neg q fr)), .int .i64 0]) ∧ w = w' := by
  have d1 : decide ((q : Int) < 0) = false := decide_eq_false (by omega)
  have d2 : True → decide ((q : Int) > 255) = false := fun _ => decide_eq_false (by omega)
  have d3 : True → decide ((fr : Int) ≥ 8388608) = false := fun _ => decide_eq_false (by omega)
  have d4 : True → ¬ 8388608 ≤ fr := fun _ => by omega
  have g1 : IntKind.u32.wrap (q : Int) = q := by rw [IntKind.wrap_u32]; omega
  have HQ := Lib.hid (And.intro hq hf)
  clear hq hf
  cases neg
  · go_enter Tryd.func29, Tryd.ntmps29
    go_wp2_with fail
    refine (Rcanon_S _ _).mono ?_; rintro e1 w1 ⟨rfl, rfl⟩
    go_wp2
    go_ret2
    refine ⟨ret2 (v_float (congrArg canonS ?_)) rfl, rfl⟩
    have := HQ.out
    unfold bitsOfS; (repeat rw [IntKind.wrap_u32]); (first | rw [if_pos rfl] | rw [if_neg (by decide)]); omega
  · go_enter Tryd.func29, Tryd.ntmps29
    go_wp2_with fail
    refine (Rcanon_S _ _).mono ?_; rintro e1 w1 ⟨rfl, rfl⟩
    go_wp2
    go_ret2
    refine ⟨ret2 (v_float (congrArg canonS ?_)) rfl, rfl⟩
    have := HQ.out
    unfold bitsOfS; (repeat rw [IntKind.wrap_u32]); (first | rw [if_pos rfl] | rw [if_neg (by decide)]); omega

theorem Rjoin_S (neg : Bool) (e : Int) (fr : Nat) (w : World) : Calls Tryd.prog 29 #[.bool neg, .int .i64 e, .int .u32 fr] w fun e' w' => e' = .returned (.tuple #[.float .f32 (joinS neg e fr), .int .i64 (joinES e fr)]) ∧ w = w' := by
  unfold joinS joinES
  by_cases h1 : e < 0
  · rw [if_pos (.inl h1), if_pos (.inl h1)]; exact RjoinNeg_S neg e fr h1 w
  by_cases h2 : 255 < e
  · rw [if_pos (.inr (.inl h2)), if_pos (.inr (.inl h2))]; exact RjoinHigh_S neg e fr h1 h2 w
  by_cases h3 : 8388608 ≤ fr
  · rw [if_pos (.inr (.inr h3)), if_pos (.inr (.inr h3))]; exact RjoinFrac_S neg e fr h1 h2 h3 w
  have h : ¬ (e < 0 ∨ 255 < e ∨ 8388608 ≤ fr) := by omega
  rw [if_neg h, if_neg h]
  obtain ⟨q, rfl⟩ : ∃ q : Nat, e = q := ⟨e.toNat, by omega⟩
  exact RjoinGood_S neg q fr (by omega) (by omega) w

theorem classD_range (a : Nat) : 1 ≤ classD a ∧ classD a ≤ 5 := by
  unfold classD classOf; split <;> (try split) <;> (try split) <;> (try split) <;> omega

set_option maxRecDepth 100000 in
set_option maxHeartbeats 600000 in
theorem Finite_nil (w : World) : Calls Tryd.prog 44 #[.slice none 0 0] w fun e w' => e = .returned (.bool true) ∧ w = w' := by
  go_enter Tryd.func44, Tryd.ntmps44
  go_wp2
  refine wp_loop_rounds 1 ?_
  rw [rounds_succ]
  go_wp2
  go_ret
  exact ⟨rfl, rfl⟩

set_option maxRecDepth 100000 in
set_option maxHeartbeats 600000 in
theorem RallFinite_nil (w : World) : Calls Tryd.prog 45 #[.slice none 0 0] w fun e w' => e = .returned (.bool true) ∧ w = w' := by
  go_enter Tryd.func45, Tryd.ntmps45
  go_wp2
  refine wp_loop_rounds 1 ?_
  rw [rounds_succ]
  go_wp2
  go_ret
  exact ⟨rfl, rfl⟩

set_option maxRecDepth 100000 in
set_option maxHeartbeats 600000 in
theorem Finite_1x (a b k : Nat) (x y : Int) (w : World) (c0 : w.cell? ⟨k, 0, none⟩ = some (.float .f64 a)) (c1 : w.cell? ⟨k, 1, none⟩ = some (.float .f64 b)) (CA : Hid (∀ w, Calls Tryd.prog 39 #[.float .f64 a] w fun e w' => e = .returned (.int .i64 x) ∧ Within w w')) (CB : Hid (∀ w, Calls Tryd.prog 39 #[.float .f64 b] w fun e w' => e = .returned (.int .i64 y) ∧ Within w w')) (hx : x = 1) (hy : True) : Calls Tryd.prog 44 #[.slice (some ⟨k, 0, none⟩) 2 2] w fun e w' => e = .returned (.bool false) ∧ Within w w' := by
  subst hx
  clear hy CB c1
  go_enter Tryd.func44, Tryd.ntmps44
  go_wp2
  refine wp_loop_rounds 1 ?_
  rw [rounds_succ]
  go_wp2_with fail
  refine (CA.out _).mono ?_; rintro e1 w1 ⟨rfl, hb1⟩
  have hc1 := hb1.cells; have hf1 := hb1.frozens
  go_wp2
  go_ret
  exact ⟨rfl, (by repeat (first | with_reducible exact Within.refl _ | with_reducible assumption | with_reducible refine Within.alloc ?_ _ | with_reducible refine Within.drew ?_ | with_reducible refine Within.setCell ?_ (by first | (simp; done) | (simp; omega)) _ | with_reducible refine Within.trans ?_ (by assumption)))⟩

set_option maxRecDepth 100000 in
set_option maxHeartbeats 600000 in
theorem Finite_2x (a b k : Nat) (x y : Int) (w : World) (c0 : w.cell? ⟨k, 0, none⟩ = some (.float .f64 a)) (c1 : w.cell? ⟨k, 1, none⟩ = some (.float .f64 b)) (CA : Hid (∀ w, Calls Tryd.prog 39 #[.float .f64 a] w fun e w' => e = .returned (.int .i64 x) ∧ Within w w')) (CB : Hid (∀ w, Calls Tryd.prog 39 #[.float .f64 b] w fun e w' => e = .returned (.int .i64 y) ∧ Within w w')) (hx : x = 2) (hy : True) : Calls Tryd.prog 44 #[.slice (some ⟨k, 0, none⟩) 2 2] w fun e w' => e = .returned (.bool false) ∧ Within w w' := by
  subst hx
  clear hy CB c1
  go_enter Tryd.func44, Tryd.ntmps44
  go_wp2
  refine wp_loop_rounds 1 ?_
  rw [rounds_succ]
  go_wp2_with fail
  refine (CA.out _).mono ?_; rintro e1 w1 ⟨rfl, hb1⟩
  have hc1 := hb1.cells; have hf1 := hb1.frozens
  go_wp2
  go_ret
  exact ⟨rfl, (by repeat (first | with_reducible exact Within.refl _ | with_reducible assumption | with_reducible refine Within.alloc ?_ _ | with_reducible refine Within.drew ?_ | with_reducible refine Within.setCell ?_ (by first | (simp; done) | (simp; omega)) _ | with_reducible refine Within.trans ?_ (by assumption)))⟩

set_option maxRecDepth 100000 in
set_option maxHeartbeats 600000 in
theorem Finite_f1 (a b k : Nat) (x y : Int) (w : World) (c0 : w.cell? ⟨k, 0, none⟩ = some (.float .f64 a)) (c1 : w.cell? ⟨k, 1, none⟩ = some (.float .f64 b)) (CA : Hid (∀ w, Calls Tryd.prog 39 #[.float .f64 a] w fun e w' => e = .returned (.int .i64 x) ∧ Within w w')) (CB : Hid (∀ w, Calls Tryd.prog 39 #[.float .f64 b] w fun e w' => e = .returned (.int .i64 y) ∧ Within w w')) (hx : 2 < x) (hy : y = 1) : Calls Tryd.prog 44 #[.slice (some ⟨k, 0, none⟩) 2 2] w fun e w' => e = .returned (.bool false) ∧ Within w w' := by
  have fx1 : (x == 1) = false := beq_eq_false_iff_ne.2 (by omega)
  have fx2 : (x == 2) = false := beq_eq_false_iff_ne.2 (by omega)
  clear hx
  subst hy
  go_enter Tryd.func44, Tryd.ntmps44
  go_wp2
  refine wp_loop_rounds 2 ?_
  rw [rounds_succ]
  go_wp2_with fail
  refine (CA.out _).mono ?_; rintro e1 w1 ⟨rfl, hb1⟩
  have hc1 := hb1.cells; have hf1 := hb1.frozens
  have c1' : w1.cell? ⟨k, 1, none⟩ = some (.float .f64 b) := (hc1 _ _ (World.block_lt_of_cell? w _ c1)).trans c1
  go_wp2
  rw [rounds_succ]
  go_wp2_with fail
  refine (CB.out _).mono ?_; rintro e2 w2 ⟨rfl, hb2⟩
  go_wp2
  go_ret
  exact ⟨rfl, (by repeat (first | with_reducible exact Within.refl _ | with_reducible assumption | with_reducible refine Within.alloc ?_ _ | with_reducible refine Within.drew ?_ | with_reducible refine Within.setCell ?_ (by first | (simp; done) | (simp; omega)) _ | with_reducible refine Within.trans ?_ (by assumption)))⟩

set_option maxRecDepth 100000 in
set_option maxHeartbeats 600000 in
theorem Finite_f2 (a b k : Nat) (x y : Int) (w : World) (c0 : w.cell? ⟨k, 0, none⟩ = some (.float .f64 a)) (c1 : w.cell? ⟨k, 1, none⟩ = some (.float .f64 b)) (CA : Hid (∀ w, Calls Tryd.prog 39 #[.float .f64 a] w fun e w' => e = .returned (.int .i64 x) ∧ Within w w')) (CB : Hid (∀ w, Calls Tryd.prog 39 #[.float .f64 b] w fun e w' => e = .returned (.int .i64 y) ∧ Within w w')) (hx : 2 < x) (hy : y = 2) : Calls Tryd.prog 44 #[.slice (some ⟨k, 0, none⟩) 2 2] w fun e w' => e = .returned (.bool false) ∧ Within w w' := by
  have fx1 : (x == 1) = false := beq_eq_false_iff_ne.2 (by omega)
  have fx2 : (x == 2) = false := beq_eq_false_iff_ne.2 (by omega)
  clear hx
  subst hy
  go_enter Tryd.func44, Tryd.ntmps44
  go_wp2
  refine wp_loop_rounds 2 ?_
  rw [rounds_succ]
  go_wp2_with fail
  refine (CA.out _).mono ?_; rintro e1 w1 ⟨rfl, hb1⟩
  have hc1 := hb1.cells; have hf1 := hb1.frozens
  have c1' : w1.cell? ⟨k, 1, none⟩ = some (.float .f64 b) := (hc1 _ _ (World.block_lt_of_cell? w _ c1)).trans c1
  go_wp2
  rw [rounds_succ]
  go_wp2_with fail
  refine (CB.out _).mono ?_; rintro e2 w2 ⟨rfl, hb2⟩
  go_wp2
  go_ret
  exact ⟨rfl, (by repeat (first | with_reducible exact Within.refl _ | with_reducible assumption | with_reducible refine Within.alloc ?_ _ | with_reducible refine Within.drew ?_ | with_reducible refine Within.setCell ?_ (by first | (simp; done) | (simp; omega)) _ | with_reducible refine Within.trans ?_ (by assumption)))⟩

set_option maxRecDepth 100000 in
set_option maxHeartbeats 600000 in
theorem Finite_ff (a b k : Nat) (x y : Int) (w : World) (c0 : w.cell? ⟨k, 0, none⟩ = some (.float .f64 a)) (c1 : w.cell? ⟨k, 1, none⟩ = some (.float .f64 b)) (CA : Hid (∀ w, Calls Tryd.prog 39 #[.float .f64 a] w fun e w' => e = .returned (.int .i64 x) ∧ Within w w')) (CB : Hid (∀ w, Calls Tryd.prog 39 #[.float .f64 b] w fun e w' => e = .returned (.int .i64 y) ∧ Within w w')) (hx : 2 < x) (hy : 2 < y) : Calls Tryd.prog 44 #[.slice (some ⟨k, 0, none⟩) 2 2] w fun e w' => e = .returned (.bool true) ∧ Within w w' := by
  have fx1 : (x == 1) = false := beq_eq_false_iff_ne.2 (by omega)
  have fx2 : (x == 2) = false := beq_eq_false_iff_ne.2 (by omega)
  clear hx
  have fy1 : (y == 1) = false := beq_eq_false_iff_ne.2 (by omega)
  have fy2 : (y == 2) = false := beq_eq_false_iff_ne.2 (by omega)
  clear hy
  go_enter Tryd.func44, Tryd.ntmps44
  go_wp2
  refine wp_loop_rounds 3 ?_
  rw [rounds_succ]
  go_wp2_with fail
  refine (CA.out _).mono ?_; rintro e1 w1 ⟨rfl, hb1⟩
  have hc1 := hb1.cells; have hf1 := hb1.frozens
  have c1' : w1.cell? ⟨k, 1, none⟩ = some (.float .f64 b) := (hc1 _ _ (World.block_lt_of_cell? w _ c1)).trans c1
  go_wp2
  rw [rounds_succ]
  go_wp2_with fail
  refine (CB.out _).mono ?_; rintro e2 w2 ⟨rfl, hb2⟩
  go_wp2
  rw [rounds_succ]
  go_wp2
  go_ret
  exact ⟨rfl, (by repeat (first | with_reducible exact Within.refl _ | with_reducible assumption | with_reducible refine Within.alloc ?_ _ | with_reducible refine Within.drew ?_ | with_reducible refine Within.setCell ?_ (by first | (simp; done) | (simp; omega)) _ | with_reducible refine Within.trans ?_ (by assumption)))⟩

theorem Finite_two (a b k : Nat) (ha : a < 18446744073709551616) (hb : b < 18446744073709551616) (w : World) (c0 : w.cell? ⟨k, 0, none⟩ = some (.float .f64 a)) (c1 : w.cell? ⟨k, 1, none⟩ = some (.float .f64 b)) : Calls Tryd.prog 44 #[.slice (some ⟨k, 0, none⟩) 2 2] w fun e w' => e = .returned (.bool (decide (2 < classD a) && decide (2 < classD b))) ∧ Within w w' := by
  have ra := classD_range a; have rb := classD_range b
  have CA := Lib.hid (fun w => Class_D a ha w); have CB := Lib.hid (fun w => Class_D b hb w)
  generalize classD a = x at *; generalize classD b = y at *
  by_cases h1 : 2 < x
  · rw [decide_eq_true h1]
    by_cases h2 : 2 < y
    · rw [decide_eq_true h2]; exact Finite_ff a b k x y w c0 c1 CA CB h1 h2
    · rw [decide_eq_false h2]
      by_cases h3 : y = 1
      · exact Finite_f1 a b k x y w c0 c1 CA CB h1 h3
      · exact Finite_f2 a b k x y w c0 c1 CA CB h1 (by omega)
  · rw [decide_eq_false h1]
    by_cases h3 : x = 1
    · exact Finite_1x a b k x y w c0 c1 CA CB h3 trivial
    · exact Finite_2x a b k x y w c0 c1 CA CB (by omega) trivial

set_option maxRecDepth 100000 in
set_option maxHeartbeats 600000 in
theorem RallFinite_ff (a b k : Nat) (w : World) (c0 : w.cell? ⟨k, 0, none⟩ = some (.float .f64 a)) (c1 : w.cell? ⟨k, 1, none⟩ = some (.float .f64 b)) (CA : Hid (∀ w, Calls Tryd.prog 97 #[.float .f64 a] w fun e w' => e = .returned (.bool true) ∧ w = w')) (CB : Hid (∀ w, Calls Tryd.prog 97 #[.float .f64 b] w fun e w' => e = .returned (.bool true) ∧ w = w')) : Calls Tryd.prog 45 #[.slice (some ⟨k, 0, none⟩) 2 2] w fun e w' => e = .returned (.bool true) ∧ w = w' := by
  go_enter Tryd.func45, Tryd.ntmps45
  go_wp2
  refine wp_loop_rounds 3 ?_
  rw [rounds_succ]
  go_wp2_with fail
  refine (CA.out _).mono ?_; rintro e1 w1 ⟨rfl, rfl⟩
  go_wp2
  rw [rounds_succ]
  go_wp2_with fail
  refine (CB.out _).mono ?_; rintro e2 w2 ⟨rfl, rfl⟩
  go_wp2
  rw [rounds_succ]
  go_wp2
  go_ret
  exact ⟨rfl, rfl⟩

set_option maxRecDepth 100000 in
set_option maxHeartbeats 600000 in
theorem RallFinite_fn (a b k : Nat) (w : World) (c0 : w.cell? ⟨k, 0, none⟩ = some (.float .f64 a)) (c1 : w.cell? ⟨k, 1, none⟩ = some (.float .f64 b)) (CA : Hid (∀ w, Calls Tryd.prog 97 #[.float .f64 a] w fun e w' => e = .returned (.bool true) ∧ w = w')) (CB : Hid (∀ w, Calls Tryd.prog 97 #[.float .f64 b] w fun e w' => e = .returned (.bool false) ∧ w = w')) : Calls Tryd.prog 45 #[.slice (some ⟨k, 0, none⟩) 2 2] w fun e w' => e = .returned (.bool false) ∧ w = w' := by
  go_enter Tryd.func45, Tryd.ntmps45
  go_wp2
  refine wp_loop_rounds 2 ?_
  rw [rounds_succ]
  go_wp2_with fail
  refine (CA.out _).mono ?_; rintro e1 w1 ⟨rfl, rfl⟩
  go_wp2
  rw [rounds_succ]
  go_wp2_with fail
  refine (CB.out _).mono ?_; rintro e2 w2 ⟨rfl, rfl⟩
  go_wp2
  go_ret
  exact ⟨rfl, rfl⟩

set_option maxRecDepth 100000 in
set_option maxHeartbeats 600000 in
theorem RallFinite_n (a b k : Nat) (v : Bool) (w : World) (c0 : w.cell? ⟨k, 0, none⟩ = some (.float .f64 a)) (c1 : w.cell? ⟨k, 1, none⟩ = some (.float .f64 b)) (CA : Hid (∀ w, Calls Tryd.prog 97 #[.float .f64 a] w fun e w' => e = .returned (.bool false) ∧ w = w')) (CB : Hid (∀ w, Calls Tryd.prog 97 #[.float .f64 b] w fun e w' => e = .returned (.bool v) ∧ w = w')) : Calls Tryd.prog 45 #[.slice (some ⟨k, 0, none⟩) 2 2] w fun e w' => e = .returned (.bool false) ∧ w = w' := by
  clear CB c1
  go_enter Tryd.func45, Tryd.ntmps45
  go_wp2
  refine wp_loop_rounds 1 ?_
  rw [rounds_succ]
  go_wp2_with fail
  refine (CA.out _).mono ?_; rintro e1 w1 ⟨rfl, rfl⟩
  go_wp2
  go_ret
  exact ⟨rfl, rfl⟩

theorem RallFinite_two (a b k : Nat) (ha : a < 18446744073709551616) (hb : b < 18446744073709551616) (w : World) (c0 : w.cell? ⟨k, 0, none⟩ = some (.float .f64 a)) (c1 : w.cell? ⟨k, 1, none⟩ = some (.float .f64 b)) : Calls Tryd.prog 45 #[.slice (some ⟨k, 0, none⟩) 2 2] w fun e w' => e = .returned (.bool (decide (2 < classD a) && decide (2 < classD b))) ∧ w = w' := by
  have CA := Lib.hid (fun w => Rfinite a ha w); have CB := Lib.hid (fun w => Rfinite b hb w)
  generalize decide (2 < classD a) = x at *; generalize decide (2 < classD b) = y at *
  cases x
  · exact RallFinite_n a b k y w c0 c1 CA CB
  · cases y
    · exact RallFinite_fn a b k w c0 c1 CA CB
    · exact RallFinite_ff a b k w c0 c1 CA CB

end Go.Proofs.YthjaponkbodooaaDoor
