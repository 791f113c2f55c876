/- the document's numbers and singles of parts, a single's parts: joined. -/
import Derived.Test.YthjaponkbodooaaDoorRef8
namespace Go.Proofs.YthjaponkbodooaaDoor
open Go.RowKit

theorem made_odd (ng : Bool) {mant : Nat} {e : Int} (h0 : mant ≠ 0) (hm : mant < 18446744073709551616) (h : mayD (oddM mant) (oddE mant e) = true) :
    madeD ng mant e = madeD ng (oddM mant) (oddE mant e) ∧ madeED mant e = 0 := by
  have hE : madeED mant e = 0 := by rw [madeED_may mant e h0 hm, h, if_pos rfl]
  obtain ⟨a1, _, a3, a4, a5, a6, _⟩ := made_parts ng mant e h0 hm hE
  have := (parts_made _ a1 a3).1
  rw [a4, a5, a6] at this
  exact ⟨this.symm, hE⟩
theorem made_bad (ng : Bool) {mant : Nat} {e : Int} (h0 : mant ≠ 0) (hm : mant < 18446744073709551616) (h : mayD (oddM mant) (oddE mant e) = false) :
    madeD ng mant e = 0 ∧ madeED mant e = 10 := by
  have hE : madeED mant e = 10 := by rw [madeED_may mant e h0 hm, h, if_neg (by simp)]
  exact ⟨(made_err ng mant e (by omega)).1, hE⟩
theorem made_badS (ng : Bool) {mant : Nat} {e : Int} (h0 : mant ≠ 0) (hm : mant < 18446744073709551616) (h : mayS (oddM mant) (oddE mant e) = false) :
    madeS ng mant e = 0 ∧ madeES mant e = 10 := by
  have hE : madeES mant e = 10 := by rw [madeES_may mant e h0 hm, h, if_neg (by simp)]
  exact ⟨(made_errS ng mant e (by omega)).1, hE⟩
theorem made_oddS (ng : Bool) {mant : Nat} {e : Int} (h0 : mant ≠ 0) (hm : mant < 18446744073709551616) (h : mayS (oddM mant) (oddE mant e) = true) :
    madeES mant e = 0 ∧ madeS ng mant e < 4294967296 ∧ madeS ng mant e % 2147483648 < 2139095040 ∧ negS (madeS ng mant e) = ng ∧ Fp.mag Ieee.single (madeS ng mant e % 2147483648) = oddM mant * 2 ^ (oddE mant e + 149).toNat ∧ -149 ≤ oddE mant e := by
  have hE : madeES mant e = 0 := by rw [madeES_may mant e h0 hm, h, if_pos rfl]
  obtain ⟨a1, a2, a3, a4, a5, a6, _⟩ := made_partsS ng mant e h0 hm hE
  have h7 : expS (madeS ng mant e) ≠ 255 := fun h => by unfold pErrS at a3; rw [if_pos h] at a3; omega
  have hfin : madeS ng mant e % 2147483648 < 2139095040 := by
    have hr := nanS_false a2
    unfold expS at h7; rw [canonS_id a2] at h7; omega
  obtain ⟨p1, _, p3, _⟩ := magS_parts hfin
  rw [a5, a6] at p1
  rw [a5, a6] at p3
  obtain ⟨m, ho, _⟩ := odd_split h0 hm
  refine ⟨hE, a1, hfin, ?_, p1, p3 (by omega)⟩
  have : pNegS (madeS ng mant e) = negS (madeS ng mant e) := by unfold pNegS; rw [if_neg h7]
  rw [← this, a4]

theorem Rof_any (ng : Bool) (mant : Nat) (e : Int) (hm : mant < 18446744073709551616) (hlo : -9223372036854775808 ≤ e) (w : World) : Calls Tryd.prog 20 #[.agg #[.bool ng, .int .u64 mant, .int .i64 e]] w fun e' w' => e' = .returned (.tuple #[.float .f64 (madeD ng mant e), .int .i64 (madeED mant e)]) ∧ Within w w' := by
  by_cases h0 : mant = 0
  · subst h0
    rw [(made_zero ng e).1, (made_zero ng e).2]
    cases ng
    · exact RofZero_f e w
    · exact RofZero_t e w
  obtain ⟨n, n1, n2, n3, n4, n5⟩ := strip (e := e) h0 hm
  have m0 : ((mant : Int) != 0) = true := by rw [bne_iff_ne]; omega
  have hMl : mant / 2 ^ n < 18446744073709551616 := Nat.lt_of_le_of_lt (Nat.div_le_self _ _) hm
  have hM0 : mant / 2 ^ n ≠ 0 := by have := (n2 n (Nat.le_refl _)).1; omega
  have MY := Lib.hid (fun w => Rmay_D (mant / 2 ^ n) (e + n) hM0 hMl w)
  cases hb : mayD (mant / 2 ^ n) (e + n)
  · rw [hb] at MY n4
    obtain ⟨b1, b2⟩ := made_bad ng (e := e) h0 hm n4.symm
    rw [b1, b2]
    rcases n3 with n3 | ⟨n3, n6⟩
    · exact RofBad_o ng mant n _ e _ w m0 (Lib.hid hm) (Lib.hid hlo) (Lib.hid rfl) (Lib.hid rfl) (Lib.hid n2) MY (by rw [beq_eq_false_iff_ne]; omega)
    · exact RofBad_e ng mant n _ e _ w m0 (Lib.hid hm) (Lib.hid hlo) (Lib.hid rfl) (Lib.hid rfl) (Lib.hid n2) MY (by rw [beq_iff_eq]; omega) (fun _ => decide_eq_false (by omega))
  · rw [hb] at MY n4
    obtain ⟨o1, o2, o3⟩ := n5 hb
    obtain ⟨b1, b2⟩ := made_odd ng (e := e) h0 hm n4.symm
    rw [b1, b2, ← o2, ← o3]
    have hp : (((mant / 2 ^ n : Nat) : Int) % 2 == 0) = false := by rw [beq_eq_false_iff_ne]; omega
    have hbits := may_bits hb
    have hL := len_bounds hM0 hMl
    have hW := pos_word o1 hMl hb
    have hN := neg_word o1 hMl hb
    obtain ⟨M, hM⟩ : ∃ M, mant / 2 ^ n = M := ⟨_, rfl⟩
    obtain ⟨E, hE⟩ : ∃ E, e + (n : Int) = E := ⟨_, rfl⟩
    rw [hM, hE] at MY hb hW hN hbits ⊢
    rw [hM] at hp o1 hMl hL
    have hres : (if ng then madeD false M E + 9223372036854775808 else madeD false M E) = madeD ng M E := by
      cases ng
      · exact if_neg (by decide)
      · rw [if_pos rfl, hN]
    have CS := Lib.hid (fun w => copysign_neg (madeD false M E) (by omega) w)
    by_cases hpos : 0 ≤ E
    · obtain ⟨K, rfl⟩ := Int.eq_ofNat_of_zero_le hpos
      obtain ⟨X, hX⟩ : ∃ X : Nat → Nat, ∀ k : Nat, X k = madeD false M (k : Int) := ⟨_, fun _ => rfl⟩
      have C0 : floatOfInt .f64 (M : Int) = X 0 := by rw [hX]; exact int_word o1 hMl hb
      have U : ∀ k, k < K → Ieee.double.mul (X k) 4611686018427387904 = some (X (k + 1)) := fun k hk => by rw [hX, hX]; exact up_step o1 hMl hb k (by omega)
      rw [← hX] at CS hres
      rw [← hres]
      exact RofUp ng mant n M e K w m0 (Lib.hid hm) (Lib.hid hlo) (Lib.hid hM) (Lib.hid hE) (Lib.hid n2) MY hp X K (Lib.hid (by omega)) (Lib.hid C0) (Lib.hid U) (Lib.hid rfl) CS
    · obtain ⟨K, rfl⟩ : ∃ K : Nat, E = -(K : Int) := ⟨(-E).toNat, by omega⟩
      obtain ⟨X, hX⟩ : ∃ X : Nat → Nat, ∀ k : Nat, X k = madeD false M (-(k : Int)) := ⟨_, fun _ => rfl⟩
      have C0 : floatOfInt .f64 (M : Int) = X 0 := by rw [hX]; exact int_word o1 hMl hb
      have U : ∀ k, k < K → Ieee.double.div (X k) 4611686018427387904 = some (X (k + 1)) := fun k hk => by rw [hX, hX]; exact down_step o1 hMl hb k (by omega)
      rw [← hX] at CS hres
      rw [← hres]
      exact RofDown ng mant n M e (-(K : Int)) w m0 (Lib.hid hm) (Lib.hid hlo) (Lib.hid hM) (Lib.hid hE) (Lib.hid n2) MY hp X K (Lib.hid (by omega)) (Lib.hid C0) (Lib.hid U) (Lib.hid rfl) CS

set_option maxRecDepth 100000 in
set_option maxHeartbeats 600000 in
theorem Rof32_err (ng : Bool) (mant : Nat) (e : Int) (w : World) (OF : Hid (∀ w, Calls Tryd.prog 20 #[.agg #[.bool ng, .int .u64 mant, .int .i64 e]] w fun e' w' => e' = .returned (.tuple #[.float .f64 0, .int .i64 10]) ∧ Within w w')) : Calls Tryd.prog 23 #[.agg #[.bool ng, .int .u64 mant, .int .i64 e]] w fun e' w' => e' = .returned (.tuple #[.float .f32 0, .int .i64 10]) ∧ Within w w' := by
  go_enter Tryd.func23, Tryd.ntmps23
  go_wp2_with fail
  refine (OF.out _).mono ?_; rintro e1 w1 ⟨rfl, hb1⟩
  have hc1 := hb1.cells; have hf1 := hb1.frozens
  go_wp2
  go_ret2
  exact ⟨rfl, (by repeat (first | with_reducible exact Within.refl _ | with_reducible assumption | with_reducible refine Within.alloc ?_ _ | with_reducible refine Within.drew ?_ | with_reducible refine Within.setCell ?_ (by first | (simp; done) | (simp; omega)) _ | with_reducible refine Within.trans ?_ (by assumption)))⟩

theorem run_float_nan (op : BinOp) (t : TypeId) (k : FloatKind) (x y : Nat) (P : Program) (w : World) (ho : op = .sub ∨ op = .add ∨ op = .mul ∨ op = .quo) (h : floatBits op k x y = none) :
    (binOp op t (.float k x) (.float k y)).run P w = .ok (.float k ((Question.nanBits k x y).cut (w.tape w.drawn (.nanBits k x y)))) w.drew := by
  unfold floatBits at h
  rcases ho with rfl | rfl | rfl | rfl <;> simp only at h <;> simp [binOp, Op.floatArith, h, run_choose_drew, Question.forced]
section
set_option maxRecDepth 100000 in
set_option maxHeartbeats 600000 in
theorem Rof32_zero (ng : Bool) (mant : Nat) (e : Int) (w : World) (x s : Nat) (hcv : ∀ w, (convert 29 35 (.float .f64 x)).run Tryd.prog w = .ok (.float .f32 s) w) (OF : Hid (∀ w, Calls Tryd.prog 20 #[.agg #[.bool ng, .int .u64 mant, .int .i64 e]] w fun e' w' => e' = .returned (.tuple #[.float .f64 x, .int .i64 0]) ∧ Within w w')) (PA : Hid (∀ w, Calls Tryd.prog 14 #[.float .f64 x] w fun e' w' => e' = .returned (.tuple #[.agg #[.bool ng, .int .u64 0, .int .i64 0], .int .i64 0]) ∧ Within w w')) : Calls Tryd.prog 23 #[.agg #[.bool ng, .int .u64 mant, .int .i64 e]] w fun e' w' => e' = .returned (.tuple #[.float .f32 s, .int .i64 0]) ∧ Within w w' := by
  go_enter Tryd.func23, Tryd.ntmps23
  go_wp2_with fail
  refine (OF.out _).mono ?_; rintro e1 w1 ⟨rfl, hb1⟩
  have hc1 := hb1.cells; have hf1 := hb1.frozens
  go_wp2_with fail
  refine (PA.out _).mono ?_; rintro e2 w2 ⟨rfl, hb2⟩
  have hc2 := hb2.cells; have hf2 := hb2.frozens
  go_wp2
  go_ret2
  exact ⟨rfl, (by repeat (first | with_reducible exact Within.refl _ | with_reducible assumption | with_reducible refine Within.alloc ?_ _ | with_reducible refine Within.drew ?_ | with_reducible refine Within.setCell ?_ (by first | (simp; done) | (simp; omega)) _ | with_reducible refine Within.trans ?_ (by assumption)))⟩

set_option maxRecDepth 100000 in
set_option maxHeartbeats 600000 in
theorem Rof32_false (ng : Bool) (mant : Nat) (e : Int) (w : World) (x M : Nat) (E : Int) (hM : ((M : Int) != 0) = true) (OF : Hid (∀ w, Calls Tryd.prog 20 #[.agg #[.bool ng, .int .u64 mant, .int .i64 e]] w fun e' w' => e' = .returned (.tuple #[.float .f64 x, .int .i64 0]) ∧ Within w w')) (PA : Hid (∀ w, Calls Tryd.prog 14 #[.float .f64 x] w fun e' w' => e' = .returned (.tuple #[.agg #[.bool ng, .int .u64 M, .int .i64 E], .int .i64 0]) ∧ Within w w')) (MY : Hid (∀ w, Calls Tryd.prog 80 #[.int .u64 M, .int .i64 E, .int .i64 24, .int .i64 (-149), .int .i64 128] w fun e' w' => e' = .returned (.bool false) ∧ w = w')) : Calls Tryd.prog 23 #[.agg #[.bool ng, .int .u64 mant, .int .i64 e]] w fun e' w' => e' = .returned (.tuple #[.float .f32 0, .int .i64 10]) ∧ Within w w' := by
  go_enter Tryd.func23, Tryd.ntmps23
  go_wp2_with fail
  refine (OF.out _).mono ?_; rintro e1 w1 ⟨rfl, hb1⟩
  have hc1 := hb1.cells; have hf1 := hb1.frozens
  go_wp2_with fail
  refine (PA.out _).mono ?_; rintro e2 w2 ⟨rfl, hb2⟩
  have hc2 := hb2.cells; have hf2 := hb2.frozens
  go_wp2_with fail
  refine (MY.out _).mono ?_; rintro e3 w3 ⟨rfl, rfl⟩
  go_wp2
  go_ret2
  exact ⟨rfl, (by repeat (first | with_reducible exact Within.refl _ | with_reducible assumption | with_reducible refine Within.alloc ?_ _ | with_reducible refine Within.drew ?_ | with_reducible refine Within.setCell ?_ (by first | (simp; done) | (simp; omega)) _ | with_reducible refine Within.trans ?_ (by assumption)))⟩

set_option maxRecDepth 100000 in
set_option maxHeartbeats 600000 in
theorem Rof32_true (ng : Bool) (mant : Nat) (e : Int) (w : World) (x M : Nat) (E : Int) (s : Nat) (hcv : ∀ w, (convert 29 35 (.float .f64 x)).run Tryd.prog w = .ok (.float .f32 s) w) (hM : ((M : Int) != 0) = true) (OF : Hid (∀ w, Calls Tryd.prog 20 #[.agg #[.bool ng, .int .u64 mant, .int .i64 e]] w fun e' w' => e' = .returned (.tuple #[.float .f64 x, .int .i64 0]) ∧ Within w w')) (PA : Hid (∀ w, Calls Tryd.prog 14 #[.float .f64 x] w fun e' w' => e' = .returned (.tuple #[.agg #[.bool ng, .int .u64 M, .int .i64 E], .int .i64 0]) ∧ Within w w')) (MY : Hid (∀ w, Calls Tryd.prog 80 #[.int .u64 M, .int .i64 E, .int .i64 24, .int .i64 (-149), .int .i64 128] w fun e' w' => e' = .returned (.bool true) ∧ w = w')) : Calls Tryd.prog 23 #[.agg #[.bool ng, .int .u64 mant, .int .i64 e]] w fun e' w' => e' = .returned (.tuple #[.float .f32 s, .int .i64 0]) ∧ Within w w' := by
  go_enter Tryd.func23, Tryd.ntmps23
  go_wp2_with fail
  refine (OF.out _).mono ?_; rintro e1 w1 ⟨rfl, hb1⟩
  have hc1 := hb1.cells; have hf1 := hb1.frozens
  go_wp2_with fail
  refine (PA.out _).mono ?_; rintro e2 w2 ⟨rfl, hb2⟩
  have hc2 := hb2.cells; have hf2 := hb2.frozens
  go_wp2_with fail
  refine (MY.out _).mono ?_; rintro e3 w3 ⟨rfl, rfl⟩
  go_wp2
  go_ret2
  exact ⟨rfl, (by repeat (first | with_reducible exact Within.refl _ | with_reducible assumption | with_reducible refine Within.alloc ?_ _ | with_reducible refine Within.drew ?_ | with_reducible refine Within.setCell ?_ (by first | (simp; done) | (simp; omega)) _ | with_reducible refine Within.trans ?_ (by assumption)))⟩

set_option maxRecDepth 100000 in
set_option maxHeartbeats 600000 in
theorem Rparts32_nan (y : Nat) (w : World) (hx : (FloatKind.f32.format.order y y != some .eq) = true) : Calls Tryd.prog 18 #[.float .f32 y] w fun e w' => e = .returned (.tuple #[.agg #[.bool false, .int .u64 0, .int .i64 0], .int .i64 4]) ∧ Within w w' := by
  go_enter Tryd.func18, Tryd.ntmps18
  go_wp2
  refine bodyPost_ret (v := .tuple #[.agg #[.bool false, .int .u64 0, .int .i64 0], .int .i64 4]) (by simp [results, Tryd.results18, go_sem]) rfl ⟨rfl, ?_⟩
  exact (by repeat (first | with_reducible exact Within.refl _ | with_reducible assumption | with_reducible refine Within.alloc ?_ _ | with_reducible refine Within.drew ?_ | with_reducible refine Within.setCell ?_ (by first | (simp; done) | (simp; omega)) _ | with_reducible refine Within.trans ?_ (by assumption)))

set_option maxRecDepth 100000 in
set_option maxHeartbeats 600000 in
theorem Rparts32_inf (y : Nat) (w : World) (hx : (FloatKind.f32.format.order y y != some .eq) = false) (hs : ∀ t w, (binOp .sub t (.float .f32 y) (.float .f32 y)).run Tryd.prog w = .ok (.float .f32 ((Question.nanBits .f32 y y).cut (w.tape w.drawn (.nanBits .f32 y y)))) w.drew) (hn : ∀ t, (FloatKind.f32.format.order (Question.cut (.nanBits .f32 y y) t) 0 != some .eq) = true) : Calls Tryd.prog 18 #[.float .f32 y] w fun e w' => e = .returned (.tuple #[.agg #[.bool false, .int .u64 0, .int .i64 0], .int .i64 4]) ∧ Within w w' := by
  go_enter Tryd.func18, Tryd.ntmps18
  go_wp2
  refine bodyPost_ret (v := .tuple #[.agg #[.bool false, .int .u64 0, .int .i64 0], .int .i64 4]) (by simp [results, Tryd.results18, go_sem]) rfl ⟨rfl, ?_⟩
  exact (by repeat (first | with_reducible exact Within.refl _ | with_reducible assumption | with_reducible refine Within.alloc ?_ _ | with_reducible refine Within.drew ?_ | with_reducible refine Within.setCell ?_ (by first | (simp; done) | (simp; omega)) _ | with_reducible refine Within.trans ?_ (by assumption)))

set_option maxRecDepth 100000 in
set_option maxHeartbeats 600000 in
theorem Rparts32_fin (y x M : Nat) (ng : Bool) (E : Int) (w : World) (hx : (FloatKind.f32.format.order y y != some .eq) = false) (hs : ∀ t P w, (binOp .sub t (.float .f32 y) (.float .f32 y)).run P w = .ok (.float .f32 0) w) (hz : (FloatKind.f32.format.order 0 0 != some .eq) = false) (hcv : ∀ w, (convert 35 29 (.float .f32 y)).run Tryd.prog w = .ok (.float .f64 x) w) (PA : Hid (∀ w, Calls Tryd.prog 14 #[.float .f64 x] w fun e' w' => e' = .returned (.tuple #[.agg #[.bool ng, .int .u64 M, .int .i64 E], .int .i64 0]) ∧ Within w w')) : Calls Tryd.prog 18 #[.float .f32 y] w fun e w' => e = .returned (.tuple #[.agg #[.bool ng, .int .u64 M, .int .i64 E], .int .i64 0]) ∧ Within w w' := by
  go_enter Tryd.func18, Tryd.ntmps18
  go_wp2_with fail
  refine (PA.out _).mono ?_; rintro e1 w1 ⟨rfl, hb1⟩
  have hc1 := hb1.cells; have hf1 := hb1.frozens
  have r0 : w1.cell? ⟨w.heap.size, 0, none⟩ = some (.bool false) := (hb1.cells _ _ (by simp)).trans (by simp)
  have r1 : w1.cell? ⟨w.heap.size, 1, none⟩ = some (.int .u64 0) := (hb1.cells _ _ (by simp)).trans (by simp)
  have r2 : w1.cell? ⟨w.heap.size, 2, none⟩ = some (.int .i64 0) := (hb1.cells _ _ (by simp)).trans (by simp)
  have s0 := World.cell?_setCell_same w1 ⟨w.heap.size, 0, none⟩ (.bool ng) r0
  have s1 := World.cell?_setCell_same (w1.setCell ⟨w.heap.size, 0, none⟩ (.bool ng)) ⟨w.heap.size, 1, none⟩ (.int .u64 M) ((World.cell?_setCell_other _ _ _ _ (by simp)).trans r1)
  have s2 := World.cell?_setCell_same ((w1.setCell ⟨w.heap.size, 0, none⟩ (.bool ng)).setCell ⟨w.heap.size, 1, none⟩ (.int .u64 M)) ⟨w.heap.size, 2, none⟩ (.int .i64 E) ((World.cell?_setCell_other _ _ _ _ (by simp)).trans ((World.cell?_setCell_other _ _ _ _ (by simp)).trans r2))
  go_wp2
  refine bodyPost_ret (v := .tuple #[.agg #[.bool ng, .int .u64 M, .int .i64 E], .int .i64 0]) (by simp [results, Tryd.results18, go_sem, s0, s1, s2]) rfl ⟨rfl, ?_⟩
  exact (by repeat (first | with_reducible exact Within.refl _ | with_reducible assumption | with_reducible refine Within.alloc ?_ _ | with_reducible refine Within.drew ?_ | with_reducible refine Within.setCell ?_ (by first | (simp; done) | (simp; omega)) _ | with_reducible refine Within.trans ?_ (by assumption)))

end
end Go.Proofs.YthjaponkbodooaaDoor
