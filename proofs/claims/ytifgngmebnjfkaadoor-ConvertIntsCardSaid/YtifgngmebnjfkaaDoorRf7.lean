/- Package binnacleref02: Scale, of whole numbers: walks. -/
import Derived.Test.YtifgngmebnjfkaaDoorRf6
namespace Go.Proofs.YtifgngmebnjfkaaDoor
open Go.RowKit

/-- the exponent, scaled -/
def scE (x : Nat) (k : Int) : Int := if kD x = 0 then eD x + max (-5000) (min k 5000) else eD x

set_option maxRecDepth 100000 in
set_option maxHeartbeats 600000 in
theorem RScale_bad (x : Nat) (k mode : Int) (KN : Hid (∀ w, Calls Tryd.prog 72 #[.int .i64 mode] w (fun e w' => e = .returned (.bool false) ∧ w = w'))) (w : World) : Calls Tryd.prog 35 #[.int .u64 (x : Int), .int .i64 k, .int .i64 mode] w (fun e w' => e = .returned (.tuple #[.int .u64 0, .int .i64 0, .int .i64 20]) ∧ Within w w') := by
  go_enter Tryd.func35, Tryd.ntmps35
  go_wp2_with fail
  refine (KN.out _).mono ?_; rintro e1 w1 ⟨rfl, rfl⟩
  go_wp2
  go_ret3
  exact ⟨rfl, Within.refl _⟩

set_option maxRecDepth 100000 in
set_option maxHeartbeats 600000 in
theorem RScale_fin (x M W : Nat) (mode k kk E F : Int) (n : Bool) (hE : -2000 ≤ E ∧ E ≤ 2000) (hkk : -5000 ≤ kk ∧ kk ≤ 5000) (hk : max (-5000) (min k 5000) = kk) (KN : Hid (∀ w, Calls Tryd.prog 72 #[.int .i64 mode] w (fun e w' => e = .returned (.bool true) ∧ w = w'))) (TK : Hid (∀ w, Calls Tryd.prog 58 #[fmD, .int .u64 (x : Int)] w (fun e w' => ∃ g, e = .returned (.agg #[.int .i64 0, .bool n, .pointer (some ⟨g, 0, none⟩), .int .i64 E]) ∧ IntB w' g (M : Int) ∧ w.heap.size ≤ g ∧ Within w w'))) (SM : Hid (∀ w g, IntB w g (M : Int) → Calls Tryd.prog 73 #[fmD, .agg #[.int .i64 0, .bool n, .pointer (some ⟨g, 0, none⟩), .int .i64 (E + kk)], .int .i64 mode] w (fun e' w' => e' = .returned (.tuple #[.int .u64 (W : Int), .int .i64 F]) ∧ Within w w'))) (w : World) : Calls Tryd.prog 35 #[.int .u64 (x : Int), .int .i64 k, .int .i64 mode] w (fun e w' => e = .returned (.tuple #[.int .u64 (W : Int), .int .i64 F, .int .i64 0]) ∧ Within w w') := by
  have hE1 := hE.1; have hE2 := hE.2; have hk1 := hkk.1; have hk2 := hkk.2; clear hE hkk
  go_enter Tryd.func35, Tryd.ntmps35
  go_wp2_with fail
  refine (KN.out _).mono ?_; rintro e1 w1 ⟨rfl, rfl⟩
  go_wp2_with fail
  refine (RDouble _).mono ?_; rintro e3 w3 ⟨rfl, hb3'⟩
  go_wp2_with fail
  refine (TK.out _).mono ?_; rintro e2 w2 ⟨g, rfl, hI, hg, hb2'⟩
  have hb2 := hb3'.trans hb2'; have hb3 := Within.refl w2
  have hlg := hI.lt
  have HIF : IntB (w2.alloc (.cells #[.int .i64 0, .bool n, .pointer (some ⟨g, 0, none⟩), .int .i64 (E + kk)] 26)) g (M : Int) := hI.alloc _
  have hcw : Within w w2 := hb2.trans hb3
  go_upto_region 6 with fail
  refine wp_region_schG (fun W => W.cell? ⟨w2.heap.size, 0, none⟩ = some (.int .i64 0) ∧ W.cell? ⟨w2.heap.size, 1, none⟩ = some (.bool n) ∧ W.cell? ⟨w2.heap.size, 2, none⟩ = some (.pointer (some ⟨g, 0, none⟩)) ∧ W.cell? ⟨w2.heap.size, 3, none⟩ = some (.int .i64 (E + kk)) ∧ IntB W g (M : Int) ∧ Within w W ∧ w2.heap.size < W.heap.size) 8 (.firm 1 (.firm 2 (.one 0 (.one 3 (.firm 4 (.firm 5 (.firm 6 (.one 7 (.one 8 .nil))))))))) (by kernel_rfl) (by kernel_rfl) ⟨by go_simp, by go_simp, by go_simp, by go_simp, HIF, (by repeat (first | with_reducible exact Within.refl _ | with_reducible assumption | with_reducible refine Within.alloc ?_ _ | with_reducible refine Within.drew ?_ | with_reducible refine Within.drewN ?_ _ | with_reducible refine Within.setCell ?_ (by first | (simp; done) | (simp; omega)) _ | with_reducible refine Within.trans ?_ (by assumption))), by simp⟩ ?_
  rintro w0 ⟨c0, c1, c2, c3, hJ, hw0, hs0⟩
  try simp only [Act.put, List.setIfInBounds_toArray, List.set_cons_zero, List.set_cons_succ]
  repeat
    apply sch_firm rfl rfl (by repeat (first | with_reducible exact Within.refl _ | with_reducible assumption | with_reducible refine Within.alloc ?_ _ | with_reducible refine Within.drew ?_ | with_reducible refine Within.drewN ?_ _ | with_reducible refine Within.setCell ?_ (by first | (simp; done) | (simp; omega)) _ | with_reducible refine Within.trans ?_ (by assumption)))
    · intro wq hq
      have hcq := hq.cells
      clear hq
      go_simp
      first | rfl | (trace_state; fail)
    try simp only [Act.put, List.setIfInBounds_toArray, List.set_cons_zero, List.set_cons_succ]
  refine sch_one rfl rfl (fun K hK => ?_)
  go_simp
  refine (RDouble _).mono ?_; rintro e4 w4 ⟨rfl, hb4⟩
  have hv4 : Within w0 w4 := (Within.refl w0).drew.trans hb4
  refine hK _ _ (fun _ => (by repeat (first | with_reducible exact Within.refl _ | with_reducible assumption | with_reducible refine Within.alloc ?_ _ | with_reducible refine Within.drew ?_ | with_reducible refine Within.drewN ?_ _ | with_reducible refine Within.setCell ?_ (by first | (simp; done) | (simp; omega)) _ | with_reducible refine Within.trans ?_ (by assumption)))) ?_
  clear hK K
  try simp only [Act.put, List.setIfInBounds_toArray, List.set_cons_zero, List.set_cons_succ]
  refine sch_one rfl rfl (fun K hK => ?_)
  go_simp
  refine (SM.out _ _ (hJ.of hv4)).mono ?_; rintro e5 w5 ⟨rfl, hb5⟩
  have hv5 := hv4.trans hb5
  refine hK _ _ (fun _ => (by repeat (first | with_reducible exact Within.refl _ | with_reducible assumption | with_reducible refine Within.alloc ?_ _ | with_reducible refine Within.drew ?_ | with_reducible refine Within.drewN ?_ _ | with_reducible refine Within.setCell ?_ (by first | (simp; done) | (simp; omega)) _ | with_reducible refine Within.trans ?_ (by assumption)))) ?_
  clear hK K
  try simp only [Act.put, List.setIfInBounds_toArray, List.set_cons_zero, List.set_cons_succ]
  repeat
    apply sch_firm rfl rfl (by repeat (first | with_reducible exact Within.refl _ | with_reducible assumption | with_reducible refine Within.alloc ?_ _ | with_reducible refine Within.drew ?_ | with_reducible refine Within.drewN ?_ _ | with_reducible refine Within.setCell ?_ (by first | (simp; done) | (simp; omega)) _ | with_reducible refine Within.trans ?_ (by assumption)))
    · intro wq hq
      have hcq := hq.cells
      clear hq
      go_simp
      first | rfl | (trace_state; fail)
    try simp only [Act.put, List.setIfInBounds_toArray, List.set_cons_zero, List.set_cons_succ]
  refine sch_one rfl rfl (fun K hK => ?_)
  go_simp
  refine hK _ _ (fun _ => (by repeat (first | with_reducible exact Within.refl _ | with_reducible assumption | with_reducible refine Within.alloc ?_ _ | with_reducible refine Within.drew ?_ | with_reducible refine Within.drewN ?_ _ | with_reducible refine Within.setCell ?_ (by first | (simp; done) | (simp; omega)) _ | with_reducible refine Within.trans ?_ (by assumption)))) ?_
  clear hK K
  try simp only [Act.put, List.setIfInBounds_toArray, List.set_cons_zero, List.set_cons_succ]
  refine sch_one rfl rfl (fun K hK => ?_)
  go_simp
  refine hK _ _ (fun h => absurd h (by decide)) ?_
  clear hK K
  try simp only [Act.put, List.setIfInBounds_toArray, List.set_cons_zero, List.set_cons_succ]
  refine sch_nil ?_
  go_wp2
  go_ret3
  exact ⟨rfl, hw0.trans hv5⟩

set_option maxRecDepth 100000 in
set_option maxHeartbeats 600000 in
theorem RScale_not (x M W : Nat) (mode k kk E F kd : Int) (n : Bool) (hE : -2000 ≤ E ∧ E ≤ 2000) (hkk : -5000 ≤ kk ∧ kk ≤ 5000) (hk : max (-5000) (min k 5000) = kk) (hkd : (kd == 0) = false) (KN : Hid (∀ w, Calls Tryd.prog 72 #[.int .i64 mode] w (fun e w' => e = .returned (.bool true) ∧ w = w'))) (TK : Hid (∀ w, Calls Tryd.prog 58 #[fmD, .int .u64 (x : Int)] w (fun e w' => ∃ g, e = .returned (.agg #[.int .i64 kd, .bool n, .pointer (some ⟨g, 0, none⟩), .int .i64 E]) ∧ IntB w' g (M : Int) ∧ w.heap.size ≤ g ∧ Within w w'))) (SM : Hid (∀ w g, IntB w g (M : Int) → Calls Tryd.prog 73 #[fmD, .agg #[.int .i64 kd, .bool n, .pointer (some ⟨g, 0, none⟩), .int .i64 (E)], .int .i64 mode] w (fun e' w' => e' = .returned (.tuple #[.int .u64 (W : Int), .int .i64 F]) ∧ Within w w'))) (w : World) : Calls Tryd.prog 35 #[.int .u64 (x : Int), .int .i64 k, .int .i64 mode] w (fun e w' => e = .returned (.tuple #[.int .u64 (W : Int), .int .i64 F, .int .i64 0]) ∧ Within w w') := by
  have hE1 := hE.1; have hE2 := hE.2; have hk1 := hkk.1; have hk2 := hkk.2; clear hE hkk
  go_enter Tryd.func35, Tryd.ntmps35
  go_wp2_with fail
  refine (KN.out _).mono ?_; rintro e1 w1 ⟨rfl, rfl⟩
  go_wp2_with fail
  refine (RDouble _).mono ?_; rintro e3 w3 ⟨rfl, hb3'⟩
  go_wp2_with fail
  refine (TK.out _).mono ?_; rintro e2 w2 ⟨g, rfl, hI, hg, hb2'⟩
  have hb2 := hb3'.trans hb2'; have hb3 := Within.refl w2
  have hlg := hI.lt
  have HIF : IntB (w2.alloc (.cells #[.int .i64 kd, .bool n, .pointer (some ⟨g, 0, none⟩), .int .i64 (E)] 26)) g (M : Int) := hI.alloc _
  have hcw : Within w w2 := hb2.trans hb3
  go_upto_region 6 with fail
  refine wp_region_schG (fun W => W.cell? ⟨w2.heap.size, 0, none⟩ = some (.int .i64 kd) ∧ W.cell? ⟨w2.heap.size, 1, none⟩ = some (.bool n) ∧ W.cell? ⟨w2.heap.size, 2, none⟩ = some (.pointer (some ⟨g, 0, none⟩)) ∧ W.cell? ⟨w2.heap.size, 3, none⟩ = some (.int .i64 (E)) ∧ IntB W g (M : Int) ∧ Within w W ∧ w2.heap.size < W.heap.size) 8 (.firm 1 (.firm 2 (.one 0 (.one 3 (.firm 4 (.firm 5 (.firm 6 (.one 7 (.one 8 .nil))))))))) (by kernel_rfl) (by kernel_rfl) ⟨by go_simp, by go_simp, by go_simp, by go_simp, HIF, (by repeat (first | with_reducible exact Within.refl _ | with_reducible assumption | with_reducible refine Within.alloc ?_ _ | with_reducible refine Within.drew ?_ | with_reducible refine Within.drewN ?_ _ | with_reducible refine Within.setCell ?_ (by first | (simp; done) | (simp; omega)) _ | with_reducible refine Within.trans ?_ (by assumption))), by simp⟩ ?_
  rintro w0 ⟨c0, c1, c2, c3, hJ, hw0, hs0⟩
  try simp only [Act.put, List.setIfInBounds_toArray, List.set_cons_zero, List.set_cons_succ]
  repeat
    apply sch_firm rfl rfl (by repeat (first | with_reducible exact Within.refl _ | with_reducible assumption | with_reducible refine Within.alloc ?_ _ | with_reducible refine Within.drew ?_ | with_reducible refine Within.drewN ?_ _ | with_reducible refine Within.setCell ?_ (by first | (simp; done) | (simp; omega)) _ | with_reducible refine Within.trans ?_ (by assumption)))
    · intro wq hq
      have hcq := hq.cells
      clear hq
      go_simp
      first | rfl | (trace_state; fail)
    try simp only [Act.put, List.setIfInBounds_toArray, List.set_cons_zero, List.set_cons_succ]
  refine sch_one rfl rfl (fun K hK => ?_)
  go_simp
  refine (RDouble _).mono ?_; rintro e4 w4 ⟨rfl, hb4⟩
  have hv4 : Within w0 w4 := (Within.refl w0).drew.trans hb4
  refine hK _ _ (fun _ => (by repeat (first | with_reducible exact Within.refl _ | with_reducible assumption | with_reducible refine Within.alloc ?_ _ | with_reducible refine Within.drew ?_ | with_reducible refine Within.drewN ?_ _ | with_reducible refine Within.setCell ?_ (by first | (simp; done) | (simp; omega)) _ | with_reducible refine Within.trans ?_ (by assumption)))) ?_
  clear hK K
  try simp only [Act.put, List.setIfInBounds_toArray, List.set_cons_zero, List.set_cons_succ]
  refine sch_one rfl rfl (fun K hK => ?_)
  go_simp
  refine (SM.out _ _ (hJ.of hv4)).mono ?_; rintro e5 w5 ⟨rfl, hb5⟩
  have hv5 := hv4.trans hb5
  refine hK _ _ (fun _ => (by repeat (first | with_reducible exact Within.refl _ | with_reducible assumption | with_reducible refine Within.alloc ?_ _ | with_reducible refine Within.drew ?_ | with_reducible refine Within.drewN ?_ _ | with_reducible refine Within.setCell ?_ (by first | (simp; done) | (simp; omega)) _ | with_reducible refine Within.trans ?_ (by assumption)))) ?_
  clear hK K
  try simp only [Act.put, List.setIfInBounds_toArray, List.set_cons_zero, List.set_cons_succ]
  repeat
    apply sch_firm rfl rfl (by repeat (first | with_reducible exact Within.refl _ | with_reducible assumption | with_reducible refine Within.alloc ?_ _ | with_reducible refine Within.drew ?_ | with_reducible refine Within.drewN ?_ _ | with_reducible refine Within.setCell ?_ (by first | (simp; done) | (simp; omega)) _ | with_reducible refine Within.trans ?_ (by assumption)))
    · intro wq hq
      have hcq := hq.cells
      clear hq
      go_simp
      first | rfl | (trace_state; fail)
    try simp only [Act.put, List.setIfInBounds_toArray, List.set_cons_zero, List.set_cons_succ]
  refine sch_one rfl rfl (fun K hK => ?_)
  go_simp
  refine hK _ _ (fun _ => (by repeat (first | with_reducible exact Within.refl _ | with_reducible assumption | with_reducible refine Within.alloc ?_ _ | with_reducible refine Within.drew ?_ | with_reducible refine Within.drewN ?_ _ | with_reducible refine Within.setCell ?_ (by first | (simp; done) | (simp; omega)) _ | with_reducible refine Within.trans ?_ (by assumption)))) ?_
  clear hK K
  try simp only [Act.put, List.setIfInBounds_toArray, List.set_cons_zero, List.set_cons_succ]
  refine sch_one rfl rfl (fun K hK => ?_)
  go_simp
  refine hK _ _ (fun h => absurd h (by decide)) ?_
  clear hK K
  try simp only [Act.put, List.setIfInBounds_toArray, List.set_cons_zero, List.set_cons_succ]
  refine sch_nil ?_
  go_wp2
  go_ret3
  exact ⟨rfl, hw0.trans hv5⟩

theorem RScale (x : Nat) (hx : x < 18446744073709551616) (k mode : Int) (w : World) : Calls Tryd.prog 35 #[.int .u64 (x : Int), .int .i64 k, .int .i64 mode] w (fun e w' => e = .returned (.tuple #[.int .u64 ((if 0 ≤ mode ∧ mode ≤ 4 then sWD (kD x) (nD x) (mD x) (scE x k) mode else 0 : Nat) : Int), .int .i64 (if 0 ≤ mode ∧ mode ≤ 4 then sFD (kD x) (nD x) (mD x) (scE x k) mode else 0), .int .i64 (if 0 ≤ mode ∧ mode ≤ 4 then 0 else 20)]) ∧ Within w w') := by
  have KN := Lib.hid (fun w => Rknown mode w)
  have he := eD_range x
  have hM : (dg (mD x)).length ≤ 900 := Nat.le_trans (dg_small (k := 2) (Nat.lt_trans (mD_lt x) (by decide))) (by decide)
  by_cases h : 0 ≤ mode ∧ mode ≤ 4
  · rw [decide_eq_true h] at KN
    rw [if_pos h, if_pos h, if_pos h]
    unfold scE
    by_cases h0 : kD x = 0
    · rw [if_pos h0]
      exact RScale_fin x (mD x) _ mode k _ (eD x) _ (nD x) (by omega) (by omega) rfl KN (Lib.hid fun w => by have := RtakeXD x hx w; rw [h0] at this; exact this) (Lib.hid fun w g hI => by rw [h0]; exact RsameD 0 (nD x) g (mD x) _ mode (.inl rfl) (by omega) hM w hI) w
    · rw [if_neg h0]
      exact RScale_not x (mD x) _ mode k _ (eD x) _ (kD x) (nD x) (by omega) (by omega) rfl (beq_eq_false_iff_ne.2 h0) KN (Lib.hid fun w => RtakeXD x hx w) (Lib.hid fun w g hI => RsameD (kD x) (nD x) g (mD x) _ mode (kD_range x) (by omega) hM w hI) w
  · rw [decide_eq_false h] at KN
    rw [if_neg h, if_neg h, if_neg h]
    exact RScale_bad x k mode KN w

end Go.Proofs.YtifgngmebnjfkaaDoor
