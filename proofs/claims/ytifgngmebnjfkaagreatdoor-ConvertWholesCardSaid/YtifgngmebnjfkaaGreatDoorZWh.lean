/- The card of ConvertWholes: whatever the input, the call returns true and the input reads as it did; the formats hold what the program's text lays. -/
import Derived.Test.YtifgngmebnjfkaaGreatDoorRows
import Ieee.Arith
import Derived.WalkKit
import Derived.WalkSpells
import Derived.WalkLawsBesides
import Derived.BigQuiet
import Derived.Lib.Hide
import Derived.Lib.TrailingZeros
import Derived.Lib.BitFns
import Derived.Lib.Strings
import Derived.Lib.Slices
import Derived.Lib.Small
import Derived.Lib.Walk
import Derived.Deep.OwnRows
import Derived.OwnWalk
import Derived.LoopTactic
import Derived.Outline
import Derived.IntWalk
import Derived.OrdersHeld
import Derived.StillTail
import Derived.Deep.RegionHeld3
import Derived.Maps.AppendAt
import Derived.Deep.DeepCutAuto
import Derived.Deep.QuietTactic
import Derived.Test.YtifgngmebnjfkaaGreatDoorCards
import Derived.Test.YtifgngmebnjfkaaGreatDoorTie
import Derived.ProofKit
import Derived.OpenShut
import Derived.ShutString
import Derived.ChangeOld
import Derived.Below
import Derived.Deep.DeepHandedRow
import Derived.Deep.Strs
import Derived.Lib.LaidTab
import Derived.Test.YtifgngmebnjfkaaGreatDoorZWh4
set_option linter.unusedVariables false
set_option linter.unusedSimpArgs false
section
namespace Go.Proofs.YtifgngmebnjfkaaGreatDoor
open Go.RowKit
def sWD (k : Int) (ng : Bool) (M : Nat) (e mode : Int) : Nat := if k = 2 then 9221120237041090561 else if k = 1 then 9218868437227405312 + (if ng then 9223372036854775808 else 0) else if M = 0 then (if ng then 9223372036854775808 else 0) else gWord 53 (-1074) 1023 9218868437227405311 9218868437227405312 4503599627370496 9223372036854775808 ng M e false mode
def sFD (k : Int) (ng : Bool) (M : Nat) (e mode : Int) : Int := if k = 2 then 0 else if k = 1 then 0 else if M = 0 then 0 else gFlags 53 (-1074) 1023 ng M e false mode
theorem sWD_nan (ng : Bool) (M : Nat) (e mode : Int) : sWD 2 ng M e mode = 9221120237041090561 := if_pos rfl
theorem sWD_inf (ng : Bool) (M : Nat) (e mode : Int) : sWD 1 ng M e mode = 9218868437227405312 + (if ng then 9223372036854775808 else 0) := by unfold sWD; rw [if_neg (show ¬ (1 : Int) = 2 by decide), if_pos rfl]
theorem sWD_zero (ng : Bool) (e mode : Int) : sWD 0 ng 0 e mode = (if ng then 9223372036854775808 else 0) := by unfold sWD; rw [if_neg (show ¬ (0 : Int) = 2 by decide), if_neg (show ¬ (0 : Int) = 1 by decide), if_pos rfl]
theorem sWD_main (ng : Bool) {M : Nat} (h : M ≠ 0) (e mode : Int) : sWD 0 ng M e mode = gWord 53 (-1074) 1023 9218868437227405311 9218868437227405312 4503599627370496 9223372036854775808 ng M e false mode := by unfold sWD; rw [if_neg (show ¬ (0 : Int) = 2 by decide), if_neg (show ¬ (0 : Int) = 1 by decide), if_neg h]
theorem sFD_nan (ng : Bool) (M : Nat) (e mode : Int) : sFD 2 ng M e mode = 0 := if_pos rfl
theorem sFD_inf (ng : Bool) (M : Nat) (e mode : Int) : sFD 1 ng M e mode = 0 := by unfold sFD; rw [if_neg (show ¬ (1 : Int) = 2 by decide), if_pos rfl]
theorem sFD_zero (ng : Bool) (e mode : Int) : sFD 0 ng 0 e mode = 0 := by unfold sFD; rw [if_neg (show ¬ (0 : Int) = 2 by decide), if_neg (show ¬ (0 : Int) = 1 by decide), if_pos rfl]
theorem sFD_main (ng : Bool) {M : Nat} (h : M ≠ 0) (e mode : Int) : sFD 0 ng M e mode = gFlags 53 (-1074) 1023 ng M e false mode := by unfold sFD; rw [if_neg (show ¬ (0 : Int) = 2 by decide), if_neg (show ¬ (0 : Int) = 1 by decide), if_neg h]
set_option maxRecDepth 100000 in
set_option maxHeartbeats 600000 in
theorem RsameD_nan (ng : Bool) (g : Nat) (e mode : Int) (w : World) : Calls Tryz.prog 51 #[fmD, .agg #[.int .i64 2, .bool ng, .pointer (some ⟨g, 0, none⟩), .int .i64 e], .int .i64 mode] w (fun e' w' => e' = .returned (.tuple #[.int .u64 (9221120237041090561), .int .i64 0]) ∧ Within w w') := by
  go_enter Tryz.func51, Tryz.ntmps51
  go_wp2_with fail
  refine (RnoneD _).mono ?_; rintro e1 w1 ⟨rfl, hb1⟩
  go_wp2
  go_ret2
  exact ⟨rfl, (by repeat (first | with_reducible exact Within.refl _ | with_reducible assumption | with_reducible refine Within.alloc ?_ _ | with_reducible refine Within.drew ?_ | with_reducible refine Within.drewN ?_ _ | with_reducible refine Within.setCell ?_ (by first | (simp; done) | (simp; omega)) _ | with_reducible refine Within.trans ?_ (by assumption)))⟩
set_option maxRecDepth 100000 in
set_option maxHeartbeats 600000 in
theorem RsameD_inf0 (g : Nat) (e mode : Int) (w : World) : Calls Tryz.prog 51 #[fmD, .agg #[.int .i64 1, .bool false, .pointer (some ⟨g, 0, none⟩), .int .i64 e], .int .i64 mode] w (fun e' w' => e' = .returned (.tuple #[.int .u64 (9218868437227405312), .int .i64 0]) ∧ Within w w') := by
  go_enter Tryz.func51, Tryz.ntmps51
  go_wp2_with fail
  refine (RinfinityD_0 _).mono ?_; rintro e1 w1 ⟨rfl, hb1⟩
  go_wp2
  go_ret2
  exact ⟨rfl, (by repeat (first | with_reducible exact Within.refl _ | with_reducible assumption | with_reducible refine Within.alloc ?_ _ | with_reducible refine Within.drew ?_ | with_reducible refine Within.drewN ?_ _ | with_reducible refine Within.setCell ?_ (by first | (simp; done) | (simp; omega)) _ | with_reducible refine Within.trans ?_ (by assumption)))⟩
set_option maxRecDepth 100000 in
set_option maxHeartbeats 600000 in
theorem RsameD_zero0 (g : Nat) (e mode : Int) (w : World) (hI : IntB w g 0) : Calls Tryz.prog 51 #[fmD, .agg #[.int .i64 0, .bool false, .pointer (some ⟨g, 0, none⟩), .int .i64 e], .int .i64 mode] w (fun e' w' => e' = .returned (.tuple #[.int .u64 (0), .int .i64 0]) ∧ Within w w') := by
  have IZ := fun (w' : World) (h : IntB w' g 0) => Riszero 0 e 0 false g w' h
  rw [show decide ((0 : Int) = 0 ∧ (0 : Int) = 0) = true from rfl] at IZ
  have HIZ := Lib.hid IZ; clear IZ
  go_enter Tryz.func51, Tryz.ntmps51
  go_wp2_with fail
  refine (HIZ.out _ (by repeat (first | with_reducible assumption | with_reducible exact ib_new _ _ (by simp; done) | with_reducible refine IntB.alloc ?_ _ | with_reducible refine IntB.drewN ?_ _))).mono ?_; rintro e1 w1 ⟨rfl, hb1⟩
  have hc1 := hb1.cells
  go_wp2_with fail
  refine (RnoughtD_0 _).mono ?_; rintro e2 w2 ⟨rfl, hb2⟩
  go_wp2
  go_ret2
  exact ⟨rfl, (by repeat (first | with_reducible exact Within.refl _ | with_reducible assumption | with_reducible refine Within.alloc ?_ _ | with_reducible refine Within.drew ?_ | with_reducible refine Within.drewN ?_ _ | with_reducible refine Within.setCell ?_ (by first | (simp; done) | (simp; omega)) _ | with_reducible refine Within.trans ?_ (by assumption)))⟩
set_option maxRecDepth 100000 in
set_option maxHeartbeats 600000 in
theorem RsameD_inf1 (g : Nat) (e mode : Int) (w : World) : Calls Tryz.prog 51 #[fmD, .agg #[.int .i64 1, .bool true, .pointer (some ⟨g, 0, none⟩), .int .i64 e], .int .i64 mode] w (fun e' w' => e' = .returned (.tuple #[.int .u64 (18442240474082181120), .int .i64 0]) ∧ Within w w') := by
  go_enter Tryz.func51, Tryz.ntmps51
  go_wp2_with fail
  refine (RinfinityD_1 _).mono ?_; rintro e1 w1 ⟨rfl, hb1⟩
  go_wp2
  go_ret2
  exact ⟨rfl, (by repeat (first | with_reducible exact Within.refl _ | with_reducible assumption | with_reducible refine Within.alloc ?_ _ | with_reducible refine Within.drew ?_ | with_reducible refine Within.drewN ?_ _ | with_reducible refine Within.setCell ?_ (by first | (simp; done) | (simp; omega)) _ | with_reducible refine Within.trans ?_ (by assumption)))⟩
set_option maxRecDepth 100000 in
set_option maxHeartbeats 600000 in
theorem RsameD_zero1 (g : Nat) (e mode : Int) (w : World) (hI : IntB w g 0) : Calls Tryz.prog 51 #[fmD, .agg #[.int .i64 0, .bool true, .pointer (some ⟨g, 0, none⟩), .int .i64 e], .int .i64 mode] w (fun e' w' => e' = .returned (.tuple #[.int .u64 (9223372036854775808), .int .i64 0]) ∧ Within w w') := by
  have IZ := fun (w' : World) (h : IntB w' g 0) => Riszero 0 e 0 true g w' h
  rw [show decide ((0 : Int) = 0 ∧ (0 : Int) = 0) = true from rfl] at IZ
  have HIZ := Lib.hid IZ; clear IZ
  go_enter Tryz.func51, Tryz.ntmps51
  go_wp2_with fail
  refine (HIZ.out _ (by repeat (first | with_reducible assumption | with_reducible exact ib_new _ _ (by simp; done) | with_reducible refine IntB.alloc ?_ _ | with_reducible refine IntB.drewN ?_ _))).mono ?_; rintro e1 w1 ⟨rfl, hb1⟩
  have hc1 := hb1.cells
  go_wp2_with fail
  refine (RnoughtD_1 _).mono ?_; rintro e2 w2 ⟨rfl, hb2⟩
  go_wp2
  go_ret2
  exact ⟨rfl, (by repeat (first | with_reducible exact Within.refl _ | with_reducible assumption | with_reducible refine Within.alloc ?_ _ | with_reducible refine Within.drew ?_ | with_reducible refine Within.drewN ?_ _ | with_reducible refine Within.setCell ?_ (by first | (simp; done) | (simp; omega)) _ | with_reducible refine Within.trans ?_ (by assumption)))⟩
set_option maxRecDepth 100000 in
set_option maxHeartbeats 600000 in
theorem RsameD_main (ng : Bool) (g M W : Nat) (e mode F : Int) (hM0 : M ≠ 0) (w : World) (hI : IntB w g (M : Int)) (RR : Hid (∀ w, IntB w g (M : Int) → Calls Tryz.prog 55 #[fmD, .bool ng, .pointer (some ⟨g, 0, none⟩), .int .i64 e, .bool false, .int .i64 mode] w (fun e' w' => e' = .returned (.tuple #[.int .u64 (W : Int), .int .i64 F]) ∧ Within w w'))) : Calls Tryz.prog 51 #[fmD, .agg #[.int .i64 0, .bool ng, .pointer (some ⟨g, 0, none⟩), .int .i64 e], .int .i64 mode] w (fun e' w' => e' = .returned (.tuple #[.int .u64 ((W : Int)), .int .i64 F]) ∧ Within w w') := by
  have IZ := fun (w' : World) (h : IntB w' g (M : Int)) => Riszero 0 e M ng g w' h
  rw [decide_eq_false (fun h => hM0 (by have := h.2; omega))] at IZ
  have HIZ := Lib.hid IZ; clear IZ
  go_enter Tryz.func51, Tryz.ntmps51
  go_wp2_with fail
  refine (HIZ.out _ (by repeat (first | with_reducible assumption | with_reducible exact ib_new _ _ (by simp; done) | with_reducible refine IntB.alloc ?_ _ | with_reducible refine IntB.drewN ?_ _))).mono ?_; rintro e1 w1 ⟨rfl, hb1⟩
  have hc1 := hb1.cells
  have hI1 : IntB w1 g (M : Int) := ((hI.alloc _).alloc _).of hb1
  go_wp2_with fail
  refine (RR.out _ hI1).mono ?_; rintro e2 w2 ⟨rfl, hb2⟩
  go_wp2
  go_ret2
  exact ⟨rfl, (by repeat (first | with_reducible exact Within.refl _ | with_reducible assumption | with_reducible refine Within.alloc ?_ _ | with_reducible refine Within.drew ?_ | with_reducible refine Within.drewN ?_ _ | with_reducible refine Within.setCell ?_ (by first | (simp; done) | (simp; omega)) _ | with_reducible refine Within.trans ?_ (by assumption)))⟩
theorem RsameD (k : Int) (ng : Bool) (g M : Nat) (e mode : Int) (hk : k = 0 ∨ k = 1 ∨ k = 2) (he : -50000 ≤ e ∧ e ≤ 50000) (hM : (dg M).length ≤ 900) (w : World) (hI : IntB w g (M : Int)) : Calls Tryz.prog 51 #[fmD, .agg #[.int .i64 k, .bool ng, .pointer (some ⟨g, 0, none⟩), .int .i64 e], .int .i64 mode] w (fun e' w' => e' = .returned (.tuple #[.int .u64 ((sWD k ng M e mode : Int)), .int .i64 (sFD k ng M e mode)]) ∧ Within w w') := by
  rcases hk with rfl | rfl | rfl
  · by_cases h : M = 0
    · subst h
      rw [sWD_zero, sFD_zero]
      cases ng
      · exact RsameD_zero0 g e mode w hI
      · exact RsameD_zero1 g e mode w hI
    · rw [sWD_main ng h, sFD_main ng h]
      exact RsameD_main ng g M _ e mode _ h w hI (Lib.hid fun w' hI' => RroundD ng false g M e mode he hM h w' hI')
  · rw [sWD_inf, sFD_inf]
    cases ng
    · exact RsameD_inf0 g e mode w
    · exact RsameD_inf1 g e mode w
  · rw [sWD_nan, sFD_nan]
    exact RsameD_nan ng g e mode w
end Go.Proofs.YtifgngmebnjfkaaGreatDoor
end

section
namespace Go.Proofs.YtifgngmebnjfkaaGreatDoor
theorem upB_cut (ng : Bool) (M s : Nat) (mode : Int) (hs : 1 ≤ s) : upB ng (M / 2 ^ s) (cutC M s false) mode = goes M s ng mode := by
  have hh := half_pow s hs
  unfold goes cutC
  by_cases h0 : M % 2 ^ s = 0
  · rw [if_pos h0, if_pos ⟨h0, rfl⟩]
    unfold upB
    repeat' split
    all_goals simp
  · rw [if_neg h0, if_neg (fun h => h0 h.1), if_neg (fun h => by simp at h)]
    generalize M % 2 ^ s = r at *
    generalize M / 2 ^ s = q at *
    generalize 2 ^ (s - 1) = H at *
    generalize 2 ^ s = Z at *
    subst hh
    unfold upB
    have c1 : (0 < cmpN r H) ↔ 2 * H < 2 * r := by unfold cmpN; repeat' split
                                                   all_goals omega
    have c2 : (cmpN r H = 0) ↔ 2 * H = 2 * r := by unfold cmpN; repeat' split
                                                   all_goals omega
    have c3 : (0 ≤ cmpN r H) ↔ 2 * H ≤ 2 * r := by unfold cmpN; repeat' split
                                                   all_goals omega
    have c4 : -2 < cmpN r H := by have := cmpN_range r H; omega
    by_cases m0 : mode = 0
    · rw [if_pos m0, if_pos m0, decide_eq_decide.2 c1, decide_eq_decide.2 c2]
    rw [if_neg m0, if_neg m0]
    by_cases m1 : mode = 1
    · rw [if_pos m1, if_pos m1, decide_eq_decide.2 c3]
    rw [if_neg m1, if_neg m1]
    by_cases m3 : mode = 3
    · rw [if_pos m3, if_pos m3, decide_eq_true c4, Bool.and_true]
    rw [if_neg m3, if_neg m3]
    by_cases m4 : mode = 4
    · rw [if_pos m4, if_pos m4, decide_eq_true c4, Bool.and_true]
    rw [if_neg m4, if_neg m4]
theorem upB_exact (ng : Bool) (q : Nat) (mode : Int) : upB ng q (-2) mode = false := by
  unfold upB
  repeat' split
  all_goals simp
theorem grid_rung (f : Ieee.Format) (F q j : Nat) (hF : f.fractionBits = F) (h : q ≤ 2 ^ (F + 1)) (h2 : 2 ^ F ≤ q ∨ j = 0) : Fp.grid f (q * 2 ^ j) 0 = j * 2 ^ F + q := by
  have hb : f.binade = 2 ^ F := by show 2 ^ f.fractionBits = _; rw [hF]
  unfold Fp.grid
  rw [hb, hF]
  by_cases h0 : q = 0
  · subst h0
    rcases h2 with h2 | h2
    · have := Nat.two_pow_pos F; omega
    · subst h2; simp [Fp.rne]
  rw [Fp.log2_mul_pow q j h0]
  by_cases hq : q < 2 ^ F
  · have hj : j = 0 := by rcases h2 with h2 | h2 <;> omega
    have hl : q.log2 < F := (Nat.log2_lt h0).2 hq
    subst hj
    rw [show max (q.log2 + 0 - F) 0 = 0 by omega]
    rw [Nat.pow_zero, Nat.mul_one, Fp.rne_one]; all_goals simp
  · by_cases hq2 : q < 2 ^ (F + 1)
    · have hl : q.log2 = F := (Nat.log2_eq_iff h0).2 ⟨by omega, hq2⟩
      rw [hl, show max (F + j - F) 0 = j by omega, Fp.rne_mul q _ (Nat.two_pow_pos j)]; all_goals simp
    · have hqe : q = 2 ^ (F + 1) := by omega
      subst hqe
      rw [Nat.log2_two_pow, show max (F + 1 + j - F) 0 = j + 1 by omega]
      have e : 2 ^ (F + 1) * 2 ^ j = 2 ^ F * 2 ^ (j + 1) := by rw [← Nat.pow_add, ← Nat.pow_add]; congr 1; omega
      rw [e, Fp.rne_mul _ _ (Nat.two_pow_pos _), Nat.pow_succ]
      rw [Nat.sub_zero, Nat.add_mul]; omega
end Go.Proofs.YtifgngmebnjfkaaGreatDoor
end

section
namespace Go.Proofs.YtifgngmebnjfkaaGreatDoor
open Go.RowKit
set_option maxRecDepth 100000 in
set_option maxHeartbeats 600000 in
theorem Bint64_neg (x : Nat) (v : Int) (h : v < 0) (h1 : -9223372036854775808 ≤ v) (h2 : v ≤ 9223372036854775807) (w : World) (hx : IntB w x v) : Calls Tryz.prog 65 #[.pointer (some ⟨x, 0, none⟩)] w (fun e w' => e = .returned (.int .i64 v) ∧ w = w') := by
  have h64 : (2 : Nat) ^ (32 * 2) = 18446744073709551616 := by decide
  have hlen : (dg v.natAbs).length ≤ 1000000 := Nat.le_trans (dg_small (k := 2) (by omega)) (by decide)
  clear h64
  have UI := Lib.hid (fun w' (hx' : IntB w' x v) => Buint64 x v hlen w' hx')
  clear hlen
  have g1 : IntKind.u64.wrap (-((v.natAbs % 18446744073709551616 : Nat) : Int)) = v + 18446744073709551616 := by rw [IntKind.wrap_u64]; omega
  have g2 : IntKind.i64.wrap (v + 18446744073709551616) = v := by rw [IntKind.wrap_i64]; omega
  have hneg : (decide (v < 0)) = true := decide_eq_true h
  obtain ⟨A, c, c0, c1, _⟩ := hx.rd
  rw [hneg] at c0
  generalize hu : ((v.natAbs % 18446744073709551616 : Nat) : Int) = u at *
  have HX := Lib.hid hx; clear hx c1 h h1 h2 hneg hu
  go_enter Tryz.func65, Tryz.ntmps65
  go_wp2_with fail
  refine (UI.out _ HX.out).mono ?_; rintro e1 w1 ⟨rfl, rfl⟩
  go_wp2
  go_ret
  exact ⟨rfl, rfl⟩
set_option maxRecDepth 100000 in
set_option maxHeartbeats 600000 in
theorem Bint64_pos (x : Nat) (v : Int) (h : 0 ≤ v) (h1 : -9223372036854775808 ≤ v) (h2 : v ≤ 9223372036854775807) (w : World) (hx : IntB w x v) : Calls Tryz.prog 65 #[.pointer (some ⟨x, 0, none⟩)] w (fun e w' => e = .returned (.int .i64 v) ∧ w = w') := by
  have h64 : (2 : Nat) ^ (32 * 2) = 18446744073709551616 := by decide
  have hlen : (dg v.natAbs).length ≤ 1000000 := Nat.le_trans (dg_small (k := 2) (by omega)) (by decide)
  clear h64
  have UI := Lib.hid (fun w' (hx' : IntB w' x v) => Buint64 x v hlen w' hx')
  clear hlen
  have g2 : IntKind.i64.wrap ((v.natAbs % 18446744073709551616 : Nat) : Int) = v := by rw [IntKind.wrap_i64]; omega
  have hneg : (decide (v < 0)) = false := decide_eq_false (by omega)
  obtain ⟨A, c, c0, c1, _⟩ := hx.rd
  rw [hneg] at c0
  generalize hu : ((v.natAbs % 18446744073709551616 : Nat) : Int) = u at *
  have HX := Lib.hid hx; clear hx c1 h h1 h2 hneg hu
  go_enter Tryz.func65, Tryz.ntmps65
  go_wp2_with fail
  refine (UI.out _ HX.out).mono ?_; rintro e1 w1 ⟨rfl, rfl⟩
  go_wp2
  go_ret
  exact ⟨rfl, rfl⟩
theorem Bint64 (x : Nat) (v : Int) (h1 : -9223372036854775808 ≤ v) (h2 : v ≤ 9223372036854775807) (w : World) (hx : IntB w x v) : Calls Tryz.prog 65 #[.pointer (some ⟨x, 0, none⟩)] w (fun e w' => e = .returned (.int .i64 v) ∧ w = w') := by
  rcases Int.lt_or_le v 0 with h | h
  · exact Bint64_neg x v h h1 h2 w hx
  · exact Bint64_pos x v h h1 h2 w hx
def WhI (W : World) (Q : Nat) (L : Bool) (e : Ending) (w' : World) : Prop := ∃ g, e = .returned (.tuple #[.pointer (some ⟨g, 0, none⟩), .bool L]) ∧ IntB w' g (Q : Int) ∧ W.heap.size ≤ g ∧ Within W w'
set_option maxRecDepth 100000 in
set_option maxHeartbeats 600000 in
theorem Rwhole_up (g M d : Nat) (b : Bool) (mode : Int) (hd : d ≤ 16000) (hM : (dg M).length ≤ 900) (w : World) (hI : IntB w g (M : Int)) : Calls Tryz.prog 52 #[.agg #[.int .i64 0, .bool b, .pointer (some ⟨g, 0, none⟩), .int .i64 (d : Int)], .int .i64 mode] w (WhI w (M * 2 ^ d) false) := by
  have SH := Lib.hid (fun (z : Nat) (w' : World) (hz : IntTy w' z) (hx : IntB w' g (M : Int)) => Blsh z g d (M : Int) (Nat.le_trans hM (by decide)) (by omega) w' hz hx)
  obtain ⟨Q, hQ⟩ : ∃ Q : Nat, Q = M * 2 ^ d := ⟨_, rfl⟩
  have hQ2 : (M : Int) * 2 ^ d = (Q : Int) := by rw [hQ]; simp
  rw [hQ2] at SH
  rw [← hQ]
  have hge : decide ((d : Int) ≥ 0) = true := decide_eq_true (by omega)
  have hwu : IntKind.u64.wrap (d : Int) = (d : Int) := IntWalk.u64_in _ ⟨by omega, by omega⟩
  clear hQ hQ2 hd hM
  go_enter Tryz.func52, Tryz.ntmps52
  go_wp2_with fail
  refine (SH.out _ _ (by repeat (first | with_reducible assumption | with_reducible exact ty_new _ _ _ _ (by simp; done) | with_reducible refine ty_drew ?_ | with_reducible refine ty_alloc ?_ _)) (by repeat (first | with_reducible assumption | with_reducible exact ib_new _ _ (by simp; done) | with_reducible refine IntB.alloc ?_ _ | with_reducible refine IntB.drew ?_ | with_reducible refine IntB.drewN ?_ _))).mono ?_; rintro e1 w1 ⟨rfl, hI1, hG1⟩
  have hb1 : Within w w1 := Within.grown (by repeat (first | with_reducible exact Within.refl _ | with_reducible assumption | with_reducible refine Within.alloc ?_ _ | with_reducible refine Within.drew ?_ | with_reducible refine Within.drewN ?_ _ | with_reducible refine Within.setCell ?_ (by first | (simp; done) | (simp; omega)) _ | with_reducible refine Within.trans ?_ (by assumption))) hG1 (by simp)
  clear hG1
  have hJ := hI1
  go_wp2
  go_ret2
  exact ⟨_, rfl, hJ, by simp, hb1⟩
set_option maxRecDepth 100000 in
set_option maxHeartbeats 600000 in
theorem Rwhole_cut0 (g M s Q : Nat) (b : Bool) (E c mode : Int) (L : Bool) (hE : decide (E ≥ 0) = false) (hn : IntKind.i64.wrap (-E) = (s : Int)) (hL : decide (c > -2) = L) (hQ : (dg Q).length ≤ 1000) (CU : Hid (∀ w, IntB w g (M : Int) → Calls Tryz.prog 91 #[.pointer (some ⟨g, 0, none⟩), .int .i64 (s : Int), .bool false] w (CutI w Q c))) (GO : Hid (∀ w q, IntB w q (Q : Int) → Calls Tryz.prog 92 #[.bool b, .pointer (some ⟨q, 0, none⟩), .int .i64 c, .int .i64 mode] w (fun e w' => e = .returned (.bool false) ∧ Within w w'))) (w : World) (hI : IntB w g (M : Int)) : Calls Tryz.prog 52 #[.agg #[.int .i64 0, .bool b, .pointer (some ⟨g, 0, none⟩), .int .i64 E], .int .i64 mode] w (WhI w Q L) := by
  have LQ := Lib.hid hQ; clear hQ
  have L1 := Lib.hid (show (dg (1 : Int).natAbs).length ≤ 1000000 from Nat.le_trans (dg_small (k := 1) (by decide)) (by decide))
  go_enter Tryz.func52, Tryz.ntmps52
  go_wp2_with fail
  refine (CU.out _ (by repeat (first | with_reducible assumption | with_reducible exact ib_new _ _ (by simp; done) | with_reducible refine IntB.alloc ?_ _ | with_reducible refine IntB.drew ?_ | with_reducible refine IntB.drewN ?_ _))).mono ?_; rintro e1 w1 ⟨q, rfl, hI1, hq1, hb1⟩
  have r1 : w1.cell? ⟨w.heap.size, 1, none⟩ = some (.bool b) := (hb1.cells _ _ (by simp)).trans (by go_simp)
  have r0 : w.heap.size < w1.heap.size := World.block_lt_of_cell? w1 _ r1
  have hww : Within w w1 := ((Within.refl w).alloc _).trans hb1
  have hqq : w.heap.size ≤ q := Nat.le_trans (by simp) hq1
  clear hb1 hq1
  go_wp2_with fail
  refine (GO.out _ _ hI1).mono ?_; rintro e2 w2 ⟨rfl, hb2⟩
  have hI2 := hI1.of hb2
  have hw2 := hww.trans hb2
  go_wp2
  go_ret2
  exact ⟨_, rfl, hI2, hqq, hw2⟩
set_option maxRecDepth 100000 in
set_option maxHeartbeats 600000 in
theorem Rwhole_cut1 (g M s Q : Nat) (b : Bool) (E c mode : Int) (L : Bool) (hE : decide (E ≥ 0) = false) (hn : IntKind.i64.wrap (-E) = (s : Int)) (hL : decide (c > -2) = L) (hQ : (dg Q).length ≤ 1000) (CU : Hid (∀ w, IntB w g (M : Int) → Calls Tryz.prog 91 #[.pointer (some ⟨g, 0, none⟩), .int .i64 (s : Int), .bool false] w (CutI w Q c))) (GO : Hid (∀ w q, IntB w q (Q : Int) → Calls Tryz.prog 92 #[.bool b, .pointer (some ⟨q, 0, none⟩), .int .i64 c, .int .i64 mode] w (fun e w' => e = .returned (.bool true) ∧ Within w w'))) (w : World) (hI : IntB w g (M : Int)) : Calls Tryz.prog 52 #[.agg #[.int .i64 0, .bool b, .pointer (some ⟨g, 0, none⟩), .int .i64 E], .int .i64 mode] w (WhI w (Q + 1) L) := by
  have LQ := Lib.hid hQ; clear hQ
  have L1 := Lib.hid (show (dg (1 : Int).natAbs).length ≤ 1000000 from Nat.le_trans (dg_small (k := 1) (by decide)) (by decide))
  go_enter Tryz.func52, Tryz.ntmps52
  go_wp2_with fail
  refine (CU.out _ (by repeat (first | with_reducible assumption | with_reducible exact ib_new _ _ (by simp; done) | with_reducible refine IntB.alloc ?_ _ | with_reducible refine IntB.drew ?_ | with_reducible refine IntB.drewN ?_ _))).mono ?_; rintro e1 w1 ⟨q, rfl, hI1, hq1, hb1⟩
  have r1 : w1.cell? ⟨w.heap.size, 1, none⟩ = some (.bool b) := (hb1.cells _ _ (by simp)).trans (by go_simp)
  have r0 : w.heap.size < w1.heap.size := World.block_lt_of_cell? w1 _ r1
  have hww : Within w w1 := ((Within.refl w).alloc _).trans hb1
  have hqq : w.heap.size ≤ q := Nat.le_trans (by simp) hq1
  clear hb1 hq1
  go_wp2_with fail
  refine (GO.out _ _ hI1).mono ?_; rintro e2 w2 ⟨rfl, hb2⟩
  have hI2 := hI1.of hb2
  have hw2 := hww.trans hb2
  go_wp2_with fail
  refine (BnewInt 1 (by decide) (by decide) _).mono ?_; rintro e3 w3 ⟨g1, rfl, hI3, hg3, hb3⟩
  have hI2 := hI2.of hb3
  have hw3 := hw2.trans hb3
  have hty := hI2.ty
  go_wp2_with fail
  refine (BAdd q q g1 (Q : Int) 1 (by rw [Int.natAbs_natCast]; exact Nat.le_trans LQ.out (by decide)) L1.out _ hty hI2 hI3).mono ?_; rintro e4 w4 ⟨rfl, hI4, hG4⟩
  have hw4 : Within w w4 := Within.grown hw3 hG4 hqq
  clear hG4
  have hI4' : IntB w4 q ((Q + 1 : Nat) : Int) := by rw [Int.natCast_add]; exact hI4
  clear hI4
  go_wp2
  go_ret2
  exact ⟨_, rfl, hI4', hqq, hw4⟩
def wAmt (M : Nat) (E : Int) (b : Bool) (mode : Int) : Nat := if 0 ≤ E then M * 2 ^ E.toNat else cutQ M (-E).toNat b mode
def wLost (M : Nat) (E : Int) : Bool := decide (¬ 0 ≤ E ∧ M % 2 ^ (-E).toNat ≠ 0)
theorem cutC_lost (M s : Nat) (hs : 1 ≤ s) : decide (cutC M s false > -2) = decide (M % 2 ^ s ≠ 0) := by
  unfold cutC
  by_cases h : M % 2 ^ s = 0
  · rw [if_pos ⟨h, rfl⟩, decide_eq_false (show ¬ ((-2 : Int) > -2) by decide), decide_eq_false (fun g => g h)]
  · rw [if_neg (fun g => h g.1), if_neg (fun g => absurd g.2 (by decide)), decide_eq_true (show M % 2 ^ s ≠ 0 from h), decide_eq_true]
    have := (cmpN_range (M % 2 ^ s) (2 ^ (s - 1))).1
    omega
theorem Rwhole (g M : Nat) (b : Bool) (E mode : Int) (hE : -5000 ≤ E ∧ E ≤ 5000) (hM : (dg M).length ≤ 400) (w : World) (hI : IntB w g (M : Int)) : Calls Tryz.prog 52 #[.agg #[.int .i64 0, .bool b, .pointer (some ⟨g, 0, none⟩), .int .i64 E], .int .i64 mode] w (WhI w (wAmt M E b mode) (wLost M E)) := by
  unfold wAmt wLost
  by_cases h : 0 ≤ E
  · rw [if_pos h, decide_eq_false (fun g => g.1 h)]
    obtain ⟨d, rfl⟩ := Int.eq_ofNat_of_zero_le h
    exact Rwhole_up g M d b mode (by omega) (Nat.le_trans hM (by decide)) w hI
  · rw [if_neg h]
    obtain ⟨s, hs⟩ : ∃ s, s = (-E).toNat := ⟨_, rfl⟩
    have hL : decide (¬ 0 ≤ E ∧ M % 2 ^ (-E).toNat ≠ 0) = decide (M % 2 ^ s ≠ 0) := by rw [hs]; exact decide_eq_decide.2 ⟨fun g => g.2, fun g => ⟨h, g⟩⟩
    rw [hL, ← hs, ← cutC_lost M s (by omega)]
    have hq : (dg (M / 2 ^ s)).length ≤ 1000 := Nat.le_trans (dg_len_mono (Nat.div_le_self _ _)) (Nat.le_trans hM (by decide))
    have CU := Lib.hid (fun (w : World) (hI : IntB w g (M : Int)) => Rcut g M s false (by omega) (by omega) (Nat.le_trans hM (by decide)) w hI)
    have GO := Lib.hid (fun (w : World) (q : Nat) (hI : IntB w q ((M / 2 ^ s : Nat) : Int)) => Rgoes b q (M / 2 ^ s) (cutC M s false) mode (cutC_range M s false) (Nat.le_trans hq (by decide)) w hI)
    have hn : IntKind.i64.wrap (-E) = (s : Int) := by rw [show -E = (s : Int) by omega]; exact IntWalk.i64_in _ ⟨by omega, by omega⟩
    unfold cutQ
    rw [upB_cut b M s mode (by omega)] at GO
    cases hg : goes M s b mode
    · rw [hg] at GO
      exact Rwhole_cut0 g M s _ b E _ mode _ (decide_eq_false (by omega)) hn rfl hq CU GO w hI
    · rw [hg] at GO
      exact Rwhole_cut1 g M s _ b E _ mode _ (decide_eq_false (by omega)) hn rfl hq CU GO w hI
def InI (W : World) (V F : Int) (e : Ending) (w' : World) : Prop := ∃ g, e = .returned (.tuple #[.pointer (some ⟨g, 0, none⟩), .int .i64 F]) ∧ IntB w' g V ∧ Within W w'
set_option maxRecDepth 100000 in
set_option maxHeartbeats 600000 in
theorem Rwithin_nan (x M gl gh : Nat) (E mode lo hi : Int) (b : Bool) (TK : Hid (∀ w, Calls Tryz.prog 49 #[fmD, .int .u64 (x : Int)] w (fun e w' => ∃ g, e = .returned (.agg #[.int .i64 2, .bool b, .pointer (some ⟨g, 0, none⟩), .int .i64 E]) ∧ IntB w' g (M : Int) ∧ w.heap.size ≤ g ∧ Within w w'))) (w : World) (hl : IntB w gl lo) (hh : IntB w gh hi) : Calls Tryz.prog 62 #[.int .u64 (x : Int), .pointer (some ⟨gl, 0, none⟩), .pointer (some ⟨gh, 0, none⟩), .int .i64 mode] w (InI w 0 8) := by
  go_enter Tryz.func62, Tryz.ntmps62
  go_wp2_with fail
  refine (RDouble _).mono ?_; rintro e1 w1 ⟨rfl, hb1⟩
  go_wp2_with fail
  refine (TK.out _).mono ?_; rintro e2 w2 ⟨g, rfl, hI2, hg2, hb2'⟩
  have hb2 := hb1.trans hb2'
  have hl2 := hl.of hb2; have hh2 := hh.of hb2
  go_wp2
  go_ret2
  exact ⟨_, rfl, (by repeat (first | with_reducible assumption | with_reducible exact ib_new _ _ (by simp; done) | with_reducible refine IntB.alloc ?_ _ | with_reducible refine IntB.drew ?_ | with_reducible refine IntB.drewN ?_ _)), (by repeat (first | with_reducible exact Within.refl _ | with_reducible assumption | with_reducible refine Within.alloc ?_ _ | with_reducible refine Within.drew ?_ | with_reducible refine Within.drewN ?_ _ | with_reducible refine Within.setCell ?_ (by first | (simp; done) | (simp; omega)) _ | with_reducible refine Within.trans ?_ (by assumption)))⟩
set_option maxRecDepth 100000 in
set_option maxHeartbeats 600000 in
theorem Rwithin_inf1 (x M gl gh : Nat) (E mode lo hi : Int) (TK : Hid (∀ w, Calls Tryz.prog 49 #[fmD, .int .u64 (x : Int)] w (fun e w' => ∃ g, e = .returned (.agg #[.int .i64 1, .bool true, .pointer (some ⟨g, 0, none⟩), .int .i64 E]) ∧ IntB w' g (M : Int) ∧ w.heap.size ≤ g ∧ Within w w'))) (w : World) (hl : IntB w gl lo) (hh : IntB w gh hi) : Calls Tryz.prog 62 #[.int .u64 (x : Int), .pointer (some ⟨gl, 0, none⟩), .pointer (some ⟨gh, 0, none⟩), .int .i64 mode] w (InI w lo 8) := by
  go_enter Tryz.func62, Tryz.ntmps62
  go_wp2_with fail
  refine (RDouble _).mono ?_; rintro e1 w1 ⟨rfl, hb1⟩
  go_wp2_with fail
  refine (TK.out _).mono ?_; rintro e2 w2 ⟨g, rfl, hI2, hg2, hb2'⟩
  have hb2 := hb1.trans hb2'
  have hl2 := hl.of hb2; have hh2 := hh.of hb2
  go_wp2
  go_ret2
  exact ⟨_, rfl, (by repeat (first | with_reducible assumption | with_reducible exact ib_new _ _ (by simp; done) | with_reducible refine IntB.alloc ?_ _ | with_reducible refine IntB.drew ?_ | with_reducible refine IntB.drewN ?_ _)), (by repeat (first | with_reducible exact Within.refl _ | with_reducible assumption | with_reducible refine Within.alloc ?_ _ | with_reducible refine Within.drew ?_ | with_reducible refine Within.drewN ?_ _ | with_reducible refine Within.setCell ?_ (by first | (simp; done) | (simp; omega)) _ | with_reducible refine Within.trans ?_ (by assumption)))⟩
set_option maxRecDepth 100000 in
set_option maxHeartbeats 600000 in
theorem Rwithin_inf0 (x M gl gh : Nat) (E mode lo hi : Int) (TK : Hid (∀ w, Calls Tryz.prog 49 #[fmD, .int .u64 (x : Int)] w (fun e w' => ∃ g, e = .returned (.agg #[.int .i64 1, .bool false, .pointer (some ⟨g, 0, none⟩), .int .i64 E]) ∧ IntB w' g (M : Int) ∧ w.heap.size ≤ g ∧ Within w w'))) (w : World) (hl : IntB w gl lo) (hh : IntB w gh hi) : Calls Tryz.prog 62 #[.int .u64 (x : Int), .pointer (some ⟨gl, 0, none⟩), .pointer (some ⟨gh, 0, none⟩), .int .i64 mode] w (InI w hi 8) := by
  go_enter Tryz.func62, Tryz.ntmps62
  go_wp2_with fail
  refine (RDouble _).mono ?_; rintro e1 w1 ⟨rfl, hb1⟩
  go_wp2_with fail
  refine (TK.out _).mono ?_; rintro e2 w2 ⟨g, rfl, hI2, hg2, hb2'⟩
  have hb2 := hb1.trans hb2'
  have hl2 := hl.of hb2; have hh2 := hh.of hb2
  go_wp2
  go_ret2
  exact ⟨_, rfl, (by repeat (first | with_reducible assumption | with_reducible exact ib_new _ _ (by simp; done) | with_reducible refine IntB.alloc ?_ _ | with_reducible refine IntB.drew ?_ | with_reducible refine IntB.drewN ?_ _)), (by repeat (first | with_reducible exact Within.refl _ | with_reducible assumption | with_reducible refine Within.alloc ?_ _ | with_reducible refine Within.drew ?_ | with_reducible refine Within.drewN ?_ _ | with_reducible refine Within.setCell ?_ (by first | (simp; done) | (simp; omega)) _ | with_reducible refine Within.trans ?_ (by assumption)))⟩
set_option maxRecDepth 100000 in
set_option maxHeartbeats 600000 in
theorem Rwithin_low0 (x M gl gh : Nat) (E mode lo hi : Int) (Q : Nat) (L : Bool) (hQ : (dg Q).length ≤ 1000000) (hlo : (dg lo.natAbs).length ≤ 1000000) (hhi : (dg hi.natAbs).length ≤ 1000000) (d1 : decide (cmpI (Q : Int) lo < 0) = true) (TK : Hid (∀ w, Calls Tryz.prog 49 #[fmD, .int .u64 (x : Int)] w (fun e w' => ∃ g, e = .returned (.agg #[.int .i64 0, .bool false, .pointer (some ⟨g, 0, none⟩), .int .i64 E]) ∧ IntB w' g (M : Int) ∧ w.heap.size ≤ g ∧ Within w w'))) (WHH : Hid (∀ w g, IntB w g (M : Int) → Calls Tryz.prog 52 #[.agg #[.int .i64 0, .bool false, .pointer (some ⟨g, 0, none⟩), .int .i64 E], .int .i64 mode] w (WhI w Q L))) (w : World) (hl : IntB w gl lo) (hh : IntB w gh hi) : Calls Tryz.prog 62 #[.int .u64 (x : Int), .pointer (some ⟨gl, 0, none⟩), .pointer (some ⟨gh, 0, none⟩), .int .i64 mode] w (InI w hi 8) := by
  have LQ := Lib.hid hQ; have LL := Lib.hid hlo; have LH := Lib.hid hhi; clear hQ hlo hhi
  go_enter Tryz.func62, Tryz.ntmps62
  go_wp2_with fail
  refine (RDouble _).mono ?_; rintro e1 w1 ⟨rfl, hb1⟩
  go_wp2_with fail
  refine (TK.out _).mono ?_; rintro e2 w2 ⟨g, rfl, hI2, hg2, hb2'⟩
  have hb2 := hb1.trans hb2'
  have hl2 := hl.of hb2; have hh2 := hh.of hb2
  have hs2 := hb2.sizes
  go_wp2_with fail
  refine (WHH.out _ _ (by repeat (first | with_reducible assumption | with_reducible exact ib_new _ _ (by simp; done) | with_reducible refine IntB.alloc ?_ _ | with_reducible refine IntB.drew ?_ | with_reducible refine IntB.drewN ?_ _))).mono ?_; rintro e3 w3 ⟨q, rfl, hI3, hq3, hb3⟩
  have r1 : w3.cell? ⟨w2.heap.size, 1, none⟩ = some (.bool false) := (hb3.cells _ _ (by simp)).trans (by go_simp)
  have r0 : w2.heap.size < w3.heap.size := World.block_lt_of_cell? w3 _ r1
  have hw3 : Within w2 w3 := Within.trans (by repeat (first | with_reducible exact Within.refl _ | with_reducible refine Within.alloc ?_ _ | with_reducible refine Within.setCell ?_ (by first | (simp; done) | (simp; omega)) _)) hb3
  have hqq : w2.heap.size < q := Nat.lt_of_lt_of_le (by simp) hq3
  clear hb3 hq3
  have hl3 := hl2.of hw3; have hh3 := hh2.of hw3
  have hw3' := hb2.trans hw3
  go_wp2_with fail
  refine (Bcmp q gl (Q : Int) lo (by rw [Int.natAbs_natCast]; exact LQ.out) LL.out _ hI3 hl3).mono ?_; rintro e5 w5 ⟨rfl, hb5⟩
  have hI5 := hI3.of hb5; have hh5 := hh3.of hb5; have hl5 := hl3.of hb5; have hw5 := hw3'.trans hb5
  go_wp2
  go_ret2
  exact ⟨_, rfl, hh5, hw5⟩
set_option maxRecDepth 100000 in
set_option maxHeartbeats 600000 in
theorem Rwithin_high0 (x M gl gh : Nat) (E mode lo hi : Int) (Q : Nat) (L : Bool) (hQ : (dg Q).length ≤ 1000000) (hlo : (dg lo.natAbs).length ≤ 1000000) (hhi : (dg hi.natAbs).length ≤ 1000000) (d1 : decide (cmpI (Q : Int) lo < 0) = false) (d2 : decide (cmpI (Q : Int) hi > 0) = true) (TK : Hid (∀ w, Calls Tryz.prog 49 #[fmD, .int .u64 (x : Int)] w (fun e w' => ∃ g, e = .returned (.agg #[.int .i64 0, .bool false, .pointer (some ⟨g, 0, none⟩), .int .i64 E]) ∧ IntB w' g (M : Int) ∧ w.heap.size ≤ g ∧ Within w w'))) (WHH : Hid (∀ w g, IntB w g (M : Int) → Calls Tryz.prog 52 #[.agg #[.int .i64 0, .bool false, .pointer (some ⟨g, 0, none⟩), .int .i64 E], .int .i64 mode] w (WhI w Q L))) (w : World) (hl : IntB w gl lo) (hh : IntB w gh hi) : Calls Tryz.prog 62 #[.int .u64 (x : Int), .pointer (some ⟨gl, 0, none⟩), .pointer (some ⟨gh, 0, none⟩), .int .i64 mode] w (InI w hi 8) := by
  have LQ := Lib.hid hQ; have LL := Lib.hid hlo; have LH := Lib.hid hhi; clear hQ hlo hhi
  go_enter Tryz.func62, Tryz.ntmps62
  go_wp2_with fail
  refine (RDouble _).mono ?_; rintro e1 w1 ⟨rfl, hb1⟩
  go_wp2_with fail
  refine (TK.out _).mono ?_; rintro e2 w2 ⟨g, rfl, hI2, hg2, hb2'⟩
  have hb2 := hb1.trans hb2'
  have hl2 := hl.of hb2; have hh2 := hh.of hb2
  have hs2 := hb2.sizes
  go_wp2_with fail
  refine (WHH.out _ _ (by repeat (first | with_reducible assumption | with_reducible exact ib_new _ _ (by simp; done) | with_reducible refine IntB.alloc ?_ _ | with_reducible refine IntB.drew ?_ | with_reducible refine IntB.drewN ?_ _))).mono ?_; rintro e3 w3 ⟨q, rfl, hI3, hq3, hb3⟩
  have r1 : w3.cell? ⟨w2.heap.size, 1, none⟩ = some (.bool false) := (hb3.cells _ _ (by simp)).trans (by go_simp)
  have r0 : w2.heap.size < w3.heap.size := World.block_lt_of_cell? w3 _ r1
  have hw3 : Within w2 w3 := Within.trans (by repeat (first | with_reducible exact Within.refl _ | with_reducible refine Within.alloc ?_ _ | with_reducible refine Within.setCell ?_ (by first | (simp; done) | (simp; omega)) _)) hb3
  have hqq : w2.heap.size < q := Nat.lt_of_lt_of_le (by simp) hq3
  clear hb3 hq3
  have hl3 := hl2.of hw3; have hh3 := hh2.of hw3
  have hw3' := hb2.trans hw3
  go_wp2_with fail
  refine (Bcmp q gl (Q : Int) lo (by rw [Int.natAbs_natCast]; exact LQ.out) LL.out _ hI3 hl3).mono ?_; rintro e5 w5 ⟨rfl, hb5⟩
  have hI5 := hI3.of hb5; have hh5 := hh3.of hb5; have hl5 := hl3.of hb5; have hw5 := hw3'.trans hb5
  go_wp2_with fail
  refine (Bcmp q gh (Q : Int) hi (by rw [Int.natAbs_natCast]; exact LQ.out) LH.out _ hI5 hh5).mono ?_; rintro e6 w6 ⟨rfl, hb6⟩
  have hI6 := hI5.of hb6; have hh6 := hh5.of hb6; have hl6 := hl5.of hb6; have hw6 := hw5.trans hb6
  go_wp2
  go_ret2
  exact ⟨_, rfl, hh6, hw6⟩
set_option maxRecDepth 100000 in
set_option maxHeartbeats 600000 in
theorem Rwithin_in0 (x M gl gh : Nat) (E mode lo hi : Int) (Q : Nat) (L : Bool) (hQ : (dg Q).length ≤ 1000000) (hlo : (dg lo.natAbs).length ≤ 1000000) (hhi : (dg hi.natAbs).length ≤ 1000000) (d1 : decide (cmpI (Q : Int) lo < 0) = false) (d2 : decide (cmpI (Q : Int) hi > 0) = false) (F : Int) (hF : F = if L then 1 else 0) (TK : Hid (∀ w, Calls Tryz.prog 49 #[fmD, .int .u64 (x : Int)] w (fun e w' => ∃ g, e = .returned (.agg #[.int .i64 0, .bool false, .pointer (some ⟨g, 0, none⟩), .int .i64 E]) ∧ IntB w' g (M : Int) ∧ w.heap.size ≤ g ∧ Within w w'))) (WHH : Hid (∀ w g, IntB w g (M : Int) → Calls Tryz.prog 52 #[.agg #[.int .i64 0, .bool false, .pointer (some ⟨g, 0, none⟩), .int .i64 E], .int .i64 mode] w (WhI w Q L))) (w : World) (hl : IntB w gl lo) (hh : IntB w gh hi) : Calls Tryz.prog 62 #[.int .u64 (x : Int), .pointer (some ⟨gl, 0, none⟩), .pointer (some ⟨gh, 0, none⟩), .int .i64 mode] w (InI w (Q : Int) F) := by
  have LQ := Lib.hid hQ; have LL := Lib.hid hlo; have LH := Lib.hid hhi; clear hQ hlo hhi
  have HF := Lib.hid hF; clear hF
  go_enter Tryz.func62, Tryz.ntmps62
  go_wp2_with fail
  refine (RDouble _).mono ?_; rintro e1 w1 ⟨rfl, hb1⟩
  go_wp2_with fail
  refine (TK.out _).mono ?_; rintro e2 w2 ⟨g, rfl, hI2, hg2, hb2'⟩
  have hb2 := hb1.trans hb2'
  have hl2 := hl.of hb2; have hh2 := hh.of hb2
  have hs2 := hb2.sizes
  go_wp2_with fail
  refine (WHH.out _ _ (by repeat (first | with_reducible assumption | with_reducible exact ib_new _ _ (by simp; done) | with_reducible refine IntB.alloc ?_ _ | with_reducible refine IntB.drew ?_ | with_reducible refine IntB.drewN ?_ _))).mono ?_; rintro e3 w3 ⟨q, rfl, hI3, hq3, hb3⟩
  have r1 : w3.cell? ⟨w2.heap.size, 1, none⟩ = some (.bool false) := (hb3.cells _ _ (by simp)).trans (by go_simp)
  have r0 : w2.heap.size < w3.heap.size := World.block_lt_of_cell? w3 _ r1
  have hw3 : Within w2 w3 := Within.trans (by repeat (first | with_reducible exact Within.refl _ | with_reducible refine Within.alloc ?_ _ | with_reducible refine Within.setCell ?_ (by first | (simp; done) | (simp; omega)) _)) hb3
  have hqq : w2.heap.size < q := Nat.lt_of_lt_of_le (by simp) hq3
  clear hb3 hq3
  have hl3 := hl2.of hw3; have hh3 := hh2.of hw3
  have hw3' := hb2.trans hw3
  go_wp2_with fail
  refine (Bcmp q gl (Q : Int) lo (by rw [Int.natAbs_natCast]; exact LQ.out) LL.out _ hI3 hl3).mono ?_; rintro e5 w5 ⟨rfl, hb5⟩
  have hI5 := hI3.of hb5; have hh5 := hh3.of hb5; have hl5 := hl3.of hb5; have hw5 := hw3'.trans hb5
  go_wp2_with fail
  refine (Bcmp q gh (Q : Int) hi (by rw [Int.natAbs_natCast]; exact LQ.out) LH.out _ hI5 hh5).mono ?_; rintro e6 w6 ⟨rfl, hb6⟩
  have hI6 := hI5.of hb6; have hh6 := hh5.of hb6; have hl6 := hl5.of hb6; have hw6 := hw5.trans hb6
  cases L
  · go_wp2
    go_ret2
    exact ⟨q, by rw [HF.out]; rfl, hI6, hw6⟩
  · go_wp2
    go_ret2
    exact ⟨q, by rw [HF.out]; rfl, hI6, hw6⟩
set_option maxRecDepth 100000 in
set_option maxHeartbeats 600000 in
theorem Rwithin_low1 (x M gl gh : Nat) (E mode lo hi : Int) (Q : Nat) (L : Bool) (hQ : (dg Q).length ≤ 1000000) (hlo : (dg lo.natAbs).length ≤ 1000000) (hhi : (dg hi.natAbs).length ≤ 1000000) (d1 : decide (cmpI (-(Q : Int)) lo < 0) = true) (TK : Hid (∀ w, Calls Tryz.prog 49 #[fmD, .int .u64 (x : Int)] w (fun e w' => ∃ g, e = .returned (.agg #[.int .i64 0, .bool true, .pointer (some ⟨g, 0, none⟩), .int .i64 E]) ∧ IntB w' g (M : Int) ∧ w.heap.size ≤ g ∧ Within w w'))) (WHH : Hid (∀ w g, IntB w g (M : Int) → Calls Tryz.prog 52 #[.agg #[.int .i64 0, .bool true, .pointer (some ⟨g, 0, none⟩), .int .i64 E], .int .i64 mode] w (WhI w Q L))) (w : World) (hl : IntB w gl lo) (hh : IntB w gh hi) : Calls Tryz.prog 62 #[.int .u64 (x : Int), .pointer (some ⟨gl, 0, none⟩), .pointer (some ⟨gh, 0, none⟩), .int .i64 mode] w (InI w lo 8) := by
  have LQ := Lib.hid hQ; have LL := Lib.hid hlo; have LH := Lib.hid hhi; clear hQ hlo hhi
  go_enter Tryz.func62, Tryz.ntmps62
  go_wp2_with fail
  refine (RDouble _).mono ?_; rintro e1 w1 ⟨rfl, hb1⟩
  go_wp2_with fail
  refine (TK.out _).mono ?_; rintro e2 w2 ⟨g, rfl, hI2, hg2, hb2'⟩
  have hb2 := hb1.trans hb2'
  have hl2 := hl.of hb2; have hh2 := hh.of hb2
  have hs2 := hb2.sizes
  go_wp2_with fail
  refine (WHH.out _ _ (by repeat (first | with_reducible assumption | with_reducible exact ib_new _ _ (by simp; done) | with_reducible refine IntB.alloc ?_ _ | with_reducible refine IntB.drew ?_ | with_reducible refine IntB.drewN ?_ _))).mono ?_; rintro e3 w3 ⟨q, rfl, hI3, hq3, hb3⟩
  have r1 : w3.cell? ⟨w2.heap.size, 1, none⟩ = some (.bool true) := (hb3.cells _ _ (by simp)).trans (by go_simp)
  have r0 : w2.heap.size < w3.heap.size := World.block_lt_of_cell? w3 _ r1
  have hw3 : Within w2 w3 := Within.trans (by repeat (first | with_reducible exact Within.refl _ | with_reducible refine Within.alloc ?_ _ | with_reducible refine Within.setCell ?_ (by first | (simp; done) | (simp; omega)) _)) hb3
  have hqq : w2.heap.size < q := Nat.lt_of_lt_of_le (by simp) hq3
  clear hb3 hq3
  have hl3 := hl2.of hw3; have hh3 := hh2.of hw3
  have hw3' := hb2.trans hw3
  have hty := hI3.ty
  go_wp2_with fail
  refine (Bneg q q (Q : Int) (by rw [Int.natAbs_natCast]; exact Nat.le_trans LQ.out (by decide)) _ hty hI3).mono ?_; rintro e4 w4 ⟨rfl, hI4, hG4⟩
  have hw4 : Within w2 w4 := Within.grown hw3 hG4 (by omega)
  clear hG4
  have hl3 := hl2.of hw4; have hh3 := hh2.of hw4
  have hw4' := hb2.trans hw4
  go_wp2_with fail
  refine (Bcmp q gl (-(Q : Int)) lo (by rw [Int.natAbs_neg, Int.natAbs_natCast]; exact LQ.out) LL.out _ hI4 hl3).mono ?_; rintro e5 w5 ⟨rfl, hb5⟩
  have hI5 := hI4.of hb5; have hh5 := hh3.of hb5; have hl5 := hl3.of hb5; have hw5 := hw4'.trans hb5
  go_wp2
  go_ret2
  exact ⟨_, rfl, hl5, hw5⟩
set_option maxRecDepth 100000 in
set_option maxHeartbeats 600000 in
theorem Rwithin_high1 (x M gl gh : Nat) (E mode lo hi : Int) (Q : Nat) (L : Bool) (hQ : (dg Q).length ≤ 1000000) (hlo : (dg lo.natAbs).length ≤ 1000000) (hhi : (dg hi.natAbs).length ≤ 1000000) (d1 : decide (cmpI (-(Q : Int)) lo < 0) = false) (d2 : decide (cmpI (-(Q : Int)) hi > 0) = true) (TK : Hid (∀ w, Calls Tryz.prog 49 #[fmD, .int .u64 (x : Int)] w (fun e w' => ∃ g, e = .returned (.agg #[.int .i64 0, .bool true, .pointer (some ⟨g, 0, none⟩), .int .i64 E]) ∧ IntB w' g (M : Int) ∧ w.heap.size ≤ g ∧ Within w w'))) (WHH : Hid (∀ w g, IntB w g (M : Int) → Calls Tryz.prog 52 #[.agg #[.int .i64 0, .bool true, .pointer (some ⟨g, 0, none⟩), .int .i64 E], .int .i64 mode] w (WhI w Q L))) (w : World) (hl : IntB w gl lo) (hh : IntB w gh hi) : Calls Tryz.prog 62 #[.int .u64 (x : Int), .pointer (some ⟨gl, 0, none⟩), .pointer (some ⟨gh, 0, none⟩), .int .i64 mode] w (InI w lo 8) := by
  have LQ := Lib.hid hQ; have LL := Lib.hid hlo; have LH := Lib.hid hhi; clear hQ hlo hhi
  go_enter Tryz.func62, Tryz.ntmps62
  go_wp2_with fail
  refine (RDouble _).mono ?_; rintro e1 w1 ⟨rfl, hb1⟩
  go_wp2_with fail
  refine (TK.out _).mono ?_; rintro e2 w2 ⟨g, rfl, hI2, hg2, hb2'⟩
  have hb2 := hb1.trans hb2'
  have hl2 := hl.of hb2; have hh2 := hh.of hb2
  have hs2 := hb2.sizes
  go_wp2_with fail
  refine (WHH.out _ _ (by repeat (first | with_reducible assumption | with_reducible exact ib_new _ _ (by simp; done) | with_reducible refine IntB.alloc ?_ _ | with_reducible refine IntB.drew ?_ | with_reducible refine IntB.drewN ?_ _))).mono ?_; rintro e3 w3 ⟨q, rfl, hI3, hq3, hb3⟩
  have r1 : w3.cell? ⟨w2.heap.size, 1, none⟩ = some (.bool true) := (hb3.cells _ _ (by simp)).trans (by go_simp)
  have r0 : w2.heap.size < w3.heap.size := World.block_lt_of_cell? w3 _ r1
  have hw3 : Within w2 w3 := Within.trans (by repeat (first | with_reducible exact Within.refl _ | with_reducible refine Within.alloc ?_ _ | with_reducible refine Within.setCell ?_ (by first | (simp; done) | (simp; omega)) _)) hb3
  have hqq : w2.heap.size < q := Nat.lt_of_lt_of_le (by simp) hq3
  clear hb3 hq3
  have hl3 := hl2.of hw3; have hh3 := hh2.of hw3
  have hw3' := hb2.trans hw3
  have hty := hI3.ty
  go_wp2_with fail
  refine (Bneg q q (Q : Int) (by rw [Int.natAbs_natCast]; exact Nat.le_trans LQ.out (by decide)) _ hty hI3).mono ?_; rintro e4 w4 ⟨rfl, hI4, hG4⟩
  have hw4 : Within w2 w4 := Within.grown hw3 hG4 (by omega)
  clear hG4
  have hl3 := hl2.of hw4; have hh3 := hh2.of hw4
  have hw4' := hb2.trans hw4
  go_wp2_with fail
  refine (Bcmp q gl (-(Q : Int)) lo (by rw [Int.natAbs_neg, Int.natAbs_natCast]; exact LQ.out) LL.out _ hI4 hl3).mono ?_; rintro e5 w5 ⟨rfl, hb5⟩
  have hI5 := hI4.of hb5; have hh5 := hh3.of hb5; have hl5 := hl3.of hb5; have hw5 := hw4'.trans hb5
  go_wp2_with fail
  refine (Bcmp q gh (-(Q : Int)) hi (by rw [Int.natAbs_neg, Int.natAbs_natCast]; exact LQ.out) LH.out _ hI5 hh5).mono ?_; rintro e6 w6 ⟨rfl, hb6⟩
  have hI6 := hI5.of hb6; have hh6 := hh5.of hb6; have hl6 := hl5.of hb6; have hw6 := hw5.trans hb6
  go_wp2
  go_ret2
  exact ⟨_, rfl, hl6, hw6⟩
set_option maxRecDepth 100000 in
set_option maxHeartbeats 600000 in
theorem Rwithin_in1 (x M gl gh : Nat) (E mode lo hi : Int) (Q : Nat) (L : Bool) (hQ : (dg Q).length ≤ 1000000) (hlo : (dg lo.natAbs).length ≤ 1000000) (hhi : (dg hi.natAbs).length ≤ 1000000) (d1 : decide (cmpI (-(Q : Int)) lo < 0) = false) (d2 : decide (cmpI (-(Q : Int)) hi > 0) = false) (F : Int) (hF : F = if L then 1 else 0) (TK : Hid (∀ w, Calls Tryz.prog 49 #[fmD, .int .u64 (x : Int)] w (fun e w' => ∃ g, e = .returned (.agg #[.int .i64 0, .bool true, .pointer (some ⟨g, 0, none⟩), .int .i64 E]) ∧ IntB w' g (M : Int) ∧ w.heap.size ≤ g ∧ Within w w'))) (WHH : Hid (∀ w g, IntB w g (M : Int) → Calls Tryz.prog 52 #[.agg #[.int .i64 0, .bool true, .pointer (some ⟨g, 0, none⟩), .int .i64 E], .int .i64 mode] w (WhI w Q L))) (w : World) (hl : IntB w gl lo) (hh : IntB w gh hi) : Calls Tryz.prog 62 #[.int .u64 (x : Int), .pointer (some ⟨gl, 0, none⟩), .pointer (some ⟨gh, 0, none⟩), .int .i64 mode] w (InI w (-(Q : Int)) F) := by
  have LQ := Lib.hid hQ; have LL := Lib.hid hlo; have LH := Lib.hid hhi; clear hQ hlo hhi
  have HF := Lib.hid hF; clear hF
  go_enter Tryz.func62, Tryz.ntmps62
  go_wp2_with fail
  refine (RDouble _).mono ?_; rintro e1 w1 ⟨rfl, hb1⟩
  go_wp2_with fail
  refine (TK.out _).mono ?_; rintro e2 w2 ⟨g, rfl, hI2, hg2, hb2'⟩
  have hb2 := hb1.trans hb2'
  have hl2 := hl.of hb2; have hh2 := hh.of hb2
  have hs2 := hb2.sizes
  go_wp2_with fail
  refine (WHH.out _ _ (by repeat (first | with_reducible assumption | with_reducible exact ib_new _ _ (by simp; done) | with_reducible refine IntB.alloc ?_ _ | with_reducible refine IntB.drew ?_ | with_reducible refine IntB.drewN ?_ _))).mono ?_; rintro e3 w3 ⟨q, rfl, hI3, hq3, hb3⟩
  have r1 : w3.cell? ⟨w2.heap.size, 1, none⟩ = some (.bool true) := (hb3.cells _ _ (by simp)).trans (by go_simp)
  have r0 : w2.heap.size < w3.heap.size := World.block_lt_of_cell? w3 _ r1
  have hw3 : Within w2 w3 := Within.trans (by repeat (first | with_reducible exact Within.refl _ | with_reducible refine Within.alloc ?_ _ | with_reducible refine Within.setCell ?_ (by first | (simp; done) | (simp; omega)) _)) hb3
  have hqq : w2.heap.size < q := Nat.lt_of_lt_of_le (by simp) hq3
  clear hb3 hq3
  have hl3 := hl2.of hw3; have hh3 := hh2.of hw3
  have hw3' := hb2.trans hw3
  have hty := hI3.ty
  go_wp2_with fail
  refine (Bneg q q (Q : Int) (by rw [Int.natAbs_natCast]; exact Nat.le_trans LQ.out (by decide)) _ hty hI3).mono ?_; rintro e4 w4 ⟨rfl, hI4, hG4⟩
  have hw4 : Within w2 w4 := Within.grown hw3 hG4 (by omega)
  clear hG4
  have hl3 := hl2.of hw4; have hh3 := hh2.of hw4
  have hw4' := hb2.trans hw4
  go_wp2_with fail
  refine (Bcmp q gl (-(Q : Int)) lo (by rw [Int.natAbs_neg, Int.natAbs_natCast]; exact LQ.out) LL.out _ hI4 hl3).mono ?_; rintro e5 w5 ⟨rfl, hb5⟩
  have hI5 := hI4.of hb5; have hh5 := hh3.of hb5; have hl5 := hl3.of hb5; have hw5 := hw4'.trans hb5
  go_wp2_with fail
  refine (Bcmp q gh (-(Q : Int)) hi (by rw [Int.natAbs_neg, Int.natAbs_natCast]; exact LQ.out) LH.out _ hI5 hh5).mono ?_; rintro e6 w6 ⟨rfl, hb6⟩
  have hI6 := hI5.of hb6; have hh6 := hh5.of hb6; have hl6 := hl5.of hb6; have hw6 := hw5.trans hb6
  cases L
  · go_wp2
    go_ret2
    exact ⟨q, by rw [HF.out]; rfl, hI6, hw6⟩
  · go_wp2
    go_ret2
    exact ⟨q, by rw [HF.out]; rfl, hI6, hw6⟩
def wiV (x : Nat) (mode lo hi : Int) : Int :=
  if kD x = 2 then 0 else if kD x = 1 then (if nD x then lo else hi)
  else if Fp.val (nD x) (wAmt (mD x) (eD x) (nD x) mode) < lo ∨ hi < Fp.val (nD x) (wAmt (mD x) (eD x) (nD x) mode) then (if nD x then lo else hi)
  else Fp.val (nD x) (wAmt (mD x) (eD x) (nD x) mode)
def wiF (x : Nat) (mode lo hi : Int) : Int :=
  if kD x = 2 then 8 else if kD x = 1 then 8
  else if Fp.val (nD x) (wAmt (mD x) (eD x) (nD x) mode) < lo ∨ hi < Fp.val (nD x) (wAmt (mD x) (eD x) (nD x) mode) then 8
  else if wLost (mD x) (eD x) then 1 else 0
theorem cmpI_lt (a b : Int) : decide (cmpI a b < 0) = decide (a < b) := by
  unfold cmpI
  refine decide_eq_decide.2 ?_
  split <;> (try split) <;> omega
theorem cmpI_gt (a b : Int) : decide (cmpI a b > 0) = decide (b < a) := by
  unfold cmpI
  refine decide_eq_decide.2 ?_
  split <;> (try split) <;> omega
theorem kD_range' (b : Nat) : kD b = 0 ∨ kD b = 1 ∨ kD b = 2 := by unfold kD tK; split <;> (try split) <;> omega
theorem cutQ_len {M n : Nat} (s : Nat) (b : Bool) (mode : Int) (hM : (dg M).length ≤ n) : (dg (cutQ M s b mode)).length ≤ n + 1 := by
  refine dg_len_le ?_
  have h1 := Nat.lt_of_lt_of_le (lt_of_dg M) (Nat.pow_le_pow_right (by decide) hM)
  have h2 : M / 2 ^ s ≤ M := Nat.div_le_self _ _
  have h3 : (goes M s b mode).toNat ≤ 1 := by cases goes M s b mode <;> decide
  unfold cutQ
  rw [Nat.pow_succ]
  generalize 4294967296 ^ n = Z at *
  omega
theorem wAmt_len {M : Nat} {E : Int} (b : Bool) (mode : Int) (hE : -5000 ≤ E ∧ E ≤ 5000) (hM : (dg M).length ≤ 400) : (dg (wAmt M E b mode)).length ≤ 1000000 := by
  unfold wAmt
  split
  · exact Nat.le_trans (dg_shl_le (k := 313) hM (by omega)) (by decide)
  · exact Nat.le_trans (cutQ_len _ b mode hM) (by decide)
theorem Rwithin (x gl gh : Nat) (mode lo hi : Int) (hx : x < 18446744073709551616) (hlo : (dg lo.natAbs).length ≤ 1000000) (hhi : (dg hi.natAbs).length ≤ 1000000) (w : World) (hl : IntB w gl lo) (hh : IntB w gh hi) : Calls Tryz.prog 62 #[.int .u64 (x : Int), .pointer (some ⟨gl, 0, none⟩), .pointer (some ⟨gh, 0, none⟩), .int .i64 mode] w (InI w (wiV x mode lo hi) (wiF x mode lo hi)) := by
  have TK := Lib.hid (fun w => RtakeXD x hx w)
  have mx := mD_lt x
  have ex := eD_range x
  unfold wiV wiF
  by_cases k2 : kD x = 2
  · rw [k2] at TK
    rw [if_pos k2, if_pos k2]
    exact Rwithin_nan x _ gl gh _ mode lo hi _ TK w hl hh
  rw [if_neg k2, if_neg k2]
  by_cases k1 : kD x = 1
  · rw [k1] at TK
    rw [if_pos k1, if_pos k1]
    cases hn : nD x
    · rw [hn] at TK
      exact Rwithin_inf0 x _ gl gh _ mode lo hi TK w hl hh
    · rw [hn] at TK
      exact Rwithin_inf1 x _ gl gh _ mode lo hi TK w hl hh
  rw [if_neg k1, if_neg k1]
  have k0 : kD x = 0 := by rcases kD_range' x with h | h | h; exact h; exact absurd h k1; exact absurd h k2
  rw [k0] at TK
  have hM : (dg (mD x)).length ≤ 400 := Nat.le_trans (dg_small (k := 2) (Nat.lt_trans mx (by decide))) (by decide)
  have hE : -5000 ≤ eD x ∧ eD x ≤ 5000 := ⟨by omega, by omega⟩
  have hQ := wAmt_len (nD x) mode hE hM
  have WHH := Lib.hid (fun (w : World) (g : Nat) (hI : IntB w g (mD x : Int)) => Rwhole g (mD x) (nD x) (eD x) mode hE hM w hI)
  generalize wAmt (mD x) (eD x) (nD x) mode = Q at *
  generalize wLost (mD x) (eD x) = L at *
  have e1 : ∀ V : Int, decide (cmpI V lo < 0) = decide (V < lo) := fun V => cmpI_lt V lo
  have e2 : ∀ V : Int, decide (cmpI V hi > 0) = decide (hi < V) := fun V => cmpI_gt V hi
  cases hn : nD x
  · rw [hn] at TK WHH
    rw [show Fp.val false Q = (Q : Int) from rfl, show (if (false : Bool) = true then lo else hi) = hi from rfl]
    by_cases c1 : (Q : Int) < lo
    · rw [if_pos (.inl c1), if_pos (.inl c1)]
      exact Rwithin_low0 x _ gl gh _ mode lo hi Q L hQ hlo hhi (by rw [e1]; exact decide_eq_true c1) TK WHH w hl hh
    by_cases c2 : hi < (Q : Int)
    · rw [if_pos (.inr c2), if_pos (.inr c2)]
      exact Rwithin_high0 x _ gl gh _ mode lo hi Q L hQ hlo hhi (by rw [e1]; exact decide_eq_false c1) (by rw [e2]; exact decide_eq_true c2) TK WHH w hl hh
    rw [if_neg (fun h => h.elim c1 c2), if_neg (fun h => h.elim c1 c2)]
    exact Rwithin_in0 x _ gl gh _ mode lo hi Q L hQ hlo hhi (by rw [e1]; exact decide_eq_false c1) (by rw [e2]; exact decide_eq_false c2) _ rfl TK WHH w hl hh
  · rw [hn] at TK WHH
    rw [show Fp.val true Q = -(Q : Int) from rfl, show (if (true : Bool) = true then lo else hi) = lo from rfl]
    by_cases c1 : -(Q : Int) < lo
    · rw [if_pos (.inl c1), if_pos (.inl c1)]
      exact Rwithin_low1 x _ gl gh _ mode lo hi Q L hQ hlo hhi (by rw [e1]; exact decide_eq_true c1) TK WHH w hl hh
    by_cases c2 : hi < -(Q : Int)
    · rw [if_pos (.inr c2), if_pos (.inr c2)]
      exact Rwithin_high1 x _ gl gh _ mode lo hi Q L hQ hlo hhi (by rw [e1]; exact decide_eq_false c1) (by rw [e2]; exact decide_eq_true c2) TK WHH w hl hh
    rw [if_neg (fun h => h.elim c1 c2), if_neg (fun h => h.elim c1 c2)]
    exact Rwithin_in1 x _ gl gh _ mode lo hi Q L hQ hlo hhi (by rw [e1]; exact decide_eq_false c1) (by rw [e2]; exact decide_eq_false c2) _ rfl TK WHH w hl hh
end Go.Proofs.YtifgngmebnjfkaaGreatDoor
end

section
namespace Go.Proofs.YtifgngmebnjfkaaGreatDoor
open Go.RowKit
set_option maxRecDepth 100000 in
set_option maxHeartbeats 600000 in
theorem Rwidth_8 (w : World) : Calls Tryz.prog 59 #[.int .i64 8] w (fun e w' => e = .returned (.bool true) ∧ w = w') := by
  go_enter Tryz.func59, Tryz.ntmps59
  go_wp2
  go_ret
  exact ⟨rfl, rfl⟩
set_option maxRecDepth 100000 in
set_option maxHeartbeats 600000 in
theorem Rwidth_16 (w : World) : Calls Tryz.prog 59 #[.int .i64 16] w (fun e w' => e = .returned (.bool true) ∧ w = w') := by
  go_enter Tryz.func59, Tryz.ntmps59
  go_wp2
  go_ret
  exact ⟨rfl, rfl⟩
set_option maxRecDepth 100000 in
set_option maxHeartbeats 600000 in
theorem Rwidth_32 (w : World) : Calls Tryz.prog 59 #[.int .i64 32] w (fun e w' => e = .returned (.bool true) ∧ w = w') := by
  go_enter Tryz.func59, Tryz.ntmps59
  go_wp2
  go_ret
  exact ⟨rfl, rfl⟩
set_option maxRecDepth 100000 in
set_option maxHeartbeats 600000 in
theorem Rwidth_64 (w : World) : Calls Tryz.prog 59 #[.int .i64 64] w (fun e w' => e = .returned (.bool true) ∧ w = w') := by
  go_enter Tryz.func59, Tryz.ntmps59
  go_wp2
  go_ret
  exact ⟨rfl, rfl⟩
set_option maxRecDepth 100000 in
set_option maxHeartbeats 600000 in
theorem Rwidth_no (width : Int) (b1 : (width == 8) = false) (b2 : (width == 16) = false) (b3 : (width == 32) = false) (b4 : (width == 64) = false) (w : World) : Calls Tryz.prog 59 #[.int .i64 width] w (fun e w' => e = .returned (.bool false) ∧ w = w') := by
  go_enter Tryz.func59, Tryz.ntmps59
  go_wp2
  go_ret
  exact ⟨rfl, rfl⟩
set_option maxRecDepth 100000 in
set_option maxHeartbeats 600000 in
theorem RInt_mode (x : Nat) (width mode : Int) (KN : Hid (∀ w, Calls Tryz.prog 47 #[.int .i64 mode] w (fun e w' => e = .returned (.bool false) ∧ w = w'))) (w : World) : Calls Tryz.prog 16 #[.int .u64 (x : Int), .int .i64 width, .int .i64 mode] w (fun e w' => e = .returned (.tuple #[.int .i64 0, .int .i64 0, .int .i64 20]) ∧ Within w w') := by
  go_enter Tryz.func16, Tryz.ntmps16
  go_wp2_with fail
  refine (KN.out _).mono ?_; rintro e0 w0 ⟨rfl, rfl⟩
  go_wp2
  go_ret3
  exact ⟨rfl, (by repeat (first | with_reducible exact Within.refl _ | with_reducible assumption | with_reducible refine Within.alloc ?_ _ | with_reducible refine Within.drew ?_ | with_reducible refine Within.drewN ?_ _ | with_reducible refine Within.setCell ?_ (by first | (simp; done) | (simp; omega)) _ | with_reducible refine Within.trans ?_ (by assumption)))⟩
set_option maxRecDepth 100000 in
set_option maxHeartbeats 600000 in
theorem RInt_width (x : Nat) (width mode : Int) (KN : Hid (∀ w, Calls Tryz.prog 47 #[.int .i64 mode] w (fun e w' => e = .returned (.bool true) ∧ w = w'))) (WW : Hid (∀ w, Calls Tryz.prog 59 #[.int .i64 width] w (fun e w' => e = .returned (.bool false) ∧ w = w'))) (w : World) : Calls Tryz.prog 16 #[.int .u64 (x : Int), .int .i64 width, .int .i64 mode] w (fun e w' => e = .returned (.tuple #[.int .i64 0, .int .i64 0, .int .i64 21]) ∧ Within w w') := by
  go_enter Tryz.func16, Tryz.ntmps16
  go_wp2_with fail
  refine (KN.out _).mono ?_; rintro e0 w0 ⟨rfl, rfl⟩
  go_wp2_with fail
  refine (WW.out _).mono ?_; rintro e1 w1 ⟨rfl, rfl⟩
  go_wp2
  go_ret3
  exact ⟨rfl, (by repeat (first | with_reducible exact Within.refl _ | with_reducible assumption | with_reducible refine Within.alloc ?_ _ | with_reducible refine Within.drew ?_ | with_reducible refine Within.drewN ?_ _ | with_reducible refine Within.setCell ?_ (by first | (simp; done) | (simp; omega)) _ | with_reducible refine Within.trans ?_ (by assumption)))⟩
set_option maxRecDepth 100000 in
set_option maxHeartbeats 600000 in
theorem RInt_8 (x : Nat) (mode V F : Int) (hV : -9223372036854775808 ≤ V ∧ V ≤ 9223372036854775807) (KN : Hid (∀ w, Calls Tryz.prog 47 #[.int .i64 mode] w (fun e w' => e = .returned (.bool true) ∧ w = w'))) (WN : Hid (∀ w gl gh, IntB w gl (-128) → IntB w gh (127) → Calls Tryz.prog 62 #[.int .u64 (x : Int), .pointer (some ⟨gl, 0, none⟩), .pointer (some ⟨gh, 0, none⟩), .int .i64 mode] w (InI w V F))) (w : World) : Calls Tryz.prog 16 #[.int .u64 (x : Int), .int .i64 8, .int .i64 mode] w (fun e w' => e = .returned (.tuple #[.int .i64 V, .int .i64 F, .int .i64 0]) ∧ Within w w') := by
  have HV := Lib.hid hV; clear hV
  have L1 := Lib.hid (show (dg (1 : Int).natAbs).length ≤ 400000 from Nat.le_trans (dg_small (k := 1) (by decide)) (by decide))
  have LE := Lib.hid (show (dg (128 : Int).natAbs).length ≤ 400000 from Nat.le_trans (dg_small (k := 3) (by decide)) (by decide))
  go_enter Tryz.func16, Tryz.ntmps16
  go_wp2_with fail
  refine (KN.out _).mono ?_; rintro e0 w0 ⟨rfl, rfl⟩
  go_wp2_with fail
  refine (Rwidth_8 _).mono ?_; rintro e9 w9 ⟨rfl, rfl⟩
  go_wp2_with fail
  refine (BnewInt 1 (by decide) (by decide) _).mono ?_; rintro e1 w1 ⟨g1, rfl, hI1, hg1, hb1'⟩
  have hb1 : Within w w1 := ((Within.refl w).alloc _).trans hb1'
  have t1 : IntTy w1 w.heap.size := (ty_new w _ _ _ rfl).of hb1'
  go_wp2_with fail
  refine (Blsh w.heap.size g1 7 1 L1.out (by decide) w1 t1 hI1).mono ?_; rintro e2 w2 ⟨rfl, hI2, hG2⟩
  have hb2 : Within w w2 := Within.grown hb1 hG2 (Nat.le_refl _)
  clear hG2 t1 hI1 hg1 hb1'
  rw [show (1 : Int) * 2 ^ 7 = 128 by decide] at hI2
  go_wp2_with fail
  refine (Bneg w2.heap.size w.heap.size (128) (Nat.le_trans LE.out (by decide)) _ (by repeat (first | with_reducible assumption | with_reducible exact ty_new _ _ _ _ (by simp; done) | with_reducible refine ty_drew ?_ | with_reducible refine ty_alloc ?_ _)) (by repeat (first | with_reducible assumption | with_reducible exact ib_new _ _ (by simp; done) | with_reducible refine IntB.alloc ?_ _ | with_reducible refine IntB.drew ?_ | with_reducible refine IntB.drewN ?_ _))).mono ?_; rintro e3 w3 ⟨rfl, hI3, hG3⟩
  have hb3 : Within w2 w3 := Within.grown ((Within.refl w2).alloc _) hG3 (Nat.le_refl _)
  clear hG3
  have hI2 := hI2.of hb3
  go_wp2_with fail
  refine (BnewInt 1 (by decide) (by decide) _).mono ?_; rintro e4 w4 ⟨g4, rfl, hI4, hg4, hb4'⟩
  have hb4 : Within w3 w4 := ((Within.refl w3).alloc _).trans hb4'
  have t4 : IntTy w4 w3.heap.size := (ty_new w3 _ _ _ rfl).of hb4'
  have hI2 := hI2.of hb4
  go_wp2_with fail
  refine (BSub w3.heap.size w.heap.size g4 (128) 1 (Nat.le_trans LE.out (by decide)) (Nat.le_trans L1.out (by decide)) w4 t4 hI2 hI4).mono ?_; rintro e5 w5 ⟨rfl, hI5, hG5⟩
  have hb5 : Within w3 w5 := Within.grown hb4 hG5 (Nat.le_refl _)
  clear hG5 t4 hI4 hg4 hb4'
  have hI3 := hI3.of hb5
  rw [show (128 : Int) - 1 = 127 by decide] at hI5
  have hw5 := hb2.trans (hb3.trans hb5)
  go_wp2_with fail
  refine (WN.out _ _ _ hI3 hI5).mono ?_; rintro e6 w6 ⟨g6, rfl, hI6, hb6⟩
  have hw6 := hw5.trans hb6
  go_wp2_with fail
  refine (Bint64 g6 V HV.out.1 HV.out.2 _ hI6).mono ?_; rintro e7 w7 ⟨rfl, rfl⟩
  go_wp2
  go_ret3
  exact ⟨rfl, hw6⟩
set_option maxRecDepth 100000 in
set_option maxHeartbeats 600000 in
theorem RInt_16 (x : Nat) (mode V F : Int) (hV : -9223372036854775808 ≤ V ∧ V ≤ 9223372036854775807) (KN : Hid (∀ w, Calls Tryz.prog 47 #[.int .i64 mode] w (fun e w' => e = .returned (.bool true) ∧ w = w'))) (WN : Hid (∀ w gl gh, IntB w gl (-32768) → IntB w gh (32767) → Calls Tryz.prog 62 #[.int .u64 (x : Int), .pointer (some ⟨gl, 0, none⟩), .pointer (some ⟨gh, 0, none⟩), .int .i64 mode] w (InI w V F))) (w : World) : Calls Tryz.prog 16 #[.int .u64 (x : Int), .int .i64 16, .int .i64 mode] w (fun e w' => e = .returned (.tuple #[.int .i64 V, .int .i64 F, .int .i64 0]) ∧ Within w w') := by
  have HV := Lib.hid hV; clear hV
  have L1 := Lib.hid (show (dg (1 : Int).natAbs).length ≤ 400000 from Nat.le_trans (dg_small (k := 1) (by decide)) (by decide))
  have LE := Lib.hid (show (dg (32768 : Int).natAbs).length ≤ 400000 from Nat.le_trans (dg_small (k := 3) (by decide)) (by decide))
  go_enter Tryz.func16, Tryz.ntmps16
  go_wp2_with fail
  refine (KN.out _).mono ?_; rintro e0 w0 ⟨rfl, rfl⟩
  go_wp2_with fail
  refine (Rwidth_16 _).mono ?_; rintro e9 w9 ⟨rfl, rfl⟩
  go_wp2_with fail
  refine (BnewInt 1 (by decide) (by decide) _).mono ?_; rintro e1 w1 ⟨g1, rfl, hI1, hg1, hb1'⟩
  have hb1 : Within w w1 := ((Within.refl w).alloc _).trans hb1'
  have t1 : IntTy w1 w.heap.size := (ty_new w _ _ _ rfl).of hb1'
  go_wp2_with fail
  refine (Blsh w.heap.size g1 15 1 L1.out (by decide) w1 t1 hI1).mono ?_; rintro e2 w2 ⟨rfl, hI2, hG2⟩
  have hb2 : Within w w2 := Within.grown hb1 hG2 (Nat.le_refl _)
  clear hG2 t1 hI1 hg1 hb1'
  rw [show (1 : Int) * 2 ^ 15 = 32768 by decide] at hI2
  go_wp2_with fail
  refine (Bneg w2.heap.size w.heap.size (32768) (Nat.le_trans LE.out (by decide)) _ (by repeat (first | with_reducible assumption | with_reducible exact ty_new _ _ _ _ (by simp; done) | with_reducible refine ty_drew ?_ | with_reducible refine ty_alloc ?_ _)) (by repeat (first | with_reducible assumption | with_reducible exact ib_new _ _ (by simp; done) | with_reducible refine IntB.alloc ?_ _ | with_reducible refine IntB.drew ?_ | with_reducible refine IntB.drewN ?_ _))).mono ?_; rintro e3 w3 ⟨rfl, hI3, hG3⟩
  have hb3 : Within w2 w3 := Within.grown ((Within.refl w2).alloc _) hG3 (Nat.le_refl _)
  clear hG3
  have hI2 := hI2.of hb3
  go_wp2_with fail
  refine (BnewInt 1 (by decide) (by decide) _).mono ?_; rintro e4 w4 ⟨g4, rfl, hI4, hg4, hb4'⟩
  have hb4 : Within w3 w4 := ((Within.refl w3).alloc _).trans hb4'
  have t4 : IntTy w4 w3.heap.size := (ty_new w3 _ _ _ rfl).of hb4'
  have hI2 := hI2.of hb4
  go_wp2_with fail
  refine (BSub w3.heap.size w.heap.size g4 (32768) 1 (Nat.le_trans LE.out (by decide)) (Nat.le_trans L1.out (by decide)) w4 t4 hI2 hI4).mono ?_; rintro e5 w5 ⟨rfl, hI5, hG5⟩
  have hb5 : Within w3 w5 := Within.grown hb4 hG5 (Nat.le_refl _)
  clear hG5 t4 hI4 hg4 hb4'
  have hI3 := hI3.of hb5
  rw [show (32768 : Int) - 1 = 32767 by decide] at hI5
  have hw5 := hb2.trans (hb3.trans hb5)
  go_wp2_with fail
  refine (WN.out _ _ _ hI3 hI5).mono ?_; rintro e6 w6 ⟨g6, rfl, hI6, hb6⟩
  have hw6 := hw5.trans hb6
  go_wp2_with fail
  refine (Bint64 g6 V HV.out.1 HV.out.2 _ hI6).mono ?_; rintro e7 w7 ⟨rfl, rfl⟩
  go_wp2
  go_ret3
  exact ⟨rfl, hw6⟩
set_option maxRecDepth 100000 in
set_option maxHeartbeats 600000 in
theorem RInt_32 (x : Nat) (mode V F : Int) (hV : -9223372036854775808 ≤ V ∧ V ≤ 9223372036854775807) (KN : Hid (∀ w, Calls Tryz.prog 47 #[.int .i64 mode] w (fun e w' => e = .returned (.bool true) ∧ w = w'))) (WN : Hid (∀ w gl gh, IntB w gl (-2147483648) → IntB w gh (2147483647) → Calls Tryz.prog 62 #[.int .u64 (x : Int), .pointer (some ⟨gl, 0, none⟩), .pointer (some ⟨gh, 0, none⟩), .int .i64 mode] w (InI w V F))) (w : World) : Calls Tryz.prog 16 #[.int .u64 (x : Int), .int .i64 32, .int .i64 mode] w (fun e w' => e = .returned (.tuple #[.int .i64 V, .int .i64 F, .int .i64 0]) ∧ Within w w') := by
  have HV := Lib.hid hV; clear hV
  have L1 := Lib.hid (show (dg (1 : Int).natAbs).length ≤ 400000 from Nat.le_trans (dg_small (k := 1) (by decide)) (by decide))
  have LE := Lib.hid (show (dg (2147483648 : Int).natAbs).length ≤ 400000 from Nat.le_trans (dg_small (k := 3) (by decide)) (by decide))
  go_enter Tryz.func16, Tryz.ntmps16
  go_wp2_with fail
  refine (KN.out _).mono ?_; rintro e0 w0 ⟨rfl, rfl⟩
  go_wp2_with fail
  refine (Rwidth_32 _).mono ?_; rintro e9 w9 ⟨rfl, rfl⟩
  go_wp2_with fail
  refine (BnewInt 1 (by decide) (by decide) _).mono ?_; rintro e1 w1 ⟨g1, rfl, hI1, hg1, hb1'⟩
  have hb1 : Within w w1 := ((Within.refl w).alloc _).trans hb1'
  have t1 : IntTy w1 w.heap.size := (ty_new w _ _ _ rfl).of hb1'
  go_wp2_with fail
  refine (Blsh w.heap.size g1 31 1 L1.out (by decide) w1 t1 hI1).mono ?_; rintro e2 w2 ⟨rfl, hI2, hG2⟩
  have hb2 : Within w w2 := Within.grown hb1 hG2 (Nat.le_refl _)
  clear hG2 t1 hI1 hg1 hb1'
  rw [show (1 : Int) * 2 ^ 31 = 2147483648 by decide] at hI2
  go_wp2_with fail
  refine (Bneg w2.heap.size w.heap.size (2147483648) (Nat.le_trans LE.out (by decide)) _ (by repeat (first | with_reducible assumption | with_reducible exact ty_new _ _ _ _ (by simp; done) | with_reducible refine ty_drew ?_ | with_reducible refine ty_alloc ?_ _)) (by repeat (first | with_reducible assumption | with_reducible exact ib_new _ _ (by simp; done) | with_reducible refine IntB.alloc ?_ _ | with_reducible refine IntB.drew ?_ | with_reducible refine IntB.drewN ?_ _))).mono ?_; rintro e3 w3 ⟨rfl, hI3, hG3⟩
  have hb3 : Within w2 w3 := Within.grown ((Within.refl w2).alloc _) hG3 (Nat.le_refl _)
  clear hG3
  have hI2 := hI2.of hb3
  go_wp2_with fail
  refine (BnewInt 1 (by decide) (by decide) _).mono ?_; rintro e4 w4 ⟨g4, rfl, hI4, hg4, hb4'⟩
  have hb4 : Within w3 w4 := ((Within.refl w3).alloc _).trans hb4'
  have t4 : IntTy w4 w3.heap.size := (ty_new w3 _ _ _ rfl).of hb4'
  have hI2 := hI2.of hb4
  go_wp2_with fail
  refine (BSub w3.heap.size w.heap.size g4 (2147483648) 1 (Nat.le_trans LE.out (by decide)) (Nat.le_trans L1.out (by decide)) w4 t4 hI2 hI4).mono ?_; rintro e5 w5 ⟨rfl, hI5, hG5⟩
  have hb5 : Within w3 w5 := Within.grown hb4 hG5 (Nat.le_refl _)
  clear hG5 t4 hI4 hg4 hb4'
  have hI3 := hI3.of hb5
  rw [show (2147483648 : Int) - 1 = 2147483647 by decide] at hI5
  have hw5 := hb2.trans (hb3.trans hb5)
  go_wp2_with fail
  refine (WN.out _ _ _ hI3 hI5).mono ?_; rintro e6 w6 ⟨g6, rfl, hI6, hb6⟩
  have hw6 := hw5.trans hb6
  go_wp2_with fail
  refine (Bint64 g6 V HV.out.1 HV.out.2 _ hI6).mono ?_; rintro e7 w7 ⟨rfl, rfl⟩
  go_wp2
  go_ret3
  exact ⟨rfl, hw6⟩
set_option maxRecDepth 100000 in
set_option maxHeartbeats 600000 in
theorem RInt_64 (x : Nat) (mode V F : Int) (hV : -9223372036854775808 ≤ V ∧ V ≤ 9223372036854775807) (KN : Hid (∀ w, Calls Tryz.prog 47 #[.int .i64 mode] w (fun e w' => e = .returned (.bool true) ∧ w = w'))) (WN : Hid (∀ w gl gh, IntB w gl (-9223372036854775808) → IntB w gh (9223372036854775807) → Calls Tryz.prog 62 #[.int .u64 (x : Int), .pointer (some ⟨gl, 0, none⟩), .pointer (some ⟨gh, 0, none⟩), .int .i64 mode] w (InI w V F))) (w : World) : Calls Tryz.prog 16 #[.int .u64 (x : Int), .int .i64 64, .int .i64 mode] w (fun e w' => e = .returned (.tuple #[.int .i64 V, .int .i64 F, .int .i64 0]) ∧ Within w w') := by
  have HV := Lib.hid hV; clear hV
  have L1 := Lib.hid (show (dg (1 : Int).natAbs).length ≤ 400000 from Nat.le_trans (dg_small (k := 1) (by decide)) (by decide))
  have LE := Lib.hid (show (dg (9223372036854775808 : Int).natAbs).length ≤ 400000 from Nat.le_trans (dg_small (k := 3) (by decide)) (by decide))
  go_enter Tryz.func16, Tryz.ntmps16
  go_wp2_with fail
  refine (KN.out _).mono ?_; rintro e0 w0 ⟨rfl, rfl⟩
  go_wp2_with fail
  refine (Rwidth_64 _).mono ?_; rintro e9 w9 ⟨rfl, rfl⟩
  go_wp2_with fail
  refine (BnewInt 1 (by decide) (by decide) _).mono ?_; rintro e1 w1 ⟨g1, rfl, hI1, hg1, hb1'⟩
  have hb1 : Within w w1 := ((Within.refl w).alloc _).trans hb1'
  have t1 : IntTy w1 w.heap.size := (ty_new w _ _ _ rfl).of hb1'
  go_wp2_with fail
  refine (Blsh w.heap.size g1 63 1 L1.out (by decide) w1 t1 hI1).mono ?_; rintro e2 w2 ⟨rfl, hI2, hG2⟩
  have hb2 : Within w w2 := Within.grown hb1 hG2 (Nat.le_refl _)
  clear hG2 t1 hI1 hg1 hb1'
  rw [show (1 : Int) * 2 ^ 63 = 9223372036854775808 by decide] at hI2
  go_wp2_with fail
  refine (Bneg w2.heap.size w.heap.size (9223372036854775808) (Nat.le_trans LE.out (by decide)) _ (by repeat (first | with_reducible assumption | with_reducible exact ty_new _ _ _ _ (by simp; done) | with_reducible refine ty_drew ?_ | with_reducible refine ty_alloc ?_ _)) (by repeat (first | with_reducible assumption | with_reducible exact ib_new _ _ (by simp; done) | with_reducible refine IntB.alloc ?_ _ | with_reducible refine IntB.drew ?_ | with_reducible refine IntB.drewN ?_ _))).mono ?_; rintro e3 w3 ⟨rfl, hI3, hG3⟩
  have hb3 : Within w2 w3 := Within.grown ((Within.refl w2).alloc _) hG3 (Nat.le_refl _)
  clear hG3
  have hI2 := hI2.of hb3
  go_wp2_with fail
  refine (BnewInt 1 (by decide) (by decide) _).mono ?_; rintro e4 w4 ⟨g4, rfl, hI4, hg4, hb4'⟩
  have hb4 : Within w3 w4 := ((Within.refl w3).alloc _).trans hb4'
  have t4 : IntTy w4 w3.heap.size := (ty_new w3 _ _ _ rfl).of hb4'
  have hI2 := hI2.of hb4
  go_wp2_with fail
  refine (BSub w3.heap.size w.heap.size g4 (9223372036854775808) 1 (Nat.le_trans LE.out (by decide)) (Nat.le_trans L1.out (by decide)) w4 t4 hI2 hI4).mono ?_; rintro e5 w5 ⟨rfl, hI5, hG5⟩
  have hb5 : Within w3 w5 := Within.grown hb4 hG5 (Nat.le_refl _)
  clear hG5 t4 hI4 hg4 hb4'
  have hI3 := hI3.of hb5
  rw [show (9223372036854775808 : Int) - 1 = 9223372036854775807 by decide] at hI5
  have hw5 := hb2.trans (hb3.trans hb5)
  go_wp2_with fail
  refine (WN.out _ _ _ hI3 hI5).mono ?_; rintro e6 w6 ⟨g6, rfl, hI6, hb6⟩
  have hw6 := hw5.trans hb6
  go_wp2_with fail
  refine (Bint64 g6 V HV.out.1 HV.out.2 _ hI6).mono ?_; rintro e7 w7 ⟨rfl, rfl⟩
  go_wp2
  go_ret3
  exact ⟨rfl, hw6⟩
set_option maxRecDepth 100000 in
set_option maxHeartbeats 600000 in
theorem RUint_mode (x : Nat) (width mode : Int) (KN : Hid (∀ w, Calls Tryz.prog 47 #[.int .i64 mode] w (fun e w' => e = .returned (.bool false) ∧ w = w'))) (w : World) : Calls Tryz.prog 18 #[.int .u64 (x : Int), .int .i64 width, .int .i64 mode] w (fun e w' => e = .returned (.tuple #[.int .u64 0, .int .i64 0, .int .i64 20]) ∧ Within w w') := by
  go_enter Tryz.func18, Tryz.ntmps18
  go_wp2_with fail
  refine (KN.out _).mono ?_; rintro e0 w0 ⟨rfl, rfl⟩
  go_wp2
  go_ret3
  exact ⟨rfl, (by repeat (first | with_reducible exact Within.refl _ | with_reducible assumption | with_reducible refine Within.alloc ?_ _ | with_reducible refine Within.drew ?_ | with_reducible refine Within.drewN ?_ _ | with_reducible refine Within.setCell ?_ (by first | (simp; done) | (simp; omega)) _ | with_reducible refine Within.trans ?_ (by assumption)))⟩
set_option maxRecDepth 100000 in
set_option maxHeartbeats 600000 in
theorem RUint_width (x : Nat) (width mode : Int) (KN : Hid (∀ w, Calls Tryz.prog 47 #[.int .i64 mode] w (fun e w' => e = .returned (.bool true) ∧ w = w'))) (WW : Hid (∀ w, Calls Tryz.prog 59 #[.int .i64 width] w (fun e w' => e = .returned (.bool false) ∧ w = w'))) (w : World) : Calls Tryz.prog 18 #[.int .u64 (x : Int), .int .i64 width, .int .i64 mode] w (fun e w' => e = .returned (.tuple #[.int .u64 0, .int .i64 0, .int .i64 21]) ∧ Within w w') := by
  go_enter Tryz.func18, Tryz.ntmps18
  go_wp2_with fail
  refine (KN.out _).mono ?_; rintro e0 w0 ⟨rfl, rfl⟩
  go_wp2_with fail
  refine (WW.out _).mono ?_; rintro e1 w1 ⟨rfl, rfl⟩
  go_wp2
  go_ret3
  exact ⟨rfl, (by repeat (first | with_reducible exact Within.refl _ | with_reducible assumption | with_reducible refine Within.alloc ?_ _ | with_reducible refine Within.drew ?_ | with_reducible refine Within.drewN ?_ _ | with_reducible refine Within.setCell ?_ (by first | (simp; done) | (simp; omega)) _ | with_reducible refine Within.trans ?_ (by assumption)))⟩
set_option maxRecDepth 100000 in
set_option maxHeartbeats 600000 in
theorem RUint_8 (x : Nat) (mode V F : Int) (hV : ((V.natAbs % 18446744073709551616 : Nat) : Int) = V ∧ (dg V.natAbs).length ≤ 1000000) (KN : Hid (∀ w, Calls Tryz.prog 47 #[.int .i64 mode] w (fun e w' => e = .returned (.bool true) ∧ w = w'))) (WN : Hid (∀ w gl gh, IntB w gl (0) → IntB w gh (255) → Calls Tryz.prog 62 #[.int .u64 (x : Int), .pointer (some ⟨gl, 0, none⟩), .pointer (some ⟨gh, 0, none⟩), .int .i64 mode] w (InI w V F))) (w : World) : Calls Tryz.prog 18 #[.int .u64 (x : Int), .int .i64 8, .int .i64 mode] w (fun e w' => e = .returned (.tuple #[.int .u64 V, .int .i64 F, .int .i64 0]) ∧ Within w w') := by
  have HV := Lib.hid hV; clear hV
  have L1 := Lib.hid (show (dg (1 : Int).natAbs).length ≤ 400000 from Nat.le_trans (dg_small (k := 1) (by decide)) (by decide))
  have LE := Lib.hid (show (dg (256 : Int).natAbs).length ≤ 400000 from Nat.le_trans (dg_small (k := 3) (by decide)) (by decide))
  go_enter Tryz.func18, Tryz.ntmps18
  go_wp2_with fail
  refine (KN.out _).mono ?_; rintro e0 w0 ⟨rfl, rfl⟩
  go_wp2_with fail
  refine (Rwidth_8 _).mono ?_; rintro e9 w9 ⟨rfl, rfl⟩
  go_wp2_with fail
  refine (BnewInt 1 (by decide) (by decide) _).mono ?_; rintro e1 w1 ⟨g1, rfl, hI1, hg1, hb1'⟩
  have hb1 : Within w w1 := ((Within.refl w).alloc _).trans hb1'
  have t1 : IntTy w1 w.heap.size := (ty_new w _ _ _ rfl).of hb1'
  go_wp2_with fail
  refine (Blsh w.heap.size g1 8 1 L1.out (by decide) w1 t1 hI1).mono ?_; rintro e2 w2 ⟨rfl, hI2, hG2⟩
  have hb2 : Within w w2 := Within.grown hb1 hG2 (Nat.le_refl _)
  clear hG2 t1 hI1 hg1 hb1'
  rw [show (1 : Int) * 2 ^ 8 = 256 by decide] at hI2
  go_wp2_with fail
  refine (BnewInt 1 (by decide) (by decide) _).mono ?_; rintro e3 w3 ⟨g3, rfl, hI3, hg3, hb3'⟩
  have hb3 : Within w2 w3 := ((Within.refl w2).alloc _).trans hb3'
  have hI0 : IntB w3 w2.heap.size 0 := (ib_new w2 _ rfl).of hb3'
  have hl2 := hI2.lt
  have hI2 := hI2.of hb3
  have hty := hI2.ty
  go_wp2_with fail
  refine (BSub w.heap.size w.heap.size g3 (256) 1 (Nat.le_trans LE.out (by decide)) (Nat.le_trans L1.out (by decide)) w3 hty hI2 hI3).mono ?_; rintro e4 w4 ⟨rfl, hI4, hG4⟩
  have hw4 : Within w w4 := Within.grown (hb2.trans hb3) hG4 (Nat.le_refl _)
  have hI0 := hI0.grown hty (by omega) hG4
  clear hG4
  rw [show (256 : Int) - 1 = 255 by decide] at hI4
  go_wp2_with fail
  refine (WN.out _ _ _ hI0 hI4).mono ?_; rintro e6 w6 ⟨g6, rfl, hI6, hb6⟩
  have hw6 := hw4.trans hb6
  go_wp2_with fail
  refine (Buint64 g6 V HV.out.2 _ hI6).mono ?_; rintro e7 w7 ⟨rfl, rfl⟩
  rw [HV.out.1]
  go_wp2
  go_ret3
  exact ⟨rfl, hw6⟩
set_option maxRecDepth 100000 in
set_option maxHeartbeats 600000 in
theorem RUint_16 (x : Nat) (mode V F : Int) (hV : ((V.natAbs % 18446744073709551616 : Nat) : Int) = V ∧ (dg V.natAbs).length ≤ 1000000) (KN : Hid (∀ w, Calls Tryz.prog 47 #[.int .i64 mode] w (fun e w' => e = .returned (.bool true) ∧ w = w'))) (WN : Hid (∀ w gl gh, IntB w gl (0) → IntB w gh (65535) → Calls Tryz.prog 62 #[.int .u64 (x : Int), .pointer (some ⟨gl, 0, none⟩), .pointer (some ⟨gh, 0, none⟩), .int .i64 mode] w (InI w V F))) (w : World) : Calls Tryz.prog 18 #[.int .u64 (x : Int), .int .i64 16, .int .i64 mode] w (fun e w' => e = .returned (.tuple #[.int .u64 V, .int .i64 F, .int .i64 0]) ∧ Within w w') := by
  have HV := Lib.hid hV; clear hV
  have L1 := Lib.hid (show (dg (1 : Int).natAbs).length ≤ 400000 from Nat.le_trans (dg_small (k := 1) (by decide)) (by decide))
  have LE := Lib.hid (show (dg (65536 : Int).natAbs).length ≤ 400000 from Nat.le_trans (dg_small (k := 3) (by decide)) (by decide))
  go_enter Tryz.func18, Tryz.ntmps18
  go_wp2_with fail
  refine (KN.out _).mono ?_; rintro e0 w0 ⟨rfl, rfl⟩
  go_wp2_with fail
  refine (Rwidth_16 _).mono ?_; rintro e9 w9 ⟨rfl, rfl⟩
  go_wp2_with fail
  refine (BnewInt 1 (by decide) (by decide) _).mono ?_; rintro e1 w1 ⟨g1, rfl, hI1, hg1, hb1'⟩
  have hb1 : Within w w1 := ((Within.refl w).alloc _).trans hb1'
  have t1 : IntTy w1 w.heap.size := (ty_new w _ _ _ rfl).of hb1'
  go_wp2_with fail
  refine (Blsh w.heap.size g1 16 1 L1.out (by decide) w1 t1 hI1).mono ?_; rintro e2 w2 ⟨rfl, hI2, hG2⟩
  have hb2 : Within w w2 := Within.grown hb1 hG2 (Nat.le_refl _)
  clear hG2 t1 hI1 hg1 hb1'
  rw [show (1 : Int) * 2 ^ 16 = 65536 by decide] at hI2
  go_wp2_with fail
  refine (BnewInt 1 (by decide) (by decide) _).mono ?_; rintro e3 w3 ⟨g3, rfl, hI3, hg3, hb3'⟩
  have hb3 : Within w2 w3 := ((Within.refl w2).alloc _).trans hb3'
  have hI0 : IntB w3 w2.heap.size 0 := (ib_new w2 _ rfl).of hb3'
  have hl2 := hI2.lt
  have hI2 := hI2.of hb3
  have hty := hI2.ty
  go_wp2_with fail
  refine (BSub w.heap.size w.heap.size g3 (65536) 1 (Nat.le_trans LE.out (by decide)) (Nat.le_trans L1.out (by decide)) w3 hty hI2 hI3).mono ?_; rintro e4 w4 ⟨rfl, hI4, hG4⟩
  have hw4 : Within w w4 := Within.grown (hb2.trans hb3) hG4 (Nat.le_refl _)
  have hI0 := hI0.grown hty (by omega) hG4
  clear hG4
  rw [show (65536 : Int) - 1 = 65535 by decide] at hI4
  go_wp2_with fail
  refine (WN.out _ _ _ hI0 hI4).mono ?_; rintro e6 w6 ⟨g6, rfl, hI6, hb6⟩
  have hw6 := hw4.trans hb6
  go_wp2_with fail
  refine (Buint64 g6 V HV.out.2 _ hI6).mono ?_; rintro e7 w7 ⟨rfl, rfl⟩
  rw [HV.out.1]
  go_wp2
  go_ret3
  exact ⟨rfl, hw6⟩
set_option maxRecDepth 100000 in
set_option maxHeartbeats 600000 in
theorem RUint_32 (x : Nat) (mode V F : Int) (hV : ((V.natAbs % 18446744073709551616 : Nat) : Int) = V ∧ (dg V.natAbs).length ≤ 1000000) (KN : Hid (∀ w, Calls Tryz.prog 47 #[.int .i64 mode] w (fun e w' => e = .returned (.bool true) ∧ w = w'))) (WN : Hid (∀ w gl gh, IntB w gl (0) → IntB w gh (4294967295) → Calls Tryz.prog 62 #[.int .u64 (x : Int), .pointer (some ⟨gl, 0, none⟩), .pointer (some ⟨gh, 0, none⟩), .int .i64 mode] w (InI w V F))) (w : World) : Calls Tryz.prog 18 #[.int .u64 (x : Int), .int .i64 32, .int .i64 mode] w (fun e w' => e = .returned (.tuple #[.int .u64 V, .int .i64 F, .int .i64 0]) ∧ Within w w') := by
  have HV := Lib.hid hV; clear hV
  have L1 := Lib.hid (show (dg (1 : Int).natAbs).length ≤ 400000 from Nat.le_trans (dg_small (k := 1) (by decide)) (by decide))
  have LE := Lib.hid (show (dg (4294967296 : Int).natAbs).length ≤ 400000 from Nat.le_trans (dg_small (k := 3) (by decide)) (by decide))
  go_enter Tryz.func18, Tryz.ntmps18
  go_wp2_with fail
  refine (KN.out _).mono ?_; rintro e0 w0 ⟨rfl, rfl⟩
  go_wp2_with fail
  refine (Rwidth_32 _).mono ?_; rintro e9 w9 ⟨rfl, rfl⟩
  go_wp2_with fail
  refine (BnewInt 1 (by decide) (by decide) _).mono ?_; rintro e1 w1 ⟨g1, rfl, hI1, hg1, hb1'⟩
  have hb1 : Within w w1 := ((Within.refl w).alloc _).trans hb1'
  have t1 : IntTy w1 w.heap.size := (ty_new w _ _ _ rfl).of hb1'
  go_wp2_with fail
  refine (Blsh w.heap.size g1 32 1 L1.out (by decide) w1 t1 hI1).mono ?_; rintro e2 w2 ⟨rfl, hI2, hG2⟩
  have hb2 : Within w w2 := Within.grown hb1 hG2 (Nat.le_refl _)
  clear hG2 t1 hI1 hg1 hb1'
  rw [show (1 : Int) * 2 ^ 32 = 4294967296 by decide] at hI2
  go_wp2_with fail
  refine (BnewInt 1 (by decide) (by decide) _).mono ?_; rintro e3 w3 ⟨g3, rfl, hI3, hg3, hb3'⟩
  have hb3 : Within w2 w3 := ((Within.refl w2).alloc _).trans hb3'
  have hI0 : IntB w3 w2.heap.size 0 := (ib_new w2 _ rfl).of hb3'
  have hl2 := hI2.lt
  have hI2 := hI2.of hb3
  have hty := hI2.ty
  go_wp2_with fail
  refine (BSub w.heap.size w.heap.size g3 (4294967296) 1 (Nat.le_trans LE.out (by decide)) (Nat.le_trans L1.out (by decide)) w3 hty hI2 hI3).mono ?_; rintro e4 w4 ⟨rfl, hI4, hG4⟩
  have hw4 : Within w w4 := Within.grown (hb2.trans hb3) hG4 (Nat.le_refl _)
  have hI0 := hI0.grown hty (by omega) hG4
  clear hG4
  rw [show (4294967296 : Int) - 1 = 4294967295 by decide] at hI4
  go_wp2_with fail
  refine (WN.out _ _ _ hI0 hI4).mono ?_; rintro e6 w6 ⟨g6, rfl, hI6, hb6⟩
  have hw6 := hw4.trans hb6
  go_wp2_with fail
  refine (Buint64 g6 V HV.out.2 _ hI6).mono ?_; rintro e7 w7 ⟨rfl, rfl⟩
  rw [HV.out.1]
  go_wp2
  go_ret3
  exact ⟨rfl, hw6⟩
set_option maxRecDepth 100000 in
set_option maxHeartbeats 600000 in
theorem RUint_64 (x : Nat) (mode V F : Int) (hV : ((V.natAbs % 18446744073709551616 : Nat) : Int) = V ∧ (dg V.natAbs).length ≤ 1000000) (KN : Hid (∀ w, Calls Tryz.prog 47 #[.int .i64 mode] w (fun e w' => e = .returned (.bool true) ∧ w = w'))) (WN : Hid (∀ w gl gh, IntB w gl (0) → IntB w gh (18446744073709551615) → Calls Tryz.prog 62 #[.int .u64 (x : Int), .pointer (some ⟨gl, 0, none⟩), .pointer (some ⟨gh, 0, none⟩), .int .i64 mode] w (InI w V F))) (w : World) : Calls Tryz.prog 18 #[.int .u64 (x : Int), .int .i64 64, .int .i64 mode] w (fun e w' => e = .returned (.tuple #[.int .u64 V, .int .i64 F, .int .i64 0]) ∧ Within w w') := by
  have HV := Lib.hid hV; clear hV
  have L1 := Lib.hid (show (dg (1 : Int).natAbs).length ≤ 400000 from Nat.le_trans (dg_small (k := 1) (by decide)) (by decide))
  have LE := Lib.hid (show (dg (18446744073709551616 : Int).natAbs).length ≤ 400000 from Nat.le_trans (dg_small (k := 3) (by decide)) (by decide))
  go_enter Tryz.func18, Tryz.ntmps18
  go_wp2_with fail
  refine (KN.out _).mono ?_; rintro e0 w0 ⟨rfl, rfl⟩
  go_wp2_with fail
  refine (Rwidth_64 _).mono ?_; rintro e9 w9 ⟨rfl, rfl⟩
  go_wp2_with fail
  refine (BnewInt 1 (by decide) (by decide) _).mono ?_; rintro e1 w1 ⟨g1, rfl, hI1, hg1, hb1'⟩
  have hb1 : Within w w1 := ((Within.refl w).alloc _).trans hb1'
  have t1 : IntTy w1 w.heap.size := (ty_new w _ _ _ rfl).of hb1'
  go_wp2_with fail
  refine (Blsh w.heap.size g1 64 1 L1.out (by decide) w1 t1 hI1).mono ?_; rintro e2 w2 ⟨rfl, hI2, hG2⟩
  have hb2 : Within w w2 := Within.grown hb1 hG2 (Nat.le_refl _)
  clear hG2 t1 hI1 hg1 hb1'
  rw [show (1 : Int) * 2 ^ 64 = 18446744073709551616 by decide] at hI2
  go_wp2_with fail
  refine (BnewInt 1 (by decide) (by decide) _).mono ?_; rintro e3 w3 ⟨g3, rfl, hI3, hg3, hb3'⟩
  have hb3 : Within w2 w3 := ((Within.refl w2).alloc _).trans hb3'
  have hI0 : IntB w3 w2.heap.size 0 := (ib_new w2 _ rfl).of hb3'
  have hl2 := hI2.lt
  have hI2 := hI2.of hb3
  have hty := hI2.ty
  go_wp2_with fail
  refine (BSub w.heap.size w.heap.size g3 (18446744073709551616) 1 (Nat.le_trans LE.out (by decide)) (Nat.le_trans L1.out (by decide)) w3 hty hI2 hI3).mono ?_; rintro e4 w4 ⟨rfl, hI4, hG4⟩
  have hw4 : Within w w4 := Within.grown (hb2.trans hb3) hG4 (Nat.le_refl _)
  have hI0 := hI0.grown hty (by omega) hG4
  clear hG4
  rw [show (18446744073709551616 : Int) - 1 = 18446744073709551615 by decide] at hI4
  go_wp2_with fail
  refine (WN.out _ _ _ hI0 hI4).mono ?_; rintro e6 w6 ⟨g6, rfl, hI6, hb6⟩
  have hw6 := hw4.trans hb6
  go_wp2_with fail
  refine (Buint64 g6 V HV.out.2 _ hI6).mono ?_; rintro e7 w7 ⟨rfl, rfl⟩
  rw [HV.out.1]
  go_wp2
  go_ret3
  exact ⟨rfl, hw6⟩
set_option maxRecDepth 100000 in
set_option maxHeartbeats 600000 in
theorem RWhole_mode (x : Nat) (mode : Int) (KN : Hid (∀ w, Calls Tryz.prog 47 #[.int .i64 mode] w (fun e w' => e = .returned (.bool false) ∧ w = w'))) (w : World) : Calls Tryz.prog 13 #[.int .u64 (x : Int), .int .i64 mode] w (fun e w' => e = .returned (.tuple #[.int .u64 0, .int .i64 0, .int .i64 20]) ∧ Within w w') := by
  go_enter Tryz.func13, Tryz.ntmps13
  go_wp2_with fail
  refine (KN.out _).mono ?_; rintro e0 w0 ⟨rfl, rfl⟩
  go_wp2
  go_ret3
  exact ⟨rfl, (by repeat (first | with_reducible exact Within.refl _ | with_reducible assumption | with_reducible refine Within.alloc ?_ _ | with_reducible refine Within.drew ?_ | with_reducible refine Within.drewN ?_ _ | with_reducible refine Within.setCell ?_ (by first | (simp; done) | (simp; omega)) _ | with_reducible refine Within.trans ?_ (by assumption)))⟩
set_option maxRecDepth 100000 in
set_option maxHeartbeats 600000 in
theorem RWhole_kind (x M Wd : Nat) (k E mode F : Int) (b : Bool) (hk : (k != 0) = true) (KN : Hid (∀ w, Calls Tryz.prog 47 #[.int .i64 mode] w (fun e w' => e = .returned (.bool true) ∧ w = w'))) (TK : Hid (∀ w, Calls Tryz.prog 49 #[fmD, .int .u64 (x : Int)] w (fun e w' => ∃ g, e = .returned (.agg #[.int .i64 k, .bool b, .pointer (some ⟨g, 0, none⟩), .int .i64 E]) ∧ IntB w' g (M : Int) ∧ w.heap.size ≤ g ∧ Within w w'))) (SM : Hid (∀ w g, IntB w g (M : Int) → Calls Tryz.prog 51 #[fmD, .agg #[.int .i64 k, .bool b, .pointer (some ⟨g, 0, none⟩), .int .i64 E], .int .i64 mode] w (fun e' w' => e' = .returned (.tuple #[.int .u64 (Wd : Int), .int .i64 F]) ∧ Within w w'))) (w : World) : Calls Tryz.prog 13 #[.int .u64 (x : Int), .int .i64 mode] w (fun e w' => e = .returned (.tuple #[.int .u64 (Wd : Int), .int .i64 0, .int .i64 0]) ∧ Within w w') := by
  go_enter Tryz.func13, Tryz.ntmps13
  go_wp2_with fail
  refine (KN.out _).mono ?_; rintro e0 w0 ⟨rfl, rfl⟩
  go_wp2_with fail
  refine (RDouble _).mono ?_; rintro e1 w1 ⟨rfl, hb1⟩
  go_wp2_with fail
  refine (TK.out _).mono ?_; rintro e2 w2 ⟨g, rfl, hI2, hg2, hb2'⟩
  have hb2 := hb1.trans hb2'
  clear hb2' hg2
  go_upto_region 5 with fail
  refine wp_region_schG (fun W => W.cell? ⟨w2.heap.size, 0, none⟩ = some (.int .i64 k) ∧ W.cell? ⟨w2.heap.size, 1, none⟩ = some (.bool b) ∧ W.cell? ⟨w2.heap.size, 2, none⟩ = some (.pointer (some ⟨g, 0, none⟩)) ∧ W.cell? ⟨w2.heap.size, 3, none⟩ = some (.int .i64 E) ∧ IntB W g (M : Int) ∧ w2.heap.size < W.heap.size ∧ Within w W) 8 (.firm 1 (.firm 2 (.one 0 (.one 3 (.firm 4 (.firm 5 (.firm 6 (.firm 7 (.one 8 .nil))))))))) (by kernel_rfl) (by kernel_rfl) ⟨by go_simp, by go_simp, by go_simp, by go_simp, (by repeat (first | with_reducible assumption | with_reducible exact ib_new _ _ (by simp; done) | with_reducible refine IntB.alloc ?_ _ | with_reducible refine IntB.drew ?_ | with_reducible refine IntB.drewN ?_ _)), (by first | (simp; done) | (simp; omega)), (by repeat (first | with_reducible exact Within.refl _ | with_reducible assumption | with_reducible refine Within.alloc ?_ _ | with_reducible refine Within.drew ?_ | with_reducible refine Within.drewN ?_ _ | with_reducible refine Within.setCell ?_ (by first | (simp; done) | (simp; omega)) _ | with_reducible refine Within.trans ?_ (by assumption)))⟩ ?_
  rintro w0 ⟨c0, c1, c2, c3, hJ, hs, hw0⟩
  try simp only [Act.put, List.setIfInBounds_toArray, List.set_cons_zero, List.set_cons_succ]
  apply sch_firm rfl rfl (by repeat (first | with_reducible exact Within.refl _ | with_reducible assumption | with_reducible refine Within.alloc ?_ _ | with_reducible refine Within.drew ?_ | with_reducible refine Within.drewN ?_ _ | with_reducible refine Within.setCell ?_ (by first | (simp; done) | (simp; omega)) _ | with_reducible refine Within.trans ?_ (by assumption)))
  · intro wq hq
    have hcq := hq.cells
    clear hq
    go_simp
    first | rfl | (trace_state; fail)
  try simp only [Act.put, List.setIfInBounds_toArray, List.set_cons_zero, List.set_cons_succ]
  apply sch_firm rfl rfl (by repeat (first | with_reducible exact Within.refl _ | with_reducible assumption | with_reducible refine Within.alloc ?_ _ | with_reducible refine Within.drew ?_ | with_reducible refine Within.drewN ?_ _ | with_reducible refine Within.setCell ?_ (by first | (simp; done) | (simp; omega)) _ | with_reducible refine Within.trans ?_ (by assumption)))
  · intro wq hq
    have hcq := hq.cells
    clear hq
    go_simp
    first | rfl | (trace_state; fail)
  try simp only [Act.put, List.setIfInBounds_toArray, List.set_cons_zero, List.set_cons_succ]
  refine sch_one rfl rfl (fun K hK => ?_)
  go_simp
  refine (RDouble _).mono ?_; rintro e5 w5 ⟨rfl, hv5'⟩
  have hv5 : Within w0 w5 := Within.trans (Within.refl w0).drew hv5'
  have hJ5 := hJ.of hv5
  refine hK _ _ (fun _ => (by repeat (first | with_reducible exact Within.refl _ | with_reducible assumption | with_reducible refine Within.alloc ?_ _ | with_reducible refine Within.drew ?_ | with_reducible refine Within.drewN ?_ _ | with_reducible refine Within.setCell ?_ (by first | (simp; done) | (simp; omega)) _ | with_reducible refine Within.trans ?_ (by assumption)))) ?_
  clear hK K
  try simp only [Act.put, List.setIfInBounds_toArray, List.set_cons_zero, List.set_cons_succ]
  refine sch_one rfl rfl (fun K hK => ?_)
  go_simp
  refine (SM.out _ _ (by exact hJ5)).mono ?_; rintro e6 w6 ⟨rfl, hv6'⟩
  have hv6 := hv5.trans hv6'
  refine hK _ _ (fun _ => (by repeat (first | with_reducible exact Within.refl _ | with_reducible assumption | with_reducible refine Within.alloc ?_ _ | with_reducible refine Within.drew ?_ | with_reducible refine Within.drewN ?_ _ | with_reducible refine Within.setCell ?_ (by first | (simp; done) | (simp; omega)) _ | with_reducible refine Within.trans ?_ (by assumption)))) ?_
  clear hK K
  try simp only [Act.put, List.setIfInBounds_toArray, List.set_cons_zero, List.set_cons_succ]
  apply sch_firm rfl rfl (by repeat (first | with_reducible exact Within.refl _ | with_reducible assumption | with_reducible refine Within.alloc ?_ _ | with_reducible refine Within.drew ?_ | with_reducible refine Within.drewN ?_ _ | with_reducible refine Within.setCell ?_ (by first | (simp; done) | (simp; omega)) _ | with_reducible refine Within.trans ?_ (by assumption)))
  · intro wq hq
    have hcq := hq.cells
    clear hq
    go_simp
    first | rfl | (trace_state; fail)
  try simp only [Act.put, List.setIfInBounds_toArray, List.set_cons_zero, List.set_cons_succ]
  apply sch_firm rfl rfl (by repeat (first | with_reducible exact Within.refl _ | with_reducible assumption | with_reducible refine Within.alloc ?_ _ | with_reducible refine Within.drew ?_ | with_reducible refine Within.drewN ?_ _ | with_reducible refine Within.setCell ?_ (by first | (simp; done) | (simp; omega)) _ | with_reducible refine Within.trans ?_ (by assumption)))
  · intro wq hq
    have hcq := hq.cells
    clear hq
    go_simp
    first | rfl | (trace_state; fail)
  try simp only [Act.put, List.setIfInBounds_toArray, List.set_cons_zero, List.set_cons_succ]
  apply sch_firm rfl rfl (by repeat (first | with_reducible exact Within.refl _ | with_reducible assumption | with_reducible refine Within.alloc ?_ _ | with_reducible refine Within.drew ?_ | with_reducible refine Within.drewN ?_ _ | with_reducible refine Within.setCell ?_ (by first | (simp; done) | (simp; omega)) _ | with_reducible refine Within.trans ?_ (by assumption)))
  · intro wq hq
    have hcq := hq.cells
    clear hq
    go_simp
    first | rfl | (trace_state; fail)
  try simp only [Act.put, List.setIfInBounds_toArray, List.set_cons_zero, List.set_cons_succ]
  apply sch_firm rfl rfl (by repeat (first | with_reducible exact Within.refl _ | with_reducible assumption | with_reducible refine Within.alloc ?_ _ | with_reducible refine Within.drew ?_ | with_reducible refine Within.drewN ?_ _ | with_reducible refine Within.setCell ?_ (by first | (simp; done) | (simp; omega)) _ | with_reducible refine Within.trans ?_ (by assumption)))
  · intro wq hq
    have hcq := hq.cells
    clear hq
    go_simp
    first | rfl | (trace_state; fail)
  try simp only [Act.put, List.setIfInBounds_toArray, List.set_cons_zero, List.set_cons_succ]
  refine sch_one rfl rfl (fun K hK => ?_)
  go_simp
  refine hK _ _ (fun h => absurd h (by decide)) ?_
  clear hK K
  try simp only [Act.put, List.setIfInBounds_toArray, List.set_cons_zero, List.set_cons_succ]
  refine sch_nil ?_
  have hw6 := hw0.trans hv6
  go_wp2
  go_ret3
  exact ⟨rfl, hw6⟩
set_option maxRecDepth 100000 in
set_option maxHeartbeats 600000 in
theorem RWhole_zero (x M Wd : Nat) (E mode F : Int) (b : Bool) (hm : (M : Int) = 0) (KN : Hid (∀ w, Calls Tryz.prog 47 #[.int .i64 mode] w (fun e w' => e = .returned (.bool true) ∧ w = w'))) (TK : Hid (∀ w, Calls Tryz.prog 49 #[fmD, .int .u64 (x : Int)] w (fun e w' => ∃ g, e = .returned (.agg #[.int .i64 0, .bool b, .pointer (some ⟨g, 0, none⟩), .int .i64 E]) ∧ IntB w' g (M : Int) ∧ w.heap.size ≤ g ∧ Within w w'))) (SM : Hid (∀ w g, IntB w g (M : Int) → Calls Tryz.prog 51 #[fmD, .agg #[.int .i64 0, .bool b, .pointer (some ⟨g, 0, none⟩), .int .i64 E], .int .i64 mode] w (fun e' w' => e' = .returned (.tuple #[.int .u64 (Wd : Int), .int .i64 F]) ∧ Within w w'))) (w : World) : Calls Tryz.prog 13 #[.int .u64 (x : Int), .int .i64 mode] w (fun e w' => e = .returned (.tuple #[.int .u64 (Wd : Int), .int .i64 0, .int .i64 0]) ∧ Within w w') := by
  go_enter Tryz.func13, Tryz.ntmps13
  go_wp2_with fail
  refine (KN.out _).mono ?_; rintro e0 w0 ⟨rfl, rfl⟩
  go_wp2_with fail
  refine (RDouble _).mono ?_; rintro e1 w1 ⟨rfl, hb1⟩
  go_wp2_with fail
  refine (TK.out _).mono ?_; rintro e2 w2 ⟨g, rfl, hI2, hg2, hb2'⟩
  have hb2 := hb1.trans hb2'
  clear hb2' hg2
  go_wp2_with fail
  refine (Riszero_zero 0 E (M : Int) b g rfl hm _ (by repeat (first | with_reducible assumption | with_reducible exact ib_new _ _ (by simp; done) | with_reducible refine IntB.alloc ?_ _ | with_reducible refine IntB.drew ?_ | with_reducible refine IntB.drewN ?_ _))).mono ?_; rintro e3 w3 ⟨rfl, hb3⟩
  have r0 : w3.cell? ⟨w2.heap.size, 0, none⟩ = some (.int .i64 0) := (hb3.cells _ _ (by first | (simp; done) | (simp; omega))).trans (by go_simp)
  have r1 : w3.cell? ⟨w2.heap.size, 1, none⟩ = some (.bool b) := (hb3.cells _ _ (by first | (simp; done) | (simp; omega))).trans (by go_simp)
  have r2 : w3.cell? ⟨w2.heap.size, 2, none⟩ = some (.pointer (some ⟨g, 0, none⟩)) := (hb3.cells _ _ (by first | (simp; done) | (simp; omega))).trans (by go_simp)
  have r3 : w3.cell? ⟨w2.heap.size, 3, none⟩ = some (.int .i64 E) := (hb3.cells _ _ (by first | (simp; done) | (simp; omega))).trans (by go_simp)
  have hs3 : w2.heap.size < w3.heap.size := World.block_lt_of_cell? w3 _ r0
  have hw3 : Within w w3 := Within.trans (by repeat (first | with_reducible exact Within.refl _ | with_reducible assumption | with_reducible refine Within.alloc ?_ _ | with_reducible refine Within.drew ?_ | with_reducible refine Within.drewN ?_ _ | with_reducible refine Within.setCell ?_ (by first | (simp; done) | (simp; omega)) _ | with_reducible refine Within.trans ?_ (by assumption))) hb3
  have hI3 : IntB w3 g (M : Int) := IntB.of (by repeat (first | with_reducible assumption | with_reducible exact ib_new _ _ (by simp; done) | with_reducible refine IntB.alloc ?_ _ | with_reducible refine IntB.drew ?_ | with_reducible refine IntB.drewN ?_ _)) hb3
  clear hb3
  go_upto_region 5 with fail
  refine wp_region_schG (fun W => W.cell? ⟨w2.heap.size, 0, none⟩ = some (.int .i64 0) ∧ W.cell? ⟨w2.heap.size, 1, none⟩ = some (.bool b) ∧ W.cell? ⟨w2.heap.size, 2, none⟩ = some (.pointer (some ⟨g, 0, none⟩)) ∧ W.cell? ⟨w2.heap.size, 3, none⟩ = some (.int .i64 E) ∧ IntB W g (M : Int) ∧ w2.heap.size < W.heap.size ∧ Within w W) 8 (.firm 1 (.firm 2 (.one 0 (.one 3 (.firm 4 (.firm 5 (.firm 6 (.firm 7 (.one 8 .nil))))))))) (by kernel_rfl) (by kernel_rfl) ⟨r0, r1, r2, r3, hI3, hs3, hw3⟩ ?_
  rintro w0 ⟨c0, c1, c2, c3, hJ, hs, hw0⟩
  try simp only [Act.put, List.setIfInBounds_toArray, List.set_cons_zero, List.set_cons_succ]
  apply sch_firm rfl rfl (by repeat (first | with_reducible exact Within.refl _ | with_reducible assumption | with_reducible refine Within.alloc ?_ _ | with_reducible refine Within.drew ?_ | with_reducible refine Within.drewN ?_ _ | with_reducible refine Within.setCell ?_ (by first | (simp; done) | (simp; omega)) _ | with_reducible refine Within.trans ?_ (by assumption)))
  · intro wq hq
    have hcq := hq.cells
    clear hq
    go_simp
    first | rfl | (trace_state; fail)
  try simp only [Act.put, List.setIfInBounds_toArray, List.set_cons_zero, List.set_cons_succ]
  apply sch_firm rfl rfl (by repeat (first | with_reducible exact Within.refl _ | with_reducible assumption | with_reducible refine Within.alloc ?_ _ | with_reducible refine Within.drew ?_ | with_reducible refine Within.drewN ?_ _ | with_reducible refine Within.setCell ?_ (by first | (simp; done) | (simp; omega)) _ | with_reducible refine Within.trans ?_ (by assumption)))
  · intro wq hq
    have hcq := hq.cells
    clear hq
    go_simp
    first | rfl | (trace_state; fail)
  try simp only [Act.put, List.setIfInBounds_toArray, List.set_cons_zero, List.set_cons_succ]
  refine sch_one rfl rfl (fun K hK => ?_)
  go_simp
  refine (RDouble _).mono ?_; rintro e5 w5 ⟨rfl, hv5'⟩
  have hv5 : Within w0 w5 := Within.trans (Within.refl w0).drew hv5'
  have hJ5 := hJ.of hv5
  refine hK _ _ (fun _ => (by repeat (first | with_reducible exact Within.refl _ | with_reducible assumption | with_reducible refine Within.alloc ?_ _ | with_reducible refine Within.drew ?_ | with_reducible refine Within.drewN ?_ _ | with_reducible refine Within.setCell ?_ (by first | (simp; done) | (simp; omega)) _ | with_reducible refine Within.trans ?_ (by assumption)))) ?_
  clear hK K
  try simp only [Act.put, List.setIfInBounds_toArray, List.set_cons_zero, List.set_cons_succ]
  refine sch_one rfl rfl (fun K hK => ?_)
  go_simp
  refine (SM.out _ _ (by exact hJ5)).mono ?_; rintro e6 w6 ⟨rfl, hv6'⟩
  have hv6 := hv5.trans hv6'
  refine hK _ _ (fun _ => (by repeat (first | with_reducible exact Within.refl _ | with_reducible assumption | with_reducible refine Within.alloc ?_ _ | with_reducible refine Within.drew ?_ | with_reducible refine Within.drewN ?_ _ | with_reducible refine Within.setCell ?_ (by first | (simp; done) | (simp; omega)) _ | with_reducible refine Within.trans ?_ (by assumption)))) ?_
  clear hK K
  try simp only [Act.put, List.setIfInBounds_toArray, List.set_cons_zero, List.set_cons_succ]
  apply sch_firm rfl rfl (by repeat (first | with_reducible exact Within.refl _ | with_reducible assumption | with_reducible refine Within.alloc ?_ _ | with_reducible refine Within.drew ?_ | with_reducible refine Within.drewN ?_ _ | with_reducible refine Within.setCell ?_ (by first | (simp; done) | (simp; omega)) _ | with_reducible refine Within.trans ?_ (by assumption)))
  · intro wq hq
    have hcq := hq.cells
    clear hq
    go_simp
    first | rfl | (trace_state; fail)
  try simp only [Act.put, List.setIfInBounds_toArray, List.set_cons_zero, List.set_cons_succ]
  apply sch_firm rfl rfl (by repeat (first | with_reducible exact Within.refl _ | with_reducible assumption | with_reducible refine Within.alloc ?_ _ | with_reducible refine Within.drew ?_ | with_reducible refine Within.drewN ?_ _ | with_reducible refine Within.setCell ?_ (by first | (simp; done) | (simp; omega)) _ | with_reducible refine Within.trans ?_ (by assumption)))
  · intro wq hq
    have hcq := hq.cells
    clear hq
    go_simp
    first | rfl | (trace_state; fail)
  try simp only [Act.put, List.setIfInBounds_toArray, List.set_cons_zero, List.set_cons_succ]
  apply sch_firm rfl rfl (by repeat (first | with_reducible exact Within.refl _ | with_reducible assumption | with_reducible refine Within.alloc ?_ _ | with_reducible refine Within.drew ?_ | with_reducible refine Within.drewN ?_ _ | with_reducible refine Within.setCell ?_ (by first | (simp; done) | (simp; omega)) _ | with_reducible refine Within.trans ?_ (by assumption)))
  · intro wq hq
    have hcq := hq.cells
    clear hq
    go_simp
    first | rfl | (trace_state; fail)
  try simp only [Act.put, List.setIfInBounds_toArray, List.set_cons_zero, List.set_cons_succ]
  apply sch_firm rfl rfl (by repeat (first | with_reducible exact Within.refl _ | with_reducible assumption | with_reducible refine Within.alloc ?_ _ | with_reducible refine Within.drew ?_ | with_reducible refine Within.drewN ?_ _ | with_reducible refine Within.setCell ?_ (by first | (simp; done) | (simp; omega)) _ | with_reducible refine Within.trans ?_ (by assumption)))
  · intro wq hq
    have hcq := hq.cells
    clear hq
    go_simp
    first | rfl | (trace_state; fail)
  try simp only [Act.put, List.setIfInBounds_toArray, List.set_cons_zero, List.set_cons_succ]
  refine sch_one rfl rfl (fun K hK => ?_)
  go_simp
  refine hK _ _ (fun h => absurd h (by decide)) ?_
  clear hK K
  try simp only [Act.put, List.setIfInBounds_toArray, List.set_cons_zero, List.set_cons_succ]
  refine sch_nil ?_
  have hw6 := hw0.trans hv6
  go_wp2
  go_ret3
  exact ⟨rfl, hw6⟩
set_option maxRecDepth 100000 in
set_option maxHeartbeats 600000 in
theorem RWhole_none0 (x M Q Wd : Nat) (E mode : Int) (b : Bool) (hF : True) (hm : (M : Int) ≠ 0) (hq : (Q : Int) = 0) (KN : Hid (∀ w, Calls Tryz.prog 47 #[.int .i64 mode] w (fun e w' => e = .returned (.bool true) ∧ w = w'))) (TK : Hid (∀ w, Calls Tryz.prog 49 #[fmD, .int .u64 (x : Int)] w (fun e w' => ∃ g, e = .returned (.agg #[.int .i64 0, .bool b, .pointer (some ⟨g, 0, none⟩), .int .i64 E]) ∧ IntB w' g (M : Int) ∧ w.heap.size ≤ g ∧ Within w w'))) (WHH : Hid (∀ w g, IntB w g (M : Int) → Calls Tryz.prog 52 #[.agg #[.int .i64 0, .bool b, .pointer (some ⟨g, 0, none⟩), .int .i64 E], .int .i64 mode] w (WhI w Q false))) (NO : Hid (∀ w, Calls Tryz.prog 54 #[fmD, .bool b] w (fun e w' => e = .returned (.int .u64 (Wd : Int)) ∧ Within w w'))) (w : World) : Calls Tryz.prog 13 #[.int .u64 (x : Int), .int .i64 mode] w (fun e w' => e = .returned (.tuple #[.int .u64 (Wd : Int), .int .i64 0, .int .i64 0]) ∧ Within w w') := by
  have dq : ((Q : Int).sign == 0) = true := by rw [hq]; rfl
  clear hq
  have HF := Lib.hid hF; clear hF
  go_enter Tryz.func13, Tryz.ntmps13
  go_wp2_with fail
  refine (KN.out _).mono ?_; rintro e0 w0 ⟨rfl, rfl⟩
  go_wp2_with fail
  refine (RDouble _).mono ?_; rintro e1 w1 ⟨rfl, hb1⟩
  go_wp2_with fail
  refine (TK.out _).mono ?_; rintro e2 w2 ⟨g, rfl, hI2, hg2, hb2'⟩
  have hb2 := hb1.trans hb2'
  clear hb2' hg2
  go_wp2_with fail
  refine (Riszero_some 0 E (M : Int) b g rfl hm _ (by repeat (first | with_reducible assumption | with_reducible exact ib_new _ _ (by simp; done) | with_reducible refine IntB.alloc ?_ _ | with_reducible refine IntB.drew ?_ | with_reducible refine IntB.drewN ?_ _))).mono ?_; rintro e3 w3 ⟨rfl, hb3⟩
  have r0 : w3.cell? ⟨w2.heap.size, 0, none⟩ = some (.int .i64 0) := (hb3.cells _ _ (by first | (simp; done) | (simp; omega))).trans (by go_simp)
  have r1 : w3.cell? ⟨w2.heap.size, 1, none⟩ = some (.bool b) := (hb3.cells _ _ (by first | (simp; done) | (simp; omega))).trans (by go_simp)
  have r2 : w3.cell? ⟨w2.heap.size, 2, none⟩ = some (.pointer (some ⟨g, 0, none⟩)) := (hb3.cells _ _ (by first | (simp; done) | (simp; omega))).trans (by go_simp)
  have r3 : w3.cell? ⟨w2.heap.size, 3, none⟩ = some (.int .i64 E) := (hb3.cells _ _ (by first | (simp; done) | (simp; omega))).trans (by go_simp)
  have hs3 : w2.heap.size < w3.heap.size := World.block_lt_of_cell? w3 _ r0
  have hw3 : Within w w3 := Within.trans (by repeat (first | with_reducible exact Within.refl _ | with_reducible assumption | with_reducible refine Within.alloc ?_ _ | with_reducible refine Within.drew ?_ | with_reducible refine Within.drewN ?_ _ | with_reducible refine Within.setCell ?_ (by first | (simp; done) | (simp; omega)) _ | with_reducible refine Within.trans ?_ (by assumption))) hb3
  have hI3 : IntB w3 g (M : Int) := IntB.of (by repeat (first | with_reducible assumption | with_reducible exact ib_new _ _ (by simp; done) | with_reducible refine IntB.alloc ?_ _ | with_reducible refine IntB.drew ?_ | with_reducible refine IntB.drewN ?_ _)) hb3
  clear hb3
  go_wp2_with fail
  refine (WHH.out _ _ hI3).mono ?_; rintro e4 w4 ⟨q, rfl, hI4, hq4, hb4⟩
  have u0 := (hb4.cells _ 0 hs3).trans r0
  have u1 := (hb4.cells _ 1 hs3).trans r1
  have u2 := (hb4.cells _ 2 hs3).trans r2
  have u3 := (hb4.cells _ 3 hs3).trans r3
  have hs4 : w2.heap.size < w4.heap.size := Nat.lt_of_lt_of_le hs3 hb4.sizes
  have hw4 := hw3.trans hb4
  clear hb4 hI3 hq4 r0 r1 r2 r3
  go_wp2_with fail
  refine (Bsign q (Q : Int) _ hI4).mono ?_; rintro e5 w5 ⟨rfl, rfl⟩
  have hI5 := hI4
  go_upto_region 12 with fail
  refine wp_region_schG (fun W => W.cell? ⟨w2.heap.size, 0, none⟩ = some (.int .i64 0) ∧ W.cell? ⟨w2.heap.size, 1, none⟩ = some (.bool b) ∧ IntB W q (Q : Int) ∧ w2.heap.size < W.heap.size ∧ Within w W) 7 (.firm 1 (.firm 2 (.firm 4 (.one 0 (.one 3 (.firm 5 (.firm 6 (.one 7 .nil)))))))) (by kernel_rfl) (by kernel_rfl) ⟨u0, u1, hI5, hs4, hw4⟩ ?_
  rintro w0 ⟨c0, c1, hJ, hs, hw0⟩
  try simp only [Act.put, List.setIfInBounds_toArray, List.set_cons_zero, List.set_cons_succ]
  apply sch_firm rfl rfl (by repeat (first | with_reducible exact Within.refl _ | with_reducible assumption | with_reducible refine Within.alloc ?_ _ | with_reducible refine Within.drew ?_ | with_reducible refine Within.drewN ?_ _ | with_reducible refine Within.setCell ?_ (by first | (simp; done) | (simp; omega)) _ | with_reducible refine Within.trans ?_ (by assumption)))
  · intro wq hq
    have hcq := hq.cells
    clear hq
    go_simp
    first | rfl | (trace_state; fail)
  try simp only [Act.put, List.setIfInBounds_toArray, List.set_cons_zero, List.set_cons_succ]
  apply sch_firm rfl rfl (by repeat (first | with_reducible exact Within.refl _ | with_reducible assumption | with_reducible refine Within.alloc ?_ _ | with_reducible refine Within.drew ?_ | with_reducible refine Within.drewN ?_ _ | with_reducible refine Within.setCell ?_ (by first | (simp; done) | (simp; omega)) _ | with_reducible refine Within.trans ?_ (by assumption)))
  · intro wq hq
    have hcq := hq.cells
    clear hq
    go_simp
    first | rfl | (trace_state; fail)
  try simp only [Act.put, List.setIfInBounds_toArray, List.set_cons_zero, List.set_cons_succ]
  apply sch_firm rfl rfl (by repeat (first | with_reducible exact Within.refl _ | with_reducible assumption | with_reducible refine Within.alloc ?_ _ | with_reducible refine Within.drew ?_ | with_reducible refine Within.drewN ?_ _ | with_reducible refine Within.setCell ?_ (by first | (simp; done) | (simp; omega)) _ | with_reducible refine Within.trans ?_ (by assumption)))
  · intro wq hq
    have hcq := hq.cells
    clear hq
    go_simp
    first | rfl | (trace_state; fail)
  try simp only [Act.put, List.setIfInBounds_toArray, List.set_cons_zero, List.set_cons_succ]
  refine sch_one rfl rfl (fun K hK => ?_)
  go_simp
  refine (RDouble _).mono ?_; rintro e6 w6 ⟨rfl, hv6'⟩
  have hv6 : Within w0 w6 := Within.trans (Within.refl w0).drew hv6'
  refine hK _ _ (fun _ => (by repeat (first | with_reducible exact Within.refl _ | with_reducible assumption | with_reducible refine Within.alloc ?_ _ | with_reducible refine Within.drew ?_ | with_reducible refine Within.drewN ?_ _ | with_reducible refine Within.setCell ?_ (by first | (simp; done) | (simp; omega)) _ | with_reducible refine Within.trans ?_ (by assumption)))) ?_
  clear hK K
  try simp only [Act.put, List.setIfInBounds_toArray, List.set_cons_zero, List.set_cons_succ]
  refine sch_one rfl rfl (fun K hK => ?_)
  go_simp
  refine (NO.out _).mono ?_; rintro e7 w7 ⟨rfl, hv7'⟩
  have hv7 := hv6.trans hv7'
  refine hK _ _ (fun _ => (by repeat (first | with_reducible exact Within.refl _ | with_reducible assumption | with_reducible refine Within.alloc ?_ _ | with_reducible refine Within.drew ?_ | with_reducible refine Within.drewN ?_ _ | with_reducible refine Within.setCell ?_ (by first | (simp; done) | (simp; omega)) _ | with_reducible refine Within.trans ?_ (by assumption)))) ?_
  clear hK K
  try simp only [Act.put, List.setIfInBounds_toArray, List.set_cons_zero, List.set_cons_succ]
  apply sch_firm rfl rfl (by repeat (first | with_reducible exact Within.refl _ | with_reducible assumption | with_reducible refine Within.alloc ?_ _ | with_reducible refine Within.drew ?_ | with_reducible refine Within.drewN ?_ _ | with_reducible refine Within.setCell ?_ (by first | (simp; done) | (simp; omega)) _ | with_reducible refine Within.trans ?_ (by assumption)))
  · intro wq hq
    have hcq := hq.cells
    clear hq
    go_simp
    first | rfl | (trace_state; fail)
  try simp only [Act.put, List.setIfInBounds_toArray, List.set_cons_zero, List.set_cons_succ]
  apply sch_firm rfl rfl (by repeat (first | with_reducible exact Within.refl _ | with_reducible assumption | with_reducible refine Within.alloc ?_ _ | with_reducible refine Within.drew ?_ | with_reducible refine Within.drewN ?_ _ | with_reducible refine Within.setCell ?_ (by first | (simp; done) | (simp; omega)) _ | with_reducible refine Within.trans ?_ (by assumption)))
  · intro wq hq
    have hcq := hq.cells
    clear hq
    go_simp
    first | rfl | (trace_state; fail)
  try simp only [Act.put, List.setIfInBounds_toArray, List.set_cons_zero, List.set_cons_succ]
  refine sch_one rfl rfl (fun K hK => ?_)
  go_simp
  refine hK _ _ (fun h => absurd h (by decide)) ?_
  clear hK K
  try simp only [Act.put, List.setIfInBounds_toArray, List.set_cons_zero, List.set_cons_succ]
  refine sch_nil ?_
  have hw7 := hw0.trans hv7
  go_wp2
  go_ret3
  exact ⟨rfl, hw7⟩
set_option maxRecDepth 100000 in
set_option maxHeartbeats 600000 in
theorem RWhole_some0 (x M Q Wd : Nat) (E mode G : Int) (b : Bool) (hF : True) (hm : (M : Int) ≠ 0) (hq : (Q : Int) ≠ 0) (KN : Hid (∀ w, Calls Tryz.prog 47 #[.int .i64 mode] w (fun e w' => e = .returned (.bool true) ∧ w = w'))) (TK : Hid (∀ w, Calls Tryz.prog 49 #[fmD, .int .u64 (x : Int)] w (fun e w' => ∃ g, e = .returned (.agg #[.int .i64 0, .bool b, .pointer (some ⟨g, 0, none⟩), .int .i64 E]) ∧ IntB w' g (M : Int) ∧ w.heap.size ≤ g ∧ Within w w'))) (WHH : Hid (∀ w g, IntB w g (M : Int) → Calls Tryz.prog 52 #[.agg #[.int .i64 0, .bool b, .pointer (some ⟨g, 0, none⟩), .int .i64 E], .int .i64 mode] w (WhI w Q false))) (RR : Hid (∀ w g, IntB w g (Q : Int) → Calls Tryz.prog 55 #[fmD, .bool b, .pointer (some ⟨g, 0, none⟩), .int .i64 0, .bool false, .int .i64 0] w (fun e' w' => e' = .returned (.tuple #[.int .u64 (Wd : Int), .int .i64 G]) ∧ Within w w'))) (w : World) : Calls Tryz.prog 13 #[.int .u64 (x : Int), .int .i64 mode] w (fun e w' => e = .returned (.tuple #[.int .u64 (Wd : Int), .int .i64 0, .int .i64 0]) ∧ Within w w') := by
  have dq : ((Q : Int).sign == 0) = false := beq_eq_false_iff_ne.2 (fun h => hq (Int.sign_eq_zero_iff_zero.1 h))
  clear hq
  have HF := Lib.hid hF; clear hF
  go_enter Tryz.func13, Tryz.ntmps13
  go_wp2_with fail
  refine (KN.out _).mono ?_; rintro e0 w0 ⟨rfl, rfl⟩
  go_wp2_with fail
  refine (RDouble _).mono ?_; rintro e1 w1 ⟨rfl, hb1⟩
  go_wp2_with fail
  refine (TK.out _).mono ?_; rintro e2 w2 ⟨g, rfl, hI2, hg2, hb2'⟩
  have hb2 := hb1.trans hb2'
  clear hb2' hg2
  go_wp2_with fail
  refine (Riszero_some 0 E (M : Int) b g rfl hm _ (by repeat (first | with_reducible assumption | with_reducible exact ib_new _ _ (by simp; done) | with_reducible refine IntB.alloc ?_ _ | with_reducible refine IntB.drew ?_ | with_reducible refine IntB.drewN ?_ _))).mono ?_; rintro e3 w3 ⟨rfl, hb3⟩
  have r0 : w3.cell? ⟨w2.heap.size, 0, none⟩ = some (.int .i64 0) := (hb3.cells _ _ (by first | (simp; done) | (simp; omega))).trans (by go_simp)
  have r1 : w3.cell? ⟨w2.heap.size, 1, none⟩ = some (.bool b) := (hb3.cells _ _ (by first | (simp; done) | (simp; omega))).trans (by go_simp)
  have r2 : w3.cell? ⟨w2.heap.size, 2, none⟩ = some (.pointer (some ⟨g, 0, none⟩)) := (hb3.cells _ _ (by first | (simp; done) | (simp; omega))).trans (by go_simp)
  have r3 : w3.cell? ⟨w2.heap.size, 3, none⟩ = some (.int .i64 E) := (hb3.cells _ _ (by first | (simp; done) | (simp; omega))).trans (by go_simp)
  have hs3 : w2.heap.size < w3.heap.size := World.block_lt_of_cell? w3 _ r0
  have hw3 : Within w w3 := Within.trans (by repeat (first | with_reducible exact Within.refl _ | with_reducible assumption | with_reducible refine Within.alloc ?_ _ | with_reducible refine Within.drew ?_ | with_reducible refine Within.drewN ?_ _ | with_reducible refine Within.setCell ?_ (by first | (simp; done) | (simp; omega)) _ | with_reducible refine Within.trans ?_ (by assumption))) hb3
  have hI3 : IntB w3 g (M : Int) := IntB.of (by repeat (first | with_reducible assumption | with_reducible exact ib_new _ _ (by simp; done) | with_reducible refine IntB.alloc ?_ _ | with_reducible refine IntB.drew ?_ | with_reducible refine IntB.drewN ?_ _)) hb3
  clear hb3
  go_wp2_with fail
  refine (WHH.out _ _ hI3).mono ?_; rintro e4 w4 ⟨q, rfl, hI4, hq4, hb4⟩
  have u0 := (hb4.cells _ 0 hs3).trans r0
  have u1 := (hb4.cells _ 1 hs3).trans r1
  have u2 := (hb4.cells _ 2 hs3).trans r2
  have u3 := (hb4.cells _ 3 hs3).trans r3
  have hs4 : w2.heap.size < w4.heap.size := Nat.lt_of_lt_of_le hs3 hb4.sizes
  have hw4 := hw3.trans hb4
  clear hb4 hI3 hq4 r0 r1 r2 r3
  go_wp2_with fail
  refine (Bsign q (Q : Int) _ hI4).mono ?_; rintro e5 w5 ⟨rfl, rfl⟩
  have hI5 := hI4
  go_upto_region 13 with fail
  refine wp_region_schG (fun W => W.cell? ⟨w2.heap.size, 0, none⟩ = some (.int .i64 0) ∧ W.cell? ⟨w2.heap.size, 1, none⟩ = some (.bool b) ∧ IntB W q (Q : Int) ∧ w2.heap.size < W.heap.size ∧ Within w W) 9 (.firm 1 (.firm 2 (.firm 3 (.one 0 (.one 4 (.firm 5 (.firm 6 (.firm 7 (.firm 8 (.one 9 .nil)))))))))) (by kernel_rfl) (by kernel_rfl) ⟨u0, u1, hI5, hs4, hw4⟩ ?_
  rintro w0 ⟨c0, c1, hJ, hs, hw0⟩
  try simp only [Act.put, List.setIfInBounds_toArray, List.set_cons_zero, List.set_cons_succ]
  apply sch_firm rfl rfl (by repeat (first | with_reducible exact Within.refl _ | with_reducible assumption | with_reducible refine Within.alloc ?_ _ | with_reducible refine Within.drew ?_ | with_reducible refine Within.drewN ?_ _ | with_reducible refine Within.setCell ?_ (by first | (simp; done) | (simp; omega)) _ | with_reducible refine Within.trans ?_ (by assumption)))
  · intro wq hq
    have hcq := hq.cells
    clear hq
    go_simp
    first | rfl | (trace_state; fail)
  try simp only [Act.put, List.setIfInBounds_toArray, List.set_cons_zero, List.set_cons_succ]
  apply sch_firm rfl rfl (by repeat (first | with_reducible exact Within.refl _ | with_reducible assumption | with_reducible refine Within.alloc ?_ _ | with_reducible refine Within.drew ?_ | with_reducible refine Within.drewN ?_ _ | with_reducible refine Within.setCell ?_ (by first | (simp; done) | (simp; omega)) _ | with_reducible refine Within.trans ?_ (by assumption)))
  · intro wq hq
    have hcq := hq.cells
    clear hq
    go_simp
    first | rfl | (trace_state; fail)
  try simp only [Act.put, List.setIfInBounds_toArray, List.set_cons_zero, List.set_cons_succ]
  apply sch_firm rfl rfl (by repeat (first | with_reducible exact Within.refl _ | with_reducible assumption | with_reducible refine Within.alloc ?_ _ | with_reducible refine Within.drew ?_ | with_reducible refine Within.drewN ?_ _ | with_reducible refine Within.setCell ?_ (by first | (simp; done) | (simp; omega)) _ | with_reducible refine Within.trans ?_ (by assumption)))
  · intro wq hq
    have hcq := hq.cells
    clear hq
    go_simp
    first | rfl | (trace_state; fail)
  try simp only [Act.put, List.setIfInBounds_toArray, List.set_cons_zero, List.set_cons_succ]
  refine sch_one rfl rfl (fun K hK => ?_)
  go_simp
  refine (RDouble _).mono ?_; rintro e6 w6 ⟨rfl, hv6'⟩
  have hv6 : Within w0 w6 := Within.trans (Within.refl w0).drew hv6'
  have hJ6 := hJ.of hv6
  refine hK _ _ (fun _ => (by repeat (first | with_reducible exact Within.refl _ | with_reducible assumption | with_reducible refine Within.alloc ?_ _ | with_reducible refine Within.drew ?_ | with_reducible refine Within.drewN ?_ _ | with_reducible refine Within.setCell ?_ (by first | (simp; done) | (simp; omega)) _ | with_reducible refine Within.trans ?_ (by assumption)))) ?_
  clear hK K
  try simp only [Act.put, List.setIfInBounds_toArray, List.set_cons_zero, List.set_cons_succ]
  refine sch_one rfl rfl (fun K hK => ?_)
  go_simp
  refine (RR.out _ _ (by exact hJ6)).mono ?_; rintro e7 w7 ⟨rfl, hv7'⟩
  have hv7 := hv6.trans hv7'
  refine hK _ _ (fun _ => (by repeat (first | with_reducible exact Within.refl _ | with_reducible assumption | with_reducible refine Within.alloc ?_ _ | with_reducible refine Within.drew ?_ | with_reducible refine Within.drewN ?_ _ | with_reducible refine Within.setCell ?_ (by first | (simp; done) | (simp; omega)) _ | with_reducible refine Within.trans ?_ (by assumption)))) ?_
  clear hK K
  try simp only [Act.put, List.setIfInBounds_toArray, List.set_cons_zero, List.set_cons_succ]
  apply sch_firm rfl rfl (by repeat (first | with_reducible exact Within.refl _ | with_reducible assumption | with_reducible refine Within.alloc ?_ _ | with_reducible refine Within.drew ?_ | with_reducible refine Within.drewN ?_ _ | with_reducible refine Within.setCell ?_ (by first | (simp; done) | (simp; omega)) _ | with_reducible refine Within.trans ?_ (by assumption)))
  · intro wq hq
    have hcq := hq.cells
    clear hq
    go_simp
    first | rfl | (trace_state; fail)
  try simp only [Act.put, List.setIfInBounds_toArray, List.set_cons_zero, List.set_cons_succ]
  apply sch_firm rfl rfl (by repeat (first | with_reducible exact Within.refl _ | with_reducible assumption | with_reducible refine Within.alloc ?_ _ | with_reducible refine Within.drew ?_ | with_reducible refine Within.drewN ?_ _ | with_reducible refine Within.setCell ?_ (by first | (simp; done) | (simp; omega)) _ | with_reducible refine Within.trans ?_ (by assumption)))
  · intro wq hq
    have hcq := hq.cells
    clear hq
    go_simp
    first | rfl | (trace_state; fail)
  try simp only [Act.put, List.setIfInBounds_toArray, List.set_cons_zero, List.set_cons_succ]
  apply sch_firm rfl rfl (by repeat (first | with_reducible exact Within.refl _ | with_reducible assumption | with_reducible refine Within.alloc ?_ _ | with_reducible refine Within.drew ?_ | with_reducible refine Within.drewN ?_ _ | with_reducible refine Within.setCell ?_ (by first | (simp; done) | (simp; omega)) _ | with_reducible refine Within.trans ?_ (by assumption)))
  · intro wq hq
    have hcq := hq.cells
    clear hq
    go_simp
    first | rfl | (trace_state; fail)
  try simp only [Act.put, List.setIfInBounds_toArray, List.set_cons_zero, List.set_cons_succ]
  apply sch_firm rfl rfl (by repeat (first | with_reducible exact Within.refl _ | with_reducible assumption | with_reducible refine Within.alloc ?_ _ | with_reducible refine Within.drew ?_ | with_reducible refine Within.drewN ?_ _ | with_reducible refine Within.setCell ?_ (by first | (simp; done) | (simp; omega)) _ | with_reducible refine Within.trans ?_ (by assumption)))
  · intro wq hq
    have hcq := hq.cells
    clear hq
    go_simp
    first | rfl | (trace_state; fail)
  try simp only [Act.put, List.setIfInBounds_toArray, List.set_cons_zero, List.set_cons_succ]
  refine sch_one rfl rfl (fun K hK => ?_)
  go_simp
  refine hK _ _ (fun h => absurd h (by decide)) ?_
  clear hK K
  try simp only [Act.put, List.setIfInBounds_toArray, List.set_cons_zero, List.set_cons_succ]
  refine sch_nil ?_
  have hw7 := hw0.trans hv7
  go_wp2
  go_ret3
  exact ⟨rfl, hw7⟩
set_option maxRecDepth 100000 in
set_option maxHeartbeats 600000 in
theorem RWhole_none1 (x M Q Wd : Nat) (E mode : Int) (b : Bool) (hF : True) (hm : (M : Int) ≠ 0) (hq : (Q : Int) = 0) (KN : Hid (∀ w, Calls Tryz.prog 47 #[.int .i64 mode] w (fun e w' => e = .returned (.bool true) ∧ w = w'))) (TK : Hid (∀ w, Calls Tryz.prog 49 #[fmD, .int .u64 (x : Int)] w (fun e w' => ∃ g, e = .returned (.agg #[.int .i64 0, .bool b, .pointer (some ⟨g, 0, none⟩), .int .i64 E]) ∧ IntB w' g (M : Int) ∧ w.heap.size ≤ g ∧ Within w w'))) (WHH : Hid (∀ w g, IntB w g (M : Int) → Calls Tryz.prog 52 #[.agg #[.int .i64 0, .bool b, .pointer (some ⟨g, 0, none⟩), .int .i64 E], .int .i64 mode] w (WhI w Q true))) (NO : Hid (∀ w, Calls Tryz.prog 54 #[fmD, .bool b] w (fun e w' => e = .returned (.int .u64 (Wd : Int)) ∧ Within w w'))) (w : World) : Calls Tryz.prog 13 #[.int .u64 (x : Int), .int .i64 mode] w (fun e w' => e = .returned (.tuple #[.int .u64 (Wd : Int), .int .i64 1, .int .i64 0]) ∧ Within w w') := by
  have dq : ((Q : Int).sign == 0) = true := by rw [hq]; rfl
  clear hq
  have HF := Lib.hid hF; clear hF
  go_enter Tryz.func13, Tryz.ntmps13
  go_wp2_with fail
  refine (KN.out _).mono ?_; rintro e0 w0 ⟨rfl, rfl⟩
  go_wp2_with fail
  refine (RDouble _).mono ?_; rintro e1 w1 ⟨rfl, hb1⟩
  go_wp2_with fail
  refine (TK.out _).mono ?_; rintro e2 w2 ⟨g, rfl, hI2, hg2, hb2'⟩
  have hb2 := hb1.trans hb2'
  clear hb2' hg2
  go_wp2_with fail
  refine (Riszero_some 0 E (M : Int) b g rfl hm _ (by repeat (first | with_reducible assumption | with_reducible exact ib_new _ _ (by simp; done) | with_reducible refine IntB.alloc ?_ _ | with_reducible refine IntB.drew ?_ | with_reducible refine IntB.drewN ?_ _))).mono ?_; rintro e3 w3 ⟨rfl, hb3⟩
  have r0 : w3.cell? ⟨w2.heap.size, 0, none⟩ = some (.int .i64 0) := (hb3.cells _ _ (by first | (simp; done) | (simp; omega))).trans (by go_simp)
  have r1 : w3.cell? ⟨w2.heap.size, 1, none⟩ = some (.bool b) := (hb3.cells _ _ (by first | (simp; done) | (simp; omega))).trans (by go_simp)
  have r2 : w3.cell? ⟨w2.heap.size, 2, none⟩ = some (.pointer (some ⟨g, 0, none⟩)) := (hb3.cells _ _ (by first | (simp; done) | (simp; omega))).trans (by go_simp)
  have r3 : w3.cell? ⟨w2.heap.size, 3, none⟩ = some (.int .i64 E) := (hb3.cells _ _ (by first | (simp; done) | (simp; omega))).trans (by go_simp)
  have hs3 : w2.heap.size < w3.heap.size := World.block_lt_of_cell? w3 _ r0
  have hw3 : Within w w3 := Within.trans (by repeat (first | with_reducible exact Within.refl _ | with_reducible assumption | with_reducible refine Within.alloc ?_ _ | with_reducible refine Within.drew ?_ | with_reducible refine Within.drewN ?_ _ | with_reducible refine Within.setCell ?_ (by first | (simp; done) | (simp; omega)) _ | with_reducible refine Within.trans ?_ (by assumption))) hb3
  have hI3 : IntB w3 g (M : Int) := IntB.of (by repeat (first | with_reducible assumption | with_reducible exact ib_new _ _ (by simp; done) | with_reducible refine IntB.alloc ?_ _ | with_reducible refine IntB.drew ?_ | with_reducible refine IntB.drewN ?_ _)) hb3
  clear hb3
  go_wp2_with fail
  refine (WHH.out _ _ hI3).mono ?_; rintro e4 w4 ⟨q, rfl, hI4, hq4, hb4⟩
  have u0 := (hb4.cells _ 0 hs3).trans r0
  have u1 := (hb4.cells _ 1 hs3).trans r1
  have u2 := (hb4.cells _ 2 hs3).trans r2
  have u3 := (hb4.cells _ 3 hs3).trans r3
  have hs4 : w2.heap.size < w4.heap.size := Nat.lt_of_lt_of_le hs3 hb4.sizes
  have hw4 := hw3.trans hb4
  clear hb4 hI3 hq4 r0 r1 r2 r3
  go_wp2_with fail
  refine (Bsign q (Q : Int) _ hI4).mono ?_; rintro e5 w5 ⟨rfl, rfl⟩
  have hI5 := hI4
  go_upto_region 12 with fail
  refine wp_region_schG (fun W => W.cell? ⟨w2.heap.size, 0, none⟩ = some (.int .i64 0) ∧ W.cell? ⟨w2.heap.size, 1, none⟩ = some (.bool b) ∧ IntB W q (Q : Int) ∧ w2.heap.size < W.heap.size ∧ Within w W) 7 (.firm 1 (.firm 2 (.firm 4 (.one 0 (.one 3 (.firm 5 (.firm 6 (.one 7 .nil)))))))) (by kernel_rfl) (by kernel_rfl) ⟨u0, u1, hI5, hs4, hw4⟩ ?_
  rintro w0 ⟨c0, c1, hJ, hs, hw0⟩
  try simp only [Act.put, List.setIfInBounds_toArray, List.set_cons_zero, List.set_cons_succ]
  apply sch_firm rfl rfl (by repeat (first | with_reducible exact Within.refl _ | with_reducible assumption | with_reducible refine Within.alloc ?_ _ | with_reducible refine Within.drew ?_ | with_reducible refine Within.drewN ?_ _ | with_reducible refine Within.setCell ?_ (by first | (simp; done) | (simp; omega)) _ | with_reducible refine Within.trans ?_ (by assumption)))
  · intro wq hq
    have hcq := hq.cells
    clear hq
    go_simp
    first | rfl | (trace_state; fail)
  try simp only [Act.put, List.setIfInBounds_toArray, List.set_cons_zero, List.set_cons_succ]
  apply sch_firm rfl rfl (by repeat (first | with_reducible exact Within.refl _ | with_reducible assumption | with_reducible refine Within.alloc ?_ _ | with_reducible refine Within.drew ?_ | with_reducible refine Within.drewN ?_ _ | with_reducible refine Within.setCell ?_ (by first | (simp; done) | (simp; omega)) _ | with_reducible refine Within.trans ?_ (by assumption)))
  · intro wq hq
    have hcq := hq.cells
    clear hq
    go_simp
    first | rfl | (trace_state; fail)
  try simp only [Act.put, List.setIfInBounds_toArray, List.set_cons_zero, List.set_cons_succ]
  apply sch_firm rfl rfl (by repeat (first | with_reducible exact Within.refl _ | with_reducible assumption | with_reducible refine Within.alloc ?_ _ | with_reducible refine Within.drew ?_ | with_reducible refine Within.drewN ?_ _ | with_reducible refine Within.setCell ?_ (by first | (simp; done) | (simp; omega)) _ | with_reducible refine Within.trans ?_ (by assumption)))
  · intro wq hq
    have hcq := hq.cells
    clear hq
    go_simp
    first | rfl | (trace_state; fail)
  try simp only [Act.put, List.setIfInBounds_toArray, List.set_cons_zero, List.set_cons_succ]
  refine sch_one rfl rfl (fun K hK => ?_)
  go_simp
  refine (RDouble _).mono ?_; rintro e6 w6 ⟨rfl, hv6'⟩
  have hv6 : Within w0 w6 := Within.trans (Within.refl w0).drew hv6'
  refine hK _ _ (fun _ => (by repeat (first | with_reducible exact Within.refl _ | with_reducible assumption | with_reducible refine Within.alloc ?_ _ | with_reducible refine Within.drew ?_ | with_reducible refine Within.drewN ?_ _ | with_reducible refine Within.setCell ?_ (by first | (simp; done) | (simp; omega)) _ | with_reducible refine Within.trans ?_ (by assumption)))) ?_
  clear hK K
  try simp only [Act.put, List.setIfInBounds_toArray, List.set_cons_zero, List.set_cons_succ]
  refine sch_one rfl rfl (fun K hK => ?_)
  go_simp
  refine (NO.out _).mono ?_; rintro e7 w7 ⟨rfl, hv7'⟩
  have hv7 := hv6.trans hv7'
  refine hK _ _ (fun _ => (by repeat (first | with_reducible exact Within.refl _ | with_reducible assumption | with_reducible refine Within.alloc ?_ _ | with_reducible refine Within.drew ?_ | with_reducible refine Within.drewN ?_ _ | with_reducible refine Within.setCell ?_ (by first | (simp; done) | (simp; omega)) _ | with_reducible refine Within.trans ?_ (by assumption)))) ?_
  clear hK K
  try simp only [Act.put, List.setIfInBounds_toArray, List.set_cons_zero, List.set_cons_succ]
  apply sch_firm rfl rfl (by repeat (first | with_reducible exact Within.refl _ | with_reducible assumption | with_reducible refine Within.alloc ?_ _ | with_reducible refine Within.drew ?_ | with_reducible refine Within.drewN ?_ _ | with_reducible refine Within.setCell ?_ (by first | (simp; done) | (simp; omega)) _ | with_reducible refine Within.trans ?_ (by assumption)))
  · intro wq hq
    have hcq := hq.cells
    clear hq
    go_simp
    first | rfl | (trace_state; fail)
  try simp only [Act.put, List.setIfInBounds_toArray, List.set_cons_zero, List.set_cons_succ]
  apply sch_firm rfl rfl (by repeat (first | with_reducible exact Within.refl _ | with_reducible assumption | with_reducible refine Within.alloc ?_ _ | with_reducible refine Within.drew ?_ | with_reducible refine Within.drewN ?_ _ | with_reducible refine Within.setCell ?_ (by first | (simp; done) | (simp; omega)) _ | with_reducible refine Within.trans ?_ (by assumption)))
  · intro wq hq
    have hcq := hq.cells
    clear hq
    go_simp
    first | rfl | (trace_state; fail)
  try simp only [Act.put, List.setIfInBounds_toArray, List.set_cons_zero, List.set_cons_succ]
  refine sch_one rfl rfl (fun K hK => ?_)
  go_simp
  refine hK _ _ (fun h => absurd h (by decide)) ?_
  clear hK K
  try simp only [Act.put, List.setIfInBounds_toArray, List.set_cons_zero, List.set_cons_succ]
  refine sch_nil ?_
  have hw7 := hw0.trans hv7
  go_wp2
  go_ret3
  exact ⟨rfl, hw7⟩
set_option maxRecDepth 100000 in
set_option maxHeartbeats 600000 in
theorem RWhole_some1 (x M Q Wd : Nat) (E mode G : Int) (b : Bool) (hF : True) (hm : (M : Int) ≠ 0) (hq : (Q : Int) ≠ 0) (KN : Hid (∀ w, Calls Tryz.prog 47 #[.int .i64 mode] w (fun e w' => e = .returned (.bool true) ∧ w = w'))) (TK : Hid (∀ w, Calls Tryz.prog 49 #[fmD, .int .u64 (x : Int)] w (fun e w' => ∃ g, e = .returned (.agg #[.int .i64 0, .bool b, .pointer (some ⟨g, 0, none⟩), .int .i64 E]) ∧ IntB w' g (M : Int) ∧ w.heap.size ≤ g ∧ Within w w'))) (WHH : Hid (∀ w g, IntB w g (M : Int) → Calls Tryz.prog 52 #[.agg #[.int .i64 0, .bool b, .pointer (some ⟨g, 0, none⟩), .int .i64 E], .int .i64 mode] w (WhI w Q true))) (RR : Hid (∀ w g, IntB w g (Q : Int) → Calls Tryz.prog 55 #[fmD, .bool b, .pointer (some ⟨g, 0, none⟩), .int .i64 0, .bool false, .int .i64 0] w (fun e' w' => e' = .returned (.tuple #[.int .u64 (Wd : Int), .int .i64 G]) ∧ Within w w'))) (w : World) : Calls Tryz.prog 13 #[.int .u64 (x : Int), .int .i64 mode] w (fun e w' => e = .returned (.tuple #[.int .u64 (Wd : Int), .int .i64 1, .int .i64 0]) ∧ Within w w') := by
  have dq : ((Q : Int).sign == 0) = false := beq_eq_false_iff_ne.2 (fun h => hq (Int.sign_eq_zero_iff_zero.1 h))
  clear hq
  have HF := Lib.hid hF; clear hF
  go_enter Tryz.func13, Tryz.ntmps13
  go_wp2_with fail
  refine (KN.out _).mono ?_; rintro e0 w0 ⟨rfl, rfl⟩
  go_wp2_with fail
  refine (RDouble _).mono ?_; rintro e1 w1 ⟨rfl, hb1⟩
  go_wp2_with fail
  refine (TK.out _).mono ?_; rintro e2 w2 ⟨g, rfl, hI2, hg2, hb2'⟩
  have hb2 := hb1.trans hb2'
  clear hb2' hg2
  go_wp2_with fail
  refine (Riszero_some 0 E (M : Int) b g rfl hm _ (by repeat (first | with_reducible assumption | with_reducible exact ib_new _ _ (by simp; done) | with_reducible refine IntB.alloc ?_ _ | with_reducible refine IntB.drew ?_ | with_reducible refine IntB.drewN ?_ _))).mono ?_; rintro e3 w3 ⟨rfl, hb3⟩
  have r0 : w3.cell? ⟨w2.heap.size, 0, none⟩ = some (.int .i64 0) := (hb3.cells _ _ (by first | (simp; done) | (simp; omega))).trans (by go_simp)
  have r1 : w3.cell? ⟨w2.heap.size, 1, none⟩ = some (.bool b) := (hb3.cells _ _ (by first | (simp; done) | (simp; omega))).trans (by go_simp)
  have r2 : w3.cell? ⟨w2.heap.size, 2, none⟩ = some (.pointer (some ⟨g, 0, none⟩)) := (hb3.cells _ _ (by first | (simp; done) | (simp; omega))).trans (by go_simp)
  have r3 : w3.cell? ⟨w2.heap.size, 3, none⟩ = some (.int .i64 E) := (hb3.cells _ _ (by first | (simp; done) | (simp; omega))).trans (by go_simp)
  have hs3 : w2.heap.size < w3.heap.size := World.block_lt_of_cell? w3 _ r0
  have hw3 : Within w w3 := Within.trans (by repeat (first | with_reducible exact Within.refl _ | with_reducible assumption | with_reducible refine Within.alloc ?_ _ | with_reducible refine Within.drew ?_ | with_reducible refine Within.drewN ?_ _ | with_reducible refine Within.setCell ?_ (by first | (simp; done) | (simp; omega)) _ | with_reducible refine Within.trans ?_ (by assumption))) hb3
  have hI3 : IntB w3 g (M : Int) := IntB.of (by repeat (first | with_reducible assumption | with_reducible exact ib_new _ _ (by simp; done) | with_reducible refine IntB.alloc ?_ _ | with_reducible refine IntB.drew ?_ | with_reducible refine IntB.drewN ?_ _)) hb3
  clear hb3
  go_wp2_with fail
  refine (WHH.out _ _ hI3).mono ?_; rintro e4 w4 ⟨q, rfl, hI4, hq4, hb4⟩
  have u0 := (hb4.cells _ 0 hs3).trans r0
  have u1 := (hb4.cells _ 1 hs3).trans r1
  have u2 := (hb4.cells _ 2 hs3).trans r2
  have u3 := (hb4.cells _ 3 hs3).trans r3
  have hs4 : w2.heap.size < w4.heap.size := Nat.lt_of_lt_of_le hs3 hb4.sizes
  have hw4 := hw3.trans hb4
  clear hb4 hI3 hq4 r0 r1 r2 r3
  go_wp2_with fail
  refine (Bsign q (Q : Int) _ hI4).mono ?_; rintro e5 w5 ⟨rfl, rfl⟩
  have hI5 := hI4
  go_upto_region 13 with fail
  refine wp_region_schG (fun W => W.cell? ⟨w2.heap.size, 0, none⟩ = some (.int .i64 0) ∧ W.cell? ⟨w2.heap.size, 1, none⟩ = some (.bool b) ∧ IntB W q (Q : Int) ∧ w2.heap.size < W.heap.size ∧ Within w W) 9 (.firm 1 (.firm 2 (.firm 3 (.one 0 (.one 4 (.firm 5 (.firm 6 (.firm 7 (.firm 8 (.one 9 .nil)))))))))) (by kernel_rfl) (by kernel_rfl) ⟨u0, u1, hI5, hs4, hw4⟩ ?_
  rintro w0 ⟨c0, c1, hJ, hs, hw0⟩
  try simp only [Act.put, List.setIfInBounds_toArray, List.set_cons_zero, List.set_cons_succ]
  apply sch_firm rfl rfl (by repeat (first | with_reducible exact Within.refl _ | with_reducible assumption | with_reducible refine Within.alloc ?_ _ | with_reducible refine Within.drew ?_ | with_reducible refine Within.drewN ?_ _ | with_reducible refine Within.setCell ?_ (by first | (simp; done) | (simp; omega)) _ | with_reducible refine Within.trans ?_ (by assumption)))
  · intro wq hq
    have hcq := hq.cells
    clear hq
    go_simp
    first | rfl | (trace_state; fail)
  try simp only [Act.put, List.setIfInBounds_toArray, List.set_cons_zero, List.set_cons_succ]
  apply sch_firm rfl rfl (by repeat (first | with_reducible exact Within.refl _ | with_reducible assumption | with_reducible refine Within.alloc ?_ _ | with_reducible refine Within.drew ?_ | with_reducible refine Within.drewN ?_ _ | with_reducible refine Within.setCell ?_ (by first | (simp; done) | (simp; omega)) _ | with_reducible refine Within.trans ?_ (by assumption)))
  · intro wq hq
    have hcq := hq.cells
    clear hq
    go_simp
    first | rfl | (trace_state; fail)
  try simp only [Act.put, List.setIfInBounds_toArray, List.set_cons_zero, List.set_cons_succ]
  apply sch_firm rfl rfl (by repeat (first | with_reducible exact Within.refl _ | with_reducible assumption | with_reducible refine Within.alloc ?_ _ | with_reducible refine Within.drew ?_ | with_reducible refine Within.drewN ?_ _ | with_reducible refine Within.setCell ?_ (by first | (simp; done) | (simp; omega)) _ | with_reducible refine Within.trans ?_ (by assumption)))
  · intro wq hq
    have hcq := hq.cells
    clear hq
    go_simp
    first | rfl | (trace_state; fail)
  try simp only [Act.put, List.setIfInBounds_toArray, List.set_cons_zero, List.set_cons_succ]
  refine sch_one rfl rfl (fun K hK => ?_)
  go_simp
  refine (RDouble _).mono ?_; rintro e6 w6 ⟨rfl, hv6'⟩
  have hv6 : Within w0 w6 := Within.trans (Within.refl w0).drew hv6'
  have hJ6 := hJ.of hv6
  refine hK _ _ (fun _ => (by repeat (first | with_reducible exact Within.refl _ | with_reducible assumption | with_reducible refine Within.alloc ?_ _ | with_reducible refine Within.drew ?_ | with_reducible refine Within.drewN ?_ _ | with_reducible refine Within.setCell ?_ (by first | (simp; done) | (simp; omega)) _ | with_reducible refine Within.trans ?_ (by assumption)))) ?_
  clear hK K
  try simp only [Act.put, List.setIfInBounds_toArray, List.set_cons_zero, List.set_cons_succ]
  refine sch_one rfl rfl (fun K hK => ?_)
  go_simp
  refine (RR.out _ _ (by exact hJ6)).mono ?_; rintro e7 w7 ⟨rfl, hv7'⟩
  have hv7 := hv6.trans hv7'
  refine hK _ _ (fun _ => (by repeat (first | with_reducible exact Within.refl _ | with_reducible assumption | with_reducible refine Within.alloc ?_ _ | with_reducible refine Within.drew ?_ | with_reducible refine Within.drewN ?_ _ | with_reducible refine Within.setCell ?_ (by first | (simp; done) | (simp; omega)) _ | with_reducible refine Within.trans ?_ (by assumption)))) ?_
  clear hK K
  try simp only [Act.put, List.setIfInBounds_toArray, List.set_cons_zero, List.set_cons_succ]
  apply sch_firm rfl rfl (by repeat (first | with_reducible exact Within.refl _ | with_reducible assumption | with_reducible refine Within.alloc ?_ _ | with_reducible refine Within.drew ?_ | with_reducible refine Within.drewN ?_ _ | with_reducible refine Within.setCell ?_ (by first | (simp; done) | (simp; omega)) _ | with_reducible refine Within.trans ?_ (by assumption)))
  · intro wq hq
    have hcq := hq.cells
    clear hq
    go_simp
    first | rfl | (trace_state; fail)
  try simp only [Act.put, List.setIfInBounds_toArray, List.set_cons_zero, List.set_cons_succ]
  apply sch_firm rfl rfl (by repeat (first | with_reducible exact Within.refl _ | with_reducible assumption | with_reducible refine Within.alloc ?_ _ | with_reducible refine Within.drew ?_ | with_reducible refine Within.drewN ?_ _ | with_reducible refine Within.setCell ?_ (by first | (simp; done) | (simp; omega)) _ | with_reducible refine Within.trans ?_ (by assumption)))
  · intro wq hq
    have hcq := hq.cells
    clear hq
    go_simp
    first | rfl | (trace_state; fail)
  try simp only [Act.put, List.setIfInBounds_toArray, List.set_cons_zero, List.set_cons_succ]
  apply sch_firm rfl rfl (by repeat (first | with_reducible exact Within.refl _ | with_reducible assumption | with_reducible refine Within.alloc ?_ _ | with_reducible refine Within.drew ?_ | with_reducible refine Within.drewN ?_ _ | with_reducible refine Within.setCell ?_ (by first | (simp; done) | (simp; omega)) _ | with_reducible refine Within.trans ?_ (by assumption)))
  · intro wq hq
    have hcq := hq.cells
    clear hq
    go_simp
    first | rfl | (trace_state; fail)
  try simp only [Act.put, List.setIfInBounds_toArray, List.set_cons_zero, List.set_cons_succ]
  apply sch_firm rfl rfl (by repeat (first | with_reducible exact Within.refl _ | with_reducible assumption | with_reducible refine Within.alloc ?_ _ | with_reducible refine Within.drew ?_ | with_reducible refine Within.drewN ?_ _ | with_reducible refine Within.setCell ?_ (by first | (simp; done) | (simp; omega)) _ | with_reducible refine Within.trans ?_ (by assumption)))
  · intro wq hq
    have hcq := hq.cells
    clear hq
    go_simp
    first | rfl | (trace_state; fail)
  try simp only [Act.put, List.setIfInBounds_toArray, List.set_cons_zero, List.set_cons_succ]
  refine sch_one rfl rfl (fun K hK => ?_)
  go_simp
  refine hK _ _ (fun h => absurd h (by decide)) ?_
  clear hK K
  try simp only [Act.put, List.setIfInBounds_toArray, List.set_cons_zero, List.set_cons_succ]
  refine sch_nil ?_
  have hw7 := hw0.trans hv7
  go_wp2
  go_ret3
  exact ⟨rfl, hw7⟩
end Go.Proofs.YtifgngmebnjfkaaGreatDoor
end

section
namespace Go.Proofs.YtifgngmebnjfkaaGreatDoor
def Fi (x : Nat) : Prop := x < 18446744073709551616 ∧ x % 9223372036854775808 < 9218868437227405312
def rn (z : Int) : Int := if z < 0 then -((Fp.mag Ieee.double (Fp.grid Ieee.double z.natAbs 0) : Nat) : Int) else ((Fp.mag Ieee.double (Fp.grid Ieee.double z.natAbs 0) : Nat) : Int)
theorem Fi.rg {x : Nat} (h : Fi x) : Fp.rg Ieee.double x < Ieee.double.infRung := by rw [Fp.rg64, Fp.dI]; exact h.2
theorem Fi.le {x : Nat} (h : Fi x) : x % 9223372036854775808 ≤ 9218868437227405312 := Nat.le_of_lt h.2
/-! the steps of a sum -/
end Go.Proofs.YtifgngmebnjfkaaGreatDoor
end

section
namespace Go.Proofs.YtifgngmebnjfkaaGreatDoor
def RepZ (z : Int) : Prop := ∃ (c : Int) (e : Nat), z = c * 2 ^ e ∧ c.natAbs ≤ 9007199254740992
theorem rn_nat (m : Nat) : ∃ K q, Fp.mag Ieee.double (Fp.grid Ieee.double m 0) = q * 2 ^ K ∧ m < 9007199254740992 * 2 ^ K ∧ q ≤ 9007199254740992 ∧ (K ≠ 0 → 4503599627370496 * 2 ^ K ≤ m) ∧
    2 * m ≤ 2 * (q * 2 ^ K) + 2 ^ K ∧ 2 * (q * 2 ^ K) ≤ 2 * m + 2 ^ K ∧ (m % 2 ^ K = 0 → q * 2 ^ K = m) := by
  obtain ⟨r, h1, h2⟩ := Fp.floor_exists Ieee.double m 1 (by decide)
  rw [Nat.mul_one] at h1 h2
  rw [Fp.mag_succ] at h2
  have hg := Fp.grid_between Ieee.double Fp.dF r 0 (m - Fp.mag Ieee.double r) (by rw [Nat.pow_zero, Nat.mul_one]; omega)
  rw [Nat.pow_zero, Nat.mul_one, Nat.mul_one, show Fp.mag Ieee.double r + (m - Fp.mag Ieee.double r) = m by omega] at hg
  obtain ⟨K, hK⟩ : ∃ K, K = r / 4503599627370496 - 1 := ⟨_, rfl⟩
  have hst : Fp.step Ieee.double r = 2 ^ K := by unfold Fp.step; rw [Fp.dB, ← hK]
  obtain ⟨c, hc, hc1, hc2⟩ : ∃ c, Fp.mag Ieee.double r = c * 2 ^ K ∧ c < 9007199254740992 ∧ (K ≠ 0 → 4503599627370496 ≤ c) := by
    rw [Fp.mag_eq, hst, Fp.dB]
    refine ⟨_, rfl, ?_, ?_⟩
    · split <;> omega
    · intro h; rw [if_neg (by omega)]; omega
  rw [hst] at hg h2
  have hm1 : Fp.mag Ieee.double (r + 1) = (c + 1) * 2 ^ K := by rw [Fp.mag_succ, hst, hc, Nat.add_mul, Nat.one_mul]
  rw [hc] at h1 h2 hg
  have hp := Nat.two_pow_pos K
  have hlt : m < 9007199254740992 * 2 ^ K := by
    have : (c + 1) * 2 ^ K ≤ 9007199254740992 * 2 ^ K := Nat.mul_le_mul_right _ hc1
    rw [Nat.add_mul, Nat.one_mul] at this
    omega
  have hge : K ≠ 0 → 4503599627370496 * 2 ^ K ≤ m := fun h => Nat.le_trans (Nat.mul_le_mul_right _ (hc2 h)) h1
  have hmod : m % 2 ^ K = 0 → c * 2 ^ K = m := by
    intro h
    obtain ⟨d, hd⟩ : ∃ d, m = d * 2 ^ K := ⟨m / 2 ^ K, by rw [Nat.mul_comm]; have := Nat.div_add_mod m (2 ^ K); omega⟩
    rw [hd] at h1 h2 ⊢
    have a1 : c ≤ d := Nat.le_of_mul_le_mul_right h1 hp
    have a2 : d < c + 1 := by
      refine Nat.lt_of_mul_lt_mul_right (a := 2 ^ K) ?_
      rw [Nat.add_mul, Nat.one_mul]; exact h2
    rw [show d = c by omega]
  rw [hg]
  split
  · rename_i hup
    refine ⟨K, c + 1, hm1, hlt, hc1, hge, ?_, ?_, ?_⟩
    · rw [Nat.add_mul, Nat.one_mul]; omega
    · rw [Nat.add_mul, Nat.one_mul]; omega
    · intro h
      have := hmod h
      omega
  · rename_i hup
    rw [Nat.add_zero]
    refine ⟨K, c, hc, hlt, Nat.le_of_lt hc1, hge, ?_, ?_, hmod⟩
    · omega
    · omega
theorem natAbs_mul_pow (q : Int) (K : Nat) : (q * 2 ^ K).natAbs = q.natAbs * 2 ^ K := by
  rw [Int.natAbs_mul, Int.natAbs_pow]; rfl
theorem cast_pow (K : Nat) : ((2 ^ K : Nat) : Int) = 2 ^ K := by simp
theorem rn_spec (z : Int) : ∃ (K : Nat) (q : Int), rn z = q * 2 ^ K ∧ z.natAbs < 9007199254740992 * 2 ^ K ∧ q.natAbs ≤ 9007199254740992 ∧ (K ≠ 0 → 4503599627370496 * 2 ^ K ≤ z.natAbs) ∧
    2 * (rn z - z).natAbs ≤ 2 ^ K ∧ (z.natAbs % 2 ^ K = 0 → rn z = z) := by
  obtain ⟨K, q, h1, h2, h3, h4, h5, h6, h7⟩ := rn_nat z.natAbs
  have hz : z.natAbs % 2 ^ K = 0 → rn z = z := by
    intro h
    have := h7 h
    unfold rn
    rw [h1, this]
    split <;> omega
  refine ⟨K, if z < 0 then -(q : Int) else q, ?_, h2, by split <;> omega, h4, ?_, hz⟩
  · unfold rn
    rw [h1, Int.natCast_mul, cast_pow]
    split
    · rw [Int.neg_mul]
    · rfl
  · unfold rn
    rw [h1]
    generalize q * 2 ^ K = Q at *
    generalize 2 ^ K = Z at *
    split <;> omega
theorem dvd_abs {z : Int} {K : Nat} {c : Int} (h : z = c * 2 ^ K) : z.natAbs % 2 ^ K = 0 := by
  rw [h, natAbs_mul_pow]; exact Nat.mul_mod_left _ _
theorem rn_few {z : Int} (h : RepZ z) : rn z = z := by
  obtain ⟨c, e, hz, hc⟩ := h
  obtain ⟨K, q, _, _, _, h4, _, h6⟩ := rn_spec z
  rcases Nat.lt_or_ge e K with h | h
  · have h4 := h4 (by omega)
    obtain ⟨d, rfl⟩ : ∃ d, K = e + 1 + d := ⟨K - (e + 1), by omega⟩
    have ha : z.natAbs = c.natAbs * 2 ^ e := by rw [hz, natAbs_mul_pow]
    have hp := Nat.two_pow_pos e
    have hpd := Nat.two_pow_pos d
    have e1 : 2 ^ (e + 1 + d) = 2 ^ e * (2 * 2 ^ d) := by rw [Nat.pow_add, Nat.pow_succ, Nat.mul_assoc]
    rw [e1, ha] at h4
    have h5 : 4503599627370496 * (2 * 2 ^ d) ≤ c.natAbs := by
      refine Nat.le_of_mul_le_mul_right (c := 2 ^ e) ?_ hp
      rw [Nat.mul_assoc, Nat.mul_comm (2 * 2 ^ d)]; exact h4
    have hd : 2 ^ d = 1 := by omega
    refine h6 ?_
    rw [e1, ha, hd, Nat.mul_one]
    have : c.natAbs = 4503599627370496 * 2 := by omega
    rw [this, Nat.mul_assoc, Nat.mul_comm 2]; exact Nat.mul_mod_left _ _
  · obtain ⟨d, rfl⟩ : ∃ d, e = K + d := ⟨e - K, by omega⟩
    refine h6 (dvd_abs (c := c * 2 ^ d) ?_)
    rw [hz, Int.pow_add, Int.mul_assoc, Int.mul_comm (2 ^ d)]
theorem rn_repz (z : Int) : RepZ (rn z) := by
  obtain ⟨K, q, h1, _, h3, _⟩ := rn_spec z
  exact ⟨q, K, h1, h3⟩
theorem RepZ.neg {z : Int} (h : RepZ z) : RepZ (-z) := by
  obtain ⟨c, e, h, hc⟩ := h
  exact ⟨-c, e, by rw [h, Int.neg_mul], by rw [Int.natAbs_neg]; exact hc⟩
theorem rn_mult {z c : Int} {i : Nat} (h : z = c * 2 ^ i) : ∃ d : Int, rn z = d * 2 ^ i := by
  obtain ⟨K, q, h1, _, _, _, _, h6⟩ := rn_spec z
  rcases Nat.lt_or_ge K i with hlt | hge
  · obtain ⟨d, rfl⟩ : ∃ d, i = K + d := ⟨i - K, by omega⟩
    exact ⟨c, by rw [h6 (dvd_abs (c := c * 2 ^ d) (by rw [h, Int.pow_add, Int.mul_assoc, Int.mul_comm (2 ^ d)])), h]⟩
  · obtain ⟨d, rfl⟩ : ∃ d, K = i + d := ⟨K - i, by omega⟩
    exact ⟨q * 2 ^ d, by rw [h1, Int.pow_add, Int.mul_assoc, Int.mul_comm (2 ^ d)]⟩
theorem canon_of {A : Int} (h : RepZ A) : ∃ (k : Nat) (a : Int), A = a * 2 ^ k ∧ a.natAbs < 9007199254740992 ∧ (k ≠ 0 → 4503599627370496 * 2 ^ k ≤ A.natAbs) := by
  obtain ⟨K, q, h1, h2, _, h4, _, _⟩ := rn_spec A
  rw [rn_few h] at h1
  refine ⟨K, q, h1, ?_, h4⟩
  rw [h1, natAbs_mul_pow] at h2
  exact Nat.lt_of_mul_lt_mul_right h2
theorem mult_le {z c : Int} {k K : Nat} (h : z = c * 2 ^ k) (hk : K ≤ k) : ∃ d : Int, z = d * 2 ^ K := by
  obtain ⟨m, rfl⟩ : ∃ m, k = K + m := ⟨k - K, by omega⟩
  exact ⟨c * 2 ^ m, by rw [h, Int.pow_add, Int.mul_assoc, Int.mul_comm (2 ^ m)]⟩
theorem mult_add {y z : Int} {K : Nat} (h : ∃ d : Int, y = d * 2 ^ K) (g : ∃ d : Int, z = d * 2 ^ K) : (∃ d : Int, y + z = d * 2 ^ K) ∧ ∃ d : Int, y - z = d * 2 ^ K := by
  obtain ⟨a, rfl⟩ := h
  obtain ⟨b, rfl⟩ := g
  exact ⟨⟨a + b, by rw [Int.add_mul]⟩, ⟨a - b, by rw [Int.sub_mul]⟩⟩
theorem rn_mult' {z : Int} {K : Nat} (h : ∃ d : Int, z = d * 2 ^ K) : ∃ d : Int, rn z = d * 2 ^ K := by
  obtain ⟨c, hc⟩ := h; exact rn_mult hc
end Go.Proofs.YtifgngmebnjfkaaGreatDoor
end

section
namespace Go.Proofs.YtifgngmebnjfkaaGreatDoor
theorem pow_up {i j : Nat} (h : i < j) : 2 * 2 ^ i ≤ 2 ^ j := by rw [← Nat.pow_succ']; exact Nat.pow_le_pow_right (by decide) h
end Go.Proofs.YtifgngmebnjfkaaGreatDoor
end

section
namespace Go.Proofs.YtifgngmebnjfkaaGreatDoor
def Mu (k : Nat) (z : Int) : Prop := ∃ d : Int, z = d * 2 ^ k
theorem Mu.zero (k : Nat) : Mu k 0 := ⟨0, by simp⟩
theorem Mu.le {k j : Nat} {z : Int} (h : Mu k z) (hj : j ≤ k) : Mu j z := by
  obtain ⟨d, h⟩ := h
  exact mult_le h hj
theorem Mu.add {k : Nat} {y z : Int} (h : Mu k y) (g : Mu k z) : Mu k (y + z) := (mult_add h g).1
theorem Mu.sub {k : Nat} {y z : Int} (h : Mu k y) (g : Mu k z) : Mu k (y - z) := (mult_add h g).2
theorem Mu.rn {k : Nat} {z : Int} (h : Mu k z) : Mu k (rn z) := rn_mult' h
theorem Mu.mul {k : Nat} {z : Int} (h : Mu k z) (b : Int) : Mu k (z * b) := by
  obtain ⟨d, h⟩ := h
  exact ⟨d * b, by rw [h, Int.mul_right_comm]⟩
theorem Mu.none (z : Int) : Mu 0 z := ⟨z, by simp⟩
theorem Mu.abs {k : Nat} {z : Int} (h : Mu k z) : ∃ c : Nat, z.natAbs = c * 2 ^ k := by
  obtain ⟨d, h⟩ := h
  exact ⟨d.natAbs, by rw [h, natAbs_mul_pow]⟩
theorem Mu.small {k : Nat} {z : Int} (h : Mu k z) (g : z.natAbs < 2 ^ k) : z = 0 := by
  obtain ⟨c, hc⟩ := h.abs
  rcases Nat.eq_zero_or_pos c with h0 | h0
  · rw [h0, Nat.zero_mul] at hc; omega
  · have := Nat.mul_le_mul_right (2 ^ k) h0
    omega
theorem Mu.least {k : Nat} {z : Int} (h : Mu k z) (g : z ≠ 0) : 2 ^ k ≤ z.natAbs := by
  rcases Nat.lt_or_ge z.natAbs (2 ^ k) with h1 | h1
  · exact absurd (h.small h1) g
  · exact h1
def zl (x : Int) : Nat := x.natAbs.log2 + 1
theorem zl_lt (x : Int) : x.natAbs < 2 ^ zl x := Nat.lt_log2_self
theorem zl_le {x : Int} {k : Nat} (h0 : x ≠ 0) (h : x.natAbs < 2 ^ k) : zl x ≤ k := by
  have h1 : x.natAbs ≠ 0 := by omega
  have := (Nat.log2_lt h1).2 h
  unfold zl
  omega
def Low (x y : Int) : Prop := Mu (zl x) y
theorem Low.of {x y : Int} {k : Nat} (h0 : x ≠ 0) (h : x.natAbs < 2 ^ k) (g : Mu k y) : Low x y := g.le (zl_le h0 h)
theorem Low.trans {x y z : Int} (hy : y ≠ 0) (h : Low x y) (g : Low y z) : Low x z := by
  refine g.le ?_
  have h1 := h.least hy
  have h2 := Nat.lt_of_le_of_lt h1 (zl_lt y)
  have := (Nat.pow_lt_pow_iff_right (show 1 < 2 by decide)).1 h2
  omega
def Chain : List Int → Prop
  | [] => True
  | [x] => x ≠ 0
  | x :: y :: l => x ≠ 0 ∧ Low x y ∧ Chain (y :: l)
theorem Chain.head {x : Int} {l : List Int} (h : Chain (x :: l)) : x ≠ 0 := by
  cases l with
  | nil => exact h
  | cons y l => exact h.1
end Go.Proofs.YtifgngmebnjfkaaGreatDoor
end

section
namespace Go.Proofs.YtifgngmebnjfkaaGreatDoor
theorem repz_shift {z : Int} {j : Nat} : RepZ (z * 2 ^ j) ↔ RepZ z := by
  constructor
  · rintro ⟨c, e, h, hc⟩
    rcases Nat.lt_or_ge e j with h1 | h1
    · obtain ⟨d, rfl⟩ : ∃ d, j = e + d := ⟨j - e, by omega⟩
      have hp : (2 : Int) ^ e ≠ 0 := Int.pow_ne_zero (by decide)
      have : z * 2 ^ d = c := by
        refine Int.eq_of_mul_eq_mul_right hp ?_
        rw [← h, Int.pow_add, Int.mul_assoc, Int.mul_comm (2 ^ d)]
      refine ⟨z, 0, by simp, Nat.le_trans ?_ hc⟩
      rw [← this, natAbs_mul_pow]
      exact Nat.le_mul_of_pos_right _ (Nat.two_pow_pos d)
    · obtain ⟨d, rfl⟩ : ∃ d, e = j + d := ⟨e - j, by omega⟩
      have hp : (2 : Int) ^ j ≠ 0 := Int.pow_ne_zero (by decide)
      refine ⟨c, d, Int.eq_of_mul_eq_mul_right hp ?_, hc⟩
      rw [h, Int.pow_add, Int.mul_assoc, Int.mul_comm (2 ^ d)]
  · rintro ⟨c, e, h, hc⟩
    exact ⟨c, e + j, by rw [h, Int.pow_add, Int.mul_assoc], hc⟩
theorem Mu.neg {k : Nat} {z : Int} (h : Mu k z) : Mu k (-z) := by
  have := (Mu.zero k).sub h
  rwa [Int.zero_sub] at this
end Go.Proofs.YtifgngmebnjfkaaGreatDoor
end

section
namespace Go.Proofs.YtifgngmebnjfkaaGreatDoor
theorem rep_mu {y : Int} {K : Nat} (h : RepZ y) (g : 4503599627370496 * 2 ^ K ≤ y.natAbs) : Mu K y := by
  obtain ⟨k, a, h1, h2, _⟩ := canon_of h
  rcases Nat.lt_or_ge k K with h3 | h3
  · exfalso
    have e := pow_up h3
    rw [h1, natAbs_mul_pow] at g
    have hp := Nat.two_pow_pos k
    have : a.natAbs * 2 ^ k < 9007199254740992 * 2 ^ k := Nat.mul_lt_mul_of_pos_right h2 hp
    omega
  · exact Mu.le ⟨a, h1⟩ h3
end Go.Proofs.YtifgngmebnjfkaaGreatDoor
end

section
namespace Go.Proofs.YtifgngmebnjfkaaGreatDoor
open Go.RowKit
def dpl : Nat := 1074
theorem dpl_is : dpl = 1074 := rfl
theorem deep_dpl : Fp.deep Ieee.double = dpl := by rw [Fp.dD]; rfl
theorem wAmt_is {x : Nat} {mode : Int} (hf : x % 9223372036854775808 < 9218868437227405312) : cutQ (magD x) dpl (ngD x) mode = wAmt (mD x) (eD x) (nD x) mode := by
  obtain ⟨h1, h2, h3, h4⟩ := mD_mag hf
  have ex := eD_lo x h2
  have hd := dpl_is
  unfold wAmt
  rw [h1, h3]
  by_cases h : 0 ≤ eD x
  · rw [if_pos h]
    have e : mD x * 2 ^ (eD x + 1074).toNat = mD x * 2 ^ (eD x).toNat * 2 ^ dpl := by rw [Nat.mul_assoc, ← Nat.pow_add]; congr 2; omega
    have c := cutQ_scale (mD x * 2 ^ (eD x).toNat) 0 dpl (ngD x) mode
    rw [Nat.zero_add, cutQ_zero] at c
    rw [e]; exact c
  · rw [if_neg h]
    have c := cutQ_scale (mD x) (-eD x).toNat (eD x + 1074).toNat (ngD x) mode
    rw [show (-eD x).toNat + (eD x + 1074).toNat = dpl by omega] at c
    exact c
theorem mod_scale (m s j : Nat) : m * 2 ^ j % 2 ^ (s + j) = 0 ↔ m % 2 ^ s = 0 := by
  rw [Nat.pow_add, Nat.mul_mod_mul_right, Nat.mul_eq_zero]
  exact ⟨fun h => h.resolve_right (Nat.ne_of_gt (Nat.two_pow_pos j)), fun h => .inl h⟩
theorem wLost_is {x : Nat} (hf : x % 9223372036854775808 < 9218868437227405312) : wLost (mD x) (eD x) = decide (magD x % 2 ^ dpl ≠ 0) := by
  obtain ⟨h1, h2, h3, h4⟩ := mD_mag hf
  have ex := eD_lo x h2
  have hd := dpl_is
  unfold wLost
  rw [h1]
  refine decide_eq_decide.2 ?_
  by_cases h : 0 ≤ eD x
  · have e : mD x * 2 ^ (eD x + 1074).toNat = mD x * 2 ^ (eD x).toNat * 2 ^ dpl := by rw [Nat.mul_assoc, ← Nat.pow_add]; congr 2; omega
    rw [e, Nat.mul_mod_left]
    exact ⟨fun g => absurd h g.1, fun g => absurd rfl g⟩
  · have e := mod_scale (mD x) (-eD x).toNat (eD x + 1074).toNat
    rw [show (-eD x).toNat + (eD x + 1074).toNat = dpl by omega] at e
    exact ⟨fun g k => g.2 (e.1 k), fun g => ⟨h, fun k => g (e.2 k)⟩⟩
theorem hFlags_is {x : Nat} {mode : Int} (hmode : 0 ≤ mode ∧ mode ≤ 4) (hf : x % 9223372036854775808 < 9218868437227405312) : hFlags x mode = if wLost (mD x) (eD x) then 1 else 0 := by
  rw [wLost_is hf]
  have hd := dpl_is
  unfold hFlags
  rw [if_neg (fun h => h hmode), if_neg (by omega)]
  by_cases hz : x % 9223372036854775808 = 0
  · rw [if_pos (.inl hz), (magD_zero.2 hz), Nat.zero_mod]; rfl
  rw [if_neg (show ¬ (x % 9223372036854775808 = 0 ∨ x % 9223372036854775808 = 9218868437227405312) by omega)]
  have h0 : magD x ≠ 0 := fun h => hz (magD_zero.1 h)
  obtain ⟨t1, t2, t3, t4⟩ := top53_bounds h0 (magD_rep hf)
  unfold dLow
  by_cases hl : 1126 ≤ (magD x).log2
  · rw [if_pos hl]
    have e : magD x % 2 ^ dpl = 0 := by
      have := (mod_scale (magD x) dpl 52).1 (by
        rw [← t4, show (magD x).log2 = ((magD x).log2 - (dpl + 52)) + (dpl + 52) by omega, Nat.pow_add, ← Nat.mul_assoc, Nat.mul_mod_left])
      exact this
    rw [e]; rfl
  · rw [if_neg hl]
    have e : top53 (magD x) % 2 ^ (1126 - (magD x).log2) = 0 ↔ magD x % 2 ^ dpl = 0 := by
      rw [← mod_scale (top53 (magD x)) (1126 - (magD x).log2) (magD x).log2, t4, show 1126 - (magD x).log2 + (magD x).log2 = dpl + 52 by omega]
      exact mod_scale _ _ _
    by_cases g : magD x % 2 ^ dpl = 0
    · rw [if_neg (fun k => k (e.2 g)), g]; rfl
    · rw [if_pos (fun k => g (e.1 k)), decide_eq_true g]; rfl
theorem rep_repz {n : Nat} (h : Fp.Rep Ieee.double n) : RepZ (n : Int) := by
  have e : rn (n : Int) = n := by
    unfold rn
    rw [if_neg (by omega), Int.natAbs_natCast, h.2]
  rw [← e]; exact rn_repz _
theorem gWord_int {Q : Nat} (b : Bool) (h0 : Q ≠ 0) (hR : Fp.Rep Ieee.double (Q * 2 ^ dpl)) :
    gWord 53 (-1074) 1023 9218868437227405311 9218868437227405312 4503599627370496 9223372036854775808 b Q 0 false 0 = Fp.grid Ieee.double (Q * 2 ^ dpl) 0 + sgnD b := by
  have hd := dpl_is
  have hz : RepZ (Q : Int) := by
    have := rep_repz hR
    rw [Int.natCast_mul, cast_pow] at this
    exact repz_shift.1 this
  have hb := blen_lt Q
  have hb2 := le_of_blen h0
  have hB1 : 1 ≤ blen Q := by
    rcases Nat.eq_zero_or_pos (blen Q) with h | h
    · rw [h] at hb; omega
    · exact h
  have hB2 : blen Q ≤ 1024 := by
    have h1 : Q * 2 ^ dpl < 2 ^ Fp.dtop := by
      have h2 := Fp.mag_mono_lt Ieee.double hR.1
      rw [hR.2, Fp.mag_infD] at h2
      exact h2
    obtain ⟨D, hD⟩ : ∃ D, D = 1024 := ⟨_, rfl⟩
    rw [show Fp.dtop = D + dpl by rw [hD, hd]; rfl, Nat.pow_add] at h1
    rw [← hD]
    exact blen_le (Nat.lt_of_mul_lt_mul_right h1)
  have hK : gK 53 (-1074) Q 0 = (blen Q : Int) - 53 := by unfold gK; omega
  -- the digits
  obtain ⟨q, hq1, hq2, hgq, hgc, hqQ⟩ : ∃ q, 4503599627370496 ≤ q ∧ q < 9007199254740992 ∧ gq 53 (-1074) Q 0 = q ∧ gc 53 (-1074) Q 0 false = -2 ∧ q * 2 ^ (gK 53 (-1074) Q 0 + 1074).toNat = Q * 2 ^ dpl := by
    unfold gq gc
    rw [hK]
    by_cases h : (blen Q : Int) - 53 ≤ 0
    · rw [if_pos h, if_pos h]
      have e : (0 - ((blen Q : Int) - 53)).toNat = 53 - blen Q := by omega
      rw [e]
      refine ⟨_, ?_, ?_, rfl, rfl, ?_⟩
      · have := Nat.mul_le_mul_right (2 ^ (53 - blen Q)) hb2
        rwa [← Nat.pow_add, show blen Q - 1 + (53 - blen Q) = 52 by omega] at this
      · have := Nat.mul_lt_mul_of_pos_right hb (Nat.two_pow_pos (53 - blen Q))
        rwa [← Nat.pow_add, show blen Q + (53 - blen Q) = 53 by omega] at this
      · rw [Nat.mul_assoc, ← Nat.pow_add]; congr 2; omega
    · rw [if_neg h, if_neg h]
      obtain ⟨s, hs⟩ : ∃ s, blen Q = 53 + s := ⟨blen Q - 53, by omega⟩
      have e : ((blen Q : Int) - 53 - 0).toNat = s := by omega
      rw [e]
      have g1 : 4503599627370496 * 2 ^ s ≤ Q := by
        rw [hs, show 53 + s - 1 = 52 + s by omega, Nat.pow_add] at hb2
        exact hb2
      have g2 : Q < 9007199254740992 * 2 ^ s := by
        rw [hs, Nat.pow_add] at hb
        exact hb
      obtain ⟨c, hc⟩ := (rep_mu (K := s) hz (by rw [Int.natAbs_natCast]; exact g1)).abs
      rw [Int.natAbs_natCast] at hc
      have hp := Nat.two_pow_pos s
      have hdv : Q / 2 ^ s = c := by rw [hc]; exact Nat.mul_div_cancel _ hp
      have hmd : Q % 2 ^ s = 0 := by rw [hc]; exact Nat.mul_mod_left _ _
      refine ⟨c, ?_, ?_, hdv, ?_, ?_⟩
      · rw [hc] at g1; exact Nat.le_of_mul_le_mul_right g1 hp
      · rw [hc] at g2; exact Nat.lt_of_mul_lt_mul_right g2
      · unfold cutC; rw [if_pos ⟨hmd, rfl⟩]
      · rw [show ((blen Q : Int) - 53 + 1074).toNat = s + dpl by omega, Nat.pow_add, ← Nat.mul_assoc, ← hc]
  have hgQ : gQ 53 (-1074) b Q 0 false 0 = q := by
    unfold gQ
    rw [hgq, hgc, upB_exact]; rfl
  have hbq : blen q = 53 := by
    have h1 := blen_le (k := 53) hq2
    have h2 := blen_lt q
    rcases Nat.lt_or_ge (blen q) 53 with h | h
    · have : 2 ^ blen q ≤ 2 ^ 52 := Nat.pow_le_pow_right (by decide) (by omega)
      have e : (2 : Nat) ^ 52 = 4503599627370496 := by decide
      omega
    · omega
  unfold gWord
  have hov : gOver 53 (-1074) 1023 b Q 0 false 0 = false := by
    unfold gOver
    rw [hgQ, hbq, hK]
    exact decide_eq_false (by omega)
  rw [hov, if_neg Bool.false_ne_true, hgQ, ← hqQ]
  have hg := grid_rung Ieee.double 52 q (gK 53 (-1074) Q 0 + 1074).toNat rfl (by
    have e : (2 : Nat) ^ (52 + 1) = 9007199254740992 := by decide
    omega) (.inl hq1)
  rw [hg, show (gK 53 (-1074) Q 0 - -1074) = gK 53 (-1074) Q 0 + 1074 by omega]
  rfl
theorem hWord_is {x : Nat} {mode : Int} (hx : x < 18446744073709551616) (hmode : 0 ≤ mode ∧ mode ≤ 4) (hf : x % 9223372036854775808 < 9218868437227405312) (hz : x % 9223372036854775808 ≠ 0) :
    (wAmt (mD x) (eD x) (nD x) mode = 0 → hWord x mode = sgnD (nD x)) ∧ (wAmt (mD x) (eD x) (nD x) mode ≠ 0 → hWord x mode = gWord 53 (-1074) 1023 9218868437227405311 9218868437227405312 4503599627370496 9223372036854775808 (nD x) (wAmt (mD x) (eD x) (nD x) mode) 0 false 0) := by
  obtain ⟨_, _, h3, _⟩ := mD_mag hf
  have hw := hWord_base hx hmode (by omega)
  obtain ⟨Q, q1, q2, q3⟩ := hBase_amt mode (ngD x) (r := x % 9223372036854775808) hf
  rw [deep_dpl] at q1 q2
  have hQ : Q = wAmt (mD x) (eD x) (nD x) mode := by rw [q2]; exact wAmt_is hf
  rw [hQ] at q1
  rw [h3] at q1 ⊢
  generalize wAmt (mD x) (eD x) (ngD x) mode = A at *
  constructor
  · intro h
    rw [h, Nat.zero_mul] at q1
    have e : hBase mode (ngD x) (x % 9223372036854775808) = 0 := (Fp.mag_inj Ieee.double).1 (by rw [q1, Fp.mag_zero])
    rw [hw, e, Nat.zero_add]
  · intro h
    have hR : Fp.Rep Ieee.double (A * 2 ^ dpl) := by rw [← q1]; exact Fp.rep_mag Ieee.double Fp.dF (by rw [Fp.dI]; exact q3)
    have e : Fp.grid Ieee.double (A * 2 ^ dpl) 0 = hBase mode (ngD x) (x % 9223372036854775808) := by rw [← q1]; exact Fp.grid_of_mag Ieee.double Fp.dF _
    rw [gWord_int _ h hR, hw, e]
theorem kD_nan {x : Nat} (h : 9218868437227405312 < x % 9223372036854775808) : kD x = 2 := by unfold kD tK; rw [if_pos (by omega), if_neg (by omega)]
theorem kD_inf {x : Nat} (h : x % 9223372036854775808 = 9218868437227405312) : kD x = 1 ∧ nD x = ngD x := by
  refine ⟨by unfold kD tK; rw [if_pos (by omega), if_pos (by omega)], by unfold nD tN ngD; rw [if_neg (by omega)]⟩
theorem val_pos (s : Bool) (n : Nat) : (Fp.val s n < 0 → s = true) ∧ (0 < Fp.val s n → s = false) := by
  unfold Fp.val
  cases s
  · exact ⟨fun h => by rw [if_neg Bool.false_ne_true] at h; omega, fun _ => rfl⟩
  · exact ⟨fun _ => rfl, fun h => by rw [if_pos rfl] at h; omega⟩
theorem un_whole {x : Nat} {mode : Int} (hx : x < 18446744073709551616) (hmode : 0 ≤ mode ∧ mode ≤ 4) (hf : x % 9223372036854775808 < 9218868437227405312) :
    Fp.un Ieee.double (hWord x mode) = Fp.val (nD x) (wAmt (mD x) (eD x) (nD x) mode) * ((2 ^ dpl : Nat) : Int) := by
  obtain ⟨_, _, h3, _⟩ := mD_mag hf
  obtain ⟨_, _, h, _⟩ := hWord_fin hx hmode (show x % 9223372036854775808 ≤ 9218868437227405312 by omega)
  obtain ⟨Q, q1, q2, _⟩ := hBase_amt mode (ngD x) (r := x % 9223372036854775808) hf
  rw [deep_dpl] at q1 q2
  rw [h, q1, q2, show Fp.mag Ieee.double (x % 9223372036854775808) = magD x from rfl, wAmt_is hf, h3]
  unfold Fp.val
  split
  · rw [Int.natCast_mul, Int.neg_mul]
  · rw [Int.natCast_mul]
theorem un_inf {x : Nat} {mode : Int} (hx : x < 18446744073709551616) (hmode : 0 ≤ mode ∧ mode ≤ 4) (hi : x % 9223372036854775808 = 9218868437227405312) {k : Nat} (hk : k ≤ 64) :
    (nD x = true → Fp.un Ieee.double (hWord x mode) < -((2 ^ k * 2 ^ dpl : Nat) : Int)) ∧ (nD x = false → ((2 ^ k * 2 ^ dpl : Nat) : Int) ≤ Fp.un Ieee.double (hWord x mode)) := by
  obtain ⟨_, hn⟩ := kD_inf hi
  obtain ⟨_, _, h, _⟩ := hWord_fin hx hmode (show x % 9223372036854775808 ≤ 9218868437227405312 by omega)
  have hb : hBase mode (ngD x) (x % 9223372036854775808) = x % 9223372036854775808 := by unfold hBase; rw [if_pos (.inr hi)]
  have e : Fp.mag Ieee.double 9218868437227405312 = 2 ^ Fp.dtop := by have := Fp.mag_infD; rwa [Fp.dI] at this
  have hlt : 2 ^ k * 2 ^ dpl < 2 ^ Fp.dtop := by
    rw [← Nat.pow_add]
    exact Nat.pow_lt_pow_right (by decide) (by rw [dpl_is, Fp.dtop_eq]; omega)
  rw [h, hb, hi, e, hn]
  generalize 2 ^ k * 2 ^ dpl = A at *
  generalize 2 ^ Fp.dtop = B at *
  constructor
  · intro g; rw [g, if_pos rfl]; omega
  · intro g; rw [g, if_neg Bool.false_ne_true]; omega
theorem mul_lt_iff {a b c : Int} (hc : 0 < c) : a * c < b * c ↔ a < b := ⟨fun h => Int.lt_of_mul_lt_mul_right h (Int.le_of_lt hc), fun h => Int.mul_lt_mul_of_pos_right h hc⟩
theorem mul_le_iff {a b c : Int} (hc : 0 < c) : a * c ≤ b * c ↔ a ≤ b := ⟨fun h => Int.le_of_mul_le_mul_right h hc, fun h => Int.mul_le_mul_of_nonneg_right h (Int.le_of_lt hc)⟩
theorem int_law {x W : Nat} {mode P : Int} (hx : x < 18446744073709551616) (hmode : 0 ≤ mode ∧ mode ≤ 4) (hn : x % 9223372036854775808 ≤ 9218868437227405312) (hW : W ≤ 64) (hP : P = ((2 ^ (W - 1) : Nat) : Int)) :
    iOf W (Fp.un Ieee.double (hWord x mode)) = wiV x mode (-P) (P - 1) ∧ iFl W (Fp.un Ieee.double (hWord x mode)) (hFlags x mode) = wiF x mode (-P) (P - 1) := by
  have hPp : 0 < P := by rw [hP]; exact Int.natCast_pos.2 (Nat.two_pow_pos _)
  unfold iOf iFl wiV wiF
  rw [deep_dpl, ← hP]
  by_cases hi : x % 9223372036854775808 = 9218868437227405312
  · obtain ⟨k1, _⟩ := kD_inf hi
    obtain ⟨u1, u2⟩ := un_inf (mode := mode) hx hmode hi (show W - 1 ≤ 64 by omega)
    have n12 : ¬ ((1 : Int) = 2) := by decide
    rw [k1, if_neg n12, if_pos (show (1 : Int) = 1 from rfl), if_neg n12, if_pos (show (1 : Int) = 1 from rfl)]
    have hp : 0 ≤ ((2 ^ (W - 1) * 2 ^ dpl : Nat) : Int) := Int.natCast_nonneg _
    generalize ((2 ^ (W - 1) * 2 ^ dpl : Nat) : Int) = A at *
    generalize Fp.un Ieee.double (hWord x mode) = U at *
    cases hb : nD x
    · have h2 := u2 hb
      rw [if_neg (show ¬ U < -A by omega), if_pos h2, if_neg (show ¬ U < -A by omega), if_pos h2]
      exact ⟨rfl, rfl⟩
    · rw [if_pos (u1 hb), if_pos (u1 hb)]
      exact ⟨rfl, rfl⟩
  have hf : x % 9223372036854775808 < 9218868437227405312 := by omega
  obtain ⟨_, k0, _, _⟩ := mD_mag hf
  have n02 : ¬ ((0 : Int) = 2) := by decide
  have n01 : ¬ ((0 : Int) = 1) := by decide
  rw [k0, if_neg n02, if_neg n01, if_neg n02, if_neg n01, un_whole hx hmode hf, hFlags_is hmode hf, Int.natCast_mul, ← hP]
  have hD : (0 : Int) < ((2 ^ dpl : Nat) : Int) := Int.natCast_pos.2 (Nat.two_pow_pos _)
  obtain ⟨v1, v2⟩ := val_pos (nD x) (wAmt (mD x) (eD x) (nD x) mode)
  generalize Fp.val (nD x) (wAmt (mD x) (eD x) (nD x) mode) = V at *
  generalize ((2 ^ dpl : Nat) : Int) = D at *
  have e1 : V * D < -(P * D) ↔ V < -P := by rw [← Int.neg_mul]; exact mul_lt_iff hD
  have e2 : P * D ≤ V * D ↔ P ≤ V := mul_le_iff hD
  by_cases c1 : V < -P
  · rw [if_pos (e1.2 c1), if_pos (e1.2 c1), if_pos (.inl c1), v1 (by omega), if_pos (show true = true from rfl), if_pos (.inl c1)]
    exact ⟨rfl, rfl⟩
  rw [if_neg (fun h => c1 (e1.1 h)), if_neg (fun h => c1 (e1.1 h))]
  by_cases c2 : P ≤ V
  · rw [if_pos (e2.2 c2), if_pos (e2.2 c2), if_pos (.inr (show P - 1 < V by omega)), v2 (by omega), if_neg Bool.false_ne_true, if_pos (.inr (show P - 1 < V by omega))]
    exact ⟨rfl, rfl⟩
  · rw [if_neg (fun h => c2 (e2.1 h)), if_neg (fun h => c2 (e2.1 h)), if_neg (show ¬ (V < -P ∨ P - 1 < V) by omega), if_neg (show ¬ (V < -P ∨ P - 1 < V) by omega), Int.mul_ediv_cancel _ (Int.ne_of_gt hD)]
    exact ⟨rfl, rfl⟩
theorem uint_law {x W : Nat} {mode P : Int} (hx : x < 18446744073709551616) (hmode : 0 ≤ mode ∧ mode ≤ 4) (hn : x % 9223372036854775808 ≤ 9218868437227405312) (hW : W ≤ 64) (hP : P = ((2 ^ W : Nat) : Int)) :
    uOf W (Fp.un Ieee.double (hWord x mode)) = wiV x mode 0 (P - 1) ∧ uFl W (Fp.un Ieee.double (hWord x mode)) (hFlags x mode) = wiF x mode 0 (P - 1) := by
  have hPp : 0 < P := by rw [hP]; exact Int.natCast_pos.2 (Nat.two_pow_pos _)
  unfold uOf uFl wiV wiF
  rw [deep_dpl, ← hP]
  by_cases hi : x % 9223372036854775808 = 9218868437227405312
  · obtain ⟨k1, _⟩ := kD_inf hi
    obtain ⟨u1, u2⟩ := un_inf (mode := mode) hx hmode hi hW
    have n12 : ¬ ((1 : Int) = 2) := by decide
    rw [k1, if_neg n12, if_pos (show (1 : Int) = 1 from rfl), if_neg n12, if_pos (show (1 : Int) = 1 from rfl)]
    have hp : 0 ≤ ((2 ^ W * 2 ^ dpl : Nat) : Int) := Int.natCast_nonneg _
    generalize ((2 ^ W * 2 ^ dpl : Nat) : Int) = A at *
    generalize Fp.un Ieee.double (hWord x mode) = U at *
    cases hb : nD x
    · have h2 := u2 hb
      rw [if_neg (show ¬ U < 0 by omega), if_pos h2, if_neg (show ¬ U < 0 by omega), if_pos h2]
      exact ⟨rfl, rfl⟩
    · have h1 := u1 hb
      rw [if_pos (show U < 0 by omega), if_pos (show U < 0 by omega)]
      exact ⟨rfl, rfl⟩
  have hf : x % 9223372036854775808 < 9218868437227405312 := by omega
  obtain ⟨_, k0, _, _⟩ := mD_mag hf
  have n02 : ¬ ((0 : Int) = 2) := by decide
  have n01 : ¬ ((0 : Int) = 1) := by decide
  rw [k0, if_neg n02, if_neg n01, if_neg n02, if_neg n01, un_whole hx hmode hf, hFlags_is hmode hf, Int.natCast_mul, ← hP]
  have hD : (0 : Int) < ((2 ^ dpl : Nat) : Int) := Int.natCast_pos.2 (Nat.two_pow_pos _)
  obtain ⟨v1, v2⟩ := val_pos (nD x) (wAmt (mD x) (eD x) (nD x) mode)
  generalize Fp.val (nD x) (wAmt (mD x) (eD x) (nD x) mode) = V at *
  generalize ((2 ^ dpl : Nat) : Int) = D at *
  have e1 : V * D < 0 ↔ V < 0 := by have := mul_lt_iff (a := V) (b := 0) hD; rwa [Int.zero_mul] at this
  have e2 : P * D ≤ V * D ↔ P ≤ V := mul_le_iff hD
  by_cases c1 : V < 0
  · rw [if_pos (e1.2 c1), if_pos (e1.2 c1), if_pos (.inl c1), v1 c1, if_pos (show true = true from rfl), if_pos (.inl c1)]
    exact ⟨rfl, rfl⟩
  rw [if_neg (fun h => c1 (e1.1 h)), if_neg (fun h => c1 (e1.1 h))]
  by_cases c2 : P ≤ V
  · rw [if_pos (e2.2 c2), if_pos (e2.2 c2), if_pos (.inr (show P - 1 < V by omega)), v2 (by omega), if_neg Bool.false_ne_true, if_pos (.inr (show P - 1 < V by omega))]
    exact ⟨rfl, rfl⟩
  · rw [if_neg (fun h => c2 (e2.1 h)), if_neg (fun h => c2 (e2.1 h)), if_neg (show ¬ (V < 0 ∨ P - 1 < V) by omega), if_neg (show ¬ (V < 0 ∨ P - 1 < V) by omega), Int.mul_ediv_cancel _ (Int.ne_of_gt hD)]
    exact ⟨rfl, rfl⟩
end Go.Proofs.YtifgngmebnjfkaaGreatDoor
end

section
namespace Go.Proofs.YtifgngmebnjfkaaGreatDoor
open Go.RowKit
set_option maxRecDepth 100000 in
set_option maxHeartbeats 600000 in
theorem is_any (a b : Nat) (w : World) : Calls Tryz.prog 56 #[.float .f64 a, .int .u64 (b : Int)] w fun e w' => e = .returned (.bool ((a : Int) == b)) ∧ w = w' := by
  go_enter Tryz.func56, Tryz.ntmps56
  go_wp2
  go_ret
  exact ⟨rfl, rfl⟩
theorem is_yes (a : Nat) (w : World) : Calls Tryz.prog 56 #[.float .f64 a, .int .u64 (a : Int)] w fun e w' => e = .returned (.bool true) ∧ w = w' := by
  have := is_any a a w
  rwa [show ((a : Int) == (a : Int)) = true by simp] at this
set_option maxRecDepth 100000 in
set_option maxHeartbeats 600000 in
theorem told64_yes (a : Nat) (k n : Int) (w : World) : Calls Tryz.prog 14 #[.float .f64 a, .int .i64 k, .int .i64 n, .int .u64 (a : Int), .int .i64 k, .int .i64 n] w fun e w' => e = .returned (.bool true) ∧ w = w' := by
  have hk : (k == k) = true := by simp
  have hn : (n == n) = true := by simp
  go_enter Tryz.func14, Tryz.ntmps14
  go_wp2_with fail
  refine (is_yes a _).mono ?_; rintro e1 w1 ⟨rfl, rfl⟩
  go_wp2
  go_ret
  exact ⟨rfl, rfl⟩
end Go.Proofs.YtifgngmebnjfkaaGreatDoor
end

section
namespace Go.Proofs.YtifgngmebnjfkaaGreatDoor
open Go.RowKit
theorem wiV_range {x : Nat} {mode lo hi : Int} (h1 : lo ≤ 0) (h2 : 0 ≤ hi) : lo ≤ wiV x mode lo hi ∧ wiV x mode lo hi ≤ hi := by
  unfold wiV
  split
  · omega
  split
  · split <;> omega
  split
  · split <;> omega
  · omega
theorem wi_nan {x : Nat} {mode lo hi : Int} (h : 9218868437227405312 < x % 9223372036854775808) : wiV x mode lo hi = 0 ∧ wiF x mode lo hi = 8 := by
  unfold wiV wiF
  rw [kD_nan h, if_pos rfl, if_pos rfl]
  exact ⟨rfl, rfl⟩
theorem hWord_nan {x : Nat} {mode : Int} (hmode : 0 ≤ mode ∧ mode ≤ 4) (h : 9218868437227405312 < x % 9223372036854775808) : hWord x mode = 9221120237041090561 ∧ hFlags x mode = 0 := by
  have hm' : ¬¬(0 ≤ mode ∧ mode ≤ 4) := fun h => h hmode
  unfold hWord hFlags
  rw [if_neg hm', if_neg hm', if_pos h, if_pos h]
  refine ⟨?_, rfl⟩
  unfold canonD nanD
  rw [decide_eq_true h]; rfl
theorem Rkn_true {mode : Int} (h : 0 ≤ mode ∧ mode ≤ 4) (w : World) : Calls Tryz.prog 47 #[.int .i64 mode] w fun e w' => e = .returned (.bool true) ∧ w = w' := by
  have := Rknown mode w; rwa [decide_eq_true h] at this
theorem Rkn_false {mode : Int} (h : ¬ (0 ≤ mode ∧ mode ≤ 4)) (w : World) : Calls Tryz.prog 47 #[.int .i64 mode] w fun e w' => e = .returned (.bool false) ∧ w = w' := by
  have := Rknown mode w; rwa [decide_eq_false h] at this
theorem RnoughtD (b : Bool) (w : World) : Calls Tryz.prog 54 #[fmD, .bool b] w fun e w' => e = .returned (.int .u64 (sgnD b : Nat)) ∧ Within w w' := by
  cases b
  · exact RnoughtD_0 w
  · exact RnoughtD_1 w
theorem RWhole_any (x : Nat) (mode : Int) (hx : x < 18446744073709551616) (w : World) : Calls Tryz.prog 13 #[.int .u64 (x : Int), .int .i64 mode] w fun e w' => e = .returned (.tuple #[.int .u64 (hWord x mode : Nat), .int .i64 (hFlags x mode), .int .i64 (nErr mode)]) ∧ Within w w' := by
  by_cases hmode : 0 ≤ mode ∧ mode ≤ 4
  · have hm' : ¬¬(0 ≤ mode ∧ mode ≤ 4) := fun h => h hmode
    have KN := Lib.hid (fun w => Rkn_true hmode w)
    have TK := Lib.hid (fun w => RtakeXD x hx w)
    have mx := mD_lt x
    have ex := eD_range x
    have hM : (dg (mD x)).length ≤ 400 := Nat.le_trans (dg_small (k := 2) (Nat.lt_trans mx (by decide))) (by decide)
    have SM := fun k (hk : k = 0 ∨ k = 1 ∨ k = 2) => Lib.hid (fun (w : World) (g : Nat) (hI : IntB w g (mD x : Int)) => RsameD k (nD x) g (mD x) (eD x) mode hk (by omega) (Nat.le_trans hM (by decide)) w hI)
    have hn0 : nErr mode = 0 := if_pos hmode
    rw [hn0]
    by_cases hn : 9218868437227405312 < x % 9223372036854775808
    · have hk := kD_nan hn
      rw [hk] at TK
      obtain ⟨e1, e2⟩ := hWord_nan hmode hn
      rw [e1, e2]
      have S := SM 2 (by decide)
      rw [sWD_nan] at S
      exact RWhole_kind x _ _ 2 _ mode _ _ rfl KN TK S w
    by_cases hi : x % 9223372036854775808 = 9218868437227405312
    · obtain ⟨hk, hng⟩ := kD_inf hi
      rw [hk] at TK
      have S := SM 1 (by decide)
      have e1 : hWord x mode = 9218868437227405312 + (if nD x then 9223372036854775808 else 0) := by
        unfold hWord
        rw [if_neg hm', if_neg hn, if_pos (.inr hi), hng]
        have := sgn_split hx
        rw [hi] at this
        exact this
      have e2 : hFlags x mode = 0 := by unfold hFlags; rw [if_neg hm', if_neg hn, if_pos (.inr hi)]
      rw [e1, e2]
      rw [sWD_inf] at S
      exact RWhole_kind x _ _ 1 _ mode _ _ rfl KN TK S w
    have hf : x % 9223372036854775808 < 9218868437227405312 := by omega
    obtain ⟨_, hk, hng, hm0⟩ := mD_mag hf
    rw [hk] at TK
    by_cases hz : x % 9223372036854775808 = 0
    · have S := SM 0 (by decide)
      have hm := hm0.2 hz
      have e1 : hWord x mode = (if nD x then 9223372036854775808 else 0) := by
        unfold hWord
        rw [if_neg hm', if_neg hn, if_pos (.inl hz), hng]
        have := sgn_split hx
        rw [hz, Nat.zero_add] at this
        exact this
      have e2 : hFlags x mode = 0 := by unfold hFlags; rw [if_neg hm', if_neg hn, if_pos (.inl hz)]
      rw [e1, e2]
      have hs : sWD 0 (nD x) (mD x) (eD x) mode = (if nD x then 9223372036854775808 else 0) := by rw [hm]; exact sWD_zero _ _ _
      rw [hs] at S
      exact RWhole_zero x _ _ _ mode _ _ (by rw [hm]; rfl) KN TK S w
    · have hmz : (mD x : Int) ≠ 0 := fun h => hz (hm0.1 (by omega))
      have hE : -5000 ≤ eD x ∧ eD x ≤ 5000 := ⟨by omega, by omega⟩
      have WH := Lib.hid (fun (w : World) (g : Nat) (hI : IntB w g (mD x : Int)) => Rwhole g (mD x) (nD x) (eD x) mode hE hM w hI)
      obtain ⟨h1, h2⟩ := hWord_is hx hmode hf hz
      have hl : (dg (wAmt (mD x) (eD x) (nD x) mode)).length ≤ 900 := by
        unfold wAmt
        split
        · exact Nat.le_trans (dg_shl_le (k := 40) hM (by omega)) (by decide)
        · exact Nat.le_trans (cutQ_len _ (nD x) mode hM) (by decide)
      rw [hFlags_is hmode hf]
      generalize wAmt (mD x) (eD x) (nD x) mode = Q at *
      generalize wLost (mD x) (eD x) = L at *
      by_cases hq : Q = 0
      · rw [h1 hq]
        have NO := Lib.hid (fun w => RnoughtD (nD x) w)
        cases L
        · exact RWhole_none0 x _ Q _ _ mode (nD x) trivial hmz (by omega) KN TK WH NO w
        · exact RWhole_none1 x _ Q _ _ mode (nD x) trivial hmz (by omega) KN TK WH NO w
      · rw [h2 hq]
        have RR := Lib.hid (fun (w : World) (g : Nat) (hI : IntB w g (Q : Int)) => RroundD (nD x) false g Q 0 0 (by decide) hl hq w hI)
        cases L
        · exact RWhole_some0 x _ Q _ _ mode _ (nD x) trivial hmz (by omega) KN TK WH RR w
        · exact RWhole_some1 x _ Q _ _ mode _ (nD x) trivial hmz (by omega) KN TK WH RR w
  · unfold hWord hFlags nErr
    rw [if_pos hmode, if_pos hmode, if_neg hmode]
    exact RWhole_mode x mode (Lib.hid fun w => Rkn_false hmode w) w
theorem Int_both (x : Nat) (width mode : Int) (hx : x < 18446744073709551616) : ∃ c k n : Int, (∀ w, Calls Tryz.prog 15 #[.float .f64 x, .int .i64 width, .int .i64 mode] w fun e w' => e = .returned (.tuple #[.int .i64 c, .int .i64 k, .int .i64 n]) ∧ Within w w') ∧ (∀ w, Calls Tryz.prog 16 #[.int .u64 (x : Int), .int .i64 width, .int .i64 mode] w fun e w' => e = .returned (.tuple #[.int .i64 c, .int .i64 k, .int .i64 n]) ∧ Within w w') := by
  have WH := Lib.hid (fun w => Whole_any x mode hx w)
  by_cases hmode : 0 ≤ mode ∧ mode ≤ 4
  · rw [show nErr mode = 0 from if_pos hmode] at WH
    have KN := Lib.hid (fun w => Rkn_true hmode w)
    by_cases w8 : width = 8
    · subst w8
      obtain ⟨r1, r2⟩ := wiV_range (x := x) (mode := mode) (lo := -128) (hi := 127) (by decide) (by decide)
      have RI := fun w => RInt_8 x mode (wiV x mode (-128) 127) (wiF x mode (-128) 127) ⟨by omega, by omega⟩ KN (Lib.hid fun w gl gh h1 h2 => Rwithin x gl gh mode (-128) 127 hx (Nat.le_trans (dg_small (k := 3) (by decide)) (by decide)) (Nat.le_trans (dg_small (k := 3) (by decide)) (by decide)) w h1 h2) w
      by_cases hn : 9218868437227405312 < x % 9223372036854775808
      · obtain ⟨e1, e2⟩ := wi_nan (mode := mode) (lo := -128) (hi := 127) hn
        rw [e1, e2] at RI
        obtain ⟨f1, _⟩ := hWord_nan hmode hn
        exact ⟨0, 8, 0, fun w => Int_8_nan x _ mode _ WH (by rw [f1]; decide) w, RI⟩
      · obtain ⟨e1, e2⟩ := int_law (W := 8) (P := 128) hx hmode (show x % 9223372036854775808 ≤ 9218868437227405312 by omega) (by decide) (by decide)
        have PI := Int_8_flag x mode hx (by omega) hmode
        rw [e1, e2] at PI
        exact ⟨_, _, 0, PI, RI⟩
    by_cases w16 : width = 16
    · subst w16
      obtain ⟨r1, r2⟩ := wiV_range (x := x) (mode := mode) (lo := -32768) (hi := 32767) (by decide) (by decide)
      have RI := fun w => RInt_16 x mode (wiV x mode (-32768) 32767) (wiF x mode (-32768) 32767) ⟨by omega, by omega⟩ KN (Lib.hid fun w gl gh h1 h2 => Rwithin x gl gh mode (-32768) 32767 hx (Nat.le_trans (dg_small (k := 3) (by decide)) (by decide)) (Nat.le_trans (dg_small (k := 3) (by decide)) (by decide)) w h1 h2) w
      by_cases hn : 9218868437227405312 < x % 9223372036854775808
      · obtain ⟨e1, e2⟩ := wi_nan (mode := mode) (lo := -32768) (hi := 32767) hn
        rw [e1, e2] at RI
        obtain ⟨f1, _⟩ := hWord_nan hmode hn
        exact ⟨0, 8, 0, fun w => Int_16_nan x _ mode _ WH (by rw [f1]; decide) w, RI⟩
      · obtain ⟨e1, e2⟩ := int_law (W := 16) (P := 32768) hx hmode (show x % 9223372036854775808 ≤ 9218868437227405312 by omega) (by decide) (by decide)
        have PI := Int_16_flag x mode hx (by omega) hmode
        rw [e1, e2] at PI
        exact ⟨_, _, 0, PI, RI⟩
    by_cases w32 : width = 32
    · subst w32
      obtain ⟨r1, r2⟩ := wiV_range (x := x) (mode := mode) (lo := -2147483648) (hi := 2147483647) (by decide) (by decide)
      have RI := fun w => RInt_32 x mode (wiV x mode (-2147483648) 2147483647) (wiF x mode (-2147483648) 2147483647) ⟨by omega, by omega⟩ KN (Lib.hid fun w gl gh h1 h2 => Rwithin x gl gh mode (-2147483648) 2147483647 hx (Nat.le_trans (dg_small (k := 3) (by decide)) (by decide)) (Nat.le_trans (dg_small (k := 3) (by decide)) (by decide)) w h1 h2) w
      by_cases hn : 9218868437227405312 < x % 9223372036854775808
      · obtain ⟨e1, e2⟩ := wi_nan (mode := mode) (lo := -2147483648) (hi := 2147483647) hn
        rw [e1, e2] at RI
        obtain ⟨f1, _⟩ := hWord_nan hmode hn
        exact ⟨0, 8, 0, fun w => Int_32_nan x _ mode _ WH (by rw [f1]; decide) w, RI⟩
      · obtain ⟨e1, e2⟩ := int_law (W := 32) (P := 2147483648) hx hmode (show x % 9223372036854775808 ≤ 9218868437227405312 by omega) (by decide) (by decide)
        have PI := Int_32_flag x mode hx (by omega) hmode
        rw [e1, e2] at PI
        exact ⟨_, _, 0, PI, RI⟩
    by_cases w64 : width = 64
    · subst w64
      obtain ⟨r1, r2⟩ := wiV_range (x := x) (mode := mode) (lo := -9223372036854775808) (hi := 9223372036854775807) (by decide) (by decide)
      have RI := fun w => RInt_64 x mode (wiV x mode (-9223372036854775808) 9223372036854775807) (wiF x mode (-9223372036854775808) 9223372036854775807) ⟨by omega, by omega⟩ KN (Lib.hid fun w gl gh h1 h2 => Rwithin x gl gh mode (-9223372036854775808) 9223372036854775807 hx (Nat.le_trans (dg_small (k := 3) (by decide)) (by decide)) (Nat.le_trans (dg_small (k := 3) (by decide)) (by decide)) w h1 h2) w
      by_cases hn : 9218868437227405312 < x % 9223372036854775808
      · obtain ⟨e1, e2⟩ := wi_nan (mode := mode) (lo := -9223372036854775808) (hi := 9223372036854775807) hn
        rw [e1, e2] at RI
        obtain ⟨f1, _⟩ := hWord_nan hmode hn
        exact ⟨0, 8, 0, fun w => Int_64_nan x _ mode _ WH (by rw [f1]; decide) w, RI⟩
      · obtain ⟨e1, e2⟩ := int_law (W := 64) (P := 9223372036854775808) hx hmode (show x % 9223372036854775808 ≤ 9218868437227405312 by omega) (by decide) (by decide)
        have PI := Int_64_flag x mode hx (by omega) hmode
        rw [e1, e2] at PI
        exact ⟨_, _, 0, PI, RI⟩
    exact ⟨0, 0, 21, fun w => Int_width x _ width mode _ WH (Lib.hid fun w => fits_no width (beq_eq_false_iff_ne.2 w8) (beq_eq_false_iff_ne.2 w16) (beq_eq_false_iff_ne.2 w32) (beq_eq_false_iff_ne.2 w64) w) w,
      fun w => RInt_width x width mode KN (Lib.hid fun w => Rwidth_no width (beq_eq_false_iff_ne.2 w8) (beq_eq_false_iff_ne.2 w16) (beq_eq_false_iff_ne.2 w32) (beq_eq_false_iff_ne.2 w64) w) w⟩
  · rw [show nErr mode = 20 from if_neg hmode] at WH
    exact ⟨0, 0, 20, fun w => Int_err x _ width mode _ 20 WH rfl w, fun w => RInt_mode x width mode (Lib.hid fun w => Rkn_false hmode w) w⟩
theorem Uint_both (x : Nat) (width mode : Int) (hx : x < 18446744073709551616) : ∃ c k n : Int, (∀ w, Calls Tryz.prog 17 #[.float .f64 x, .int .i64 width, .int .i64 mode] w fun e w' => e = .returned (.tuple #[.int .u64 c, .int .i64 k, .int .i64 n]) ∧ Within w w') ∧ (∀ w, Calls Tryz.prog 18 #[.int .u64 (x : Int), .int .i64 width, .int .i64 mode] w fun e w' => e = .returned (.tuple #[.int .u64 c, .int .i64 k, .int .i64 n]) ∧ Within w w') := by
  have WH := Lib.hid (fun w => Whole_any x mode hx w)
  by_cases hmode : 0 ≤ mode ∧ mode ≤ 4
  · rw [show nErr mode = 0 from if_pos hmode] at WH
    have KN := Lib.hid (fun w => Rkn_true hmode w)
    by_cases w8 : width = 8
    · subst w8
      obtain ⟨r1, r2⟩ := wiV_range (x := x) (mode := mode) (lo := 0) (hi := 255) (by decide) (by decide)
      have RI := fun w => RUint_8 x mode (wiV x mode (0) 255) (wiF x mode (0) 255) ⟨by omega, Nat.le_trans (dg_small (k := 2) (show _ < 18446744073709551616 by omega)) (by decide)⟩ KN (Lib.hid fun w gl gh h1 h2 => Rwithin x gl gh mode (0) 255 hx (Nat.le_trans (dg_small (k := 3) (by decide)) (by decide)) (Nat.le_trans (dg_small (k := 3) (by decide)) (by decide)) w h1 h2) w
      by_cases hn : 9218868437227405312 < x % 9223372036854775808
      · obtain ⟨e1, e2⟩ := wi_nan (mode := mode) (lo := 0) (hi := 255) hn
        rw [e1, e2] at RI
        obtain ⟨f1, _⟩ := hWord_nan hmode hn
        exact ⟨0, 8, 0, fun w => Uint_8_nan x _ mode _ WH (by rw [f1]; decide) w, RI⟩
      · obtain ⟨e1, e2⟩ := uint_law (W := 8) (P := 256) hx hmode (show x % 9223372036854775808 ≤ 9218868437227405312 by omega) (by decide) (by decide)
        have PI := Uint_8_flag x mode hx (by omega) hmode
        rw [e1, e2] at PI
        exact ⟨_, _, 0, PI, RI⟩
    by_cases w16 : width = 16
    · subst w16
      obtain ⟨r1, r2⟩ := wiV_range (x := x) (mode := mode) (lo := 0) (hi := 65535) (by decide) (by decide)
      have RI := fun w => RUint_16 x mode (wiV x mode (0) 65535) (wiF x mode (0) 65535) ⟨by omega, Nat.le_trans (dg_small (k := 2) (show _ < 18446744073709551616 by omega)) (by decide)⟩ KN (Lib.hid fun w gl gh h1 h2 => Rwithin x gl gh mode (0) 65535 hx (Nat.le_trans (dg_small (k := 3) (by decide)) (by decide)) (Nat.le_trans (dg_small (k := 3) (by decide)) (by decide)) w h1 h2) w
      by_cases hn : 9218868437227405312 < x % 9223372036854775808
      · obtain ⟨e1, e2⟩ := wi_nan (mode := mode) (lo := 0) (hi := 65535) hn
        rw [e1, e2] at RI
        obtain ⟨f1, _⟩ := hWord_nan hmode hn
        exact ⟨0, 8, 0, fun w => Uint_16_nan x _ mode _ WH (by rw [f1]; decide) w, RI⟩
      · obtain ⟨e1, e2⟩ := uint_law (W := 16) (P := 65536) hx hmode (show x % 9223372036854775808 ≤ 9218868437227405312 by omega) (by decide) (by decide)
        have PI := Uint_16_flag x mode hx (by omega) hmode
        rw [e1, e2] at PI
        exact ⟨_, _, 0, PI, RI⟩
    by_cases w32 : width = 32
    · subst w32
      obtain ⟨r1, r2⟩ := wiV_range (x := x) (mode := mode) (lo := 0) (hi := 4294967295) (by decide) (by decide)
      have RI := fun w => RUint_32 x mode (wiV x mode (0) 4294967295) (wiF x mode (0) 4294967295) ⟨by omega, Nat.le_trans (dg_small (k := 2) (show _ < 18446744073709551616 by omega)) (by decide)⟩ KN (Lib.hid fun w gl gh h1 h2 => Rwithin x gl gh mode (0) 4294967295 hx (Nat.le_trans (dg_small (k := 3) (by decide)) (by decide)) (Nat.le_trans (dg_small (k := 3) (by decide)) (by decide)) w h1 h2) w
      by_cases hn : 9218868437227405312 < x % 9223372036854775808
      · obtain ⟨e1, e2⟩ := wi_nan (mode := mode) (lo := 0) (hi := 4294967295) hn
        rw [e1, e2] at RI
        obtain ⟨f1, _⟩ := hWord_nan hmode hn
        exact ⟨0, 8, 0, fun w => Uint_32_nan x _ mode _ WH (by rw [f1]; decide) w, RI⟩
      · obtain ⟨e1, e2⟩ := uint_law (W := 32) (P := 4294967296) hx hmode (show x % 9223372036854775808 ≤ 9218868437227405312 by omega) (by decide) (by decide)
        have PI := Uint_32_flag x mode hx (by omega) hmode
        rw [e1, e2] at PI
        exact ⟨_, _, 0, PI, RI⟩
    by_cases w64 : width = 64
    · subst w64
      obtain ⟨r1, r2⟩ := wiV_range (x := x) (mode := mode) (lo := 0) (hi := 18446744073709551615) (by decide) (by decide)
      have RI := fun w => RUint_64 x mode (wiV x mode (0) 18446744073709551615) (wiF x mode (0) 18446744073709551615) ⟨by omega, Nat.le_trans (dg_small (k := 2) (show _ < 18446744073709551616 by omega)) (by decide)⟩ KN (Lib.hid fun w gl gh h1 h2 => Rwithin x gl gh mode (0) 18446744073709551615 hx (Nat.le_trans (dg_small (k := 3) (by decide)) (by decide)) (Nat.le_trans (dg_small (k := 3) (by decide)) (by decide)) w h1 h2) w
      by_cases hn : 9218868437227405312 < x % 9223372036854775808
      · obtain ⟨e1, e2⟩ := wi_nan (mode := mode) (lo := 0) (hi := 18446744073709551615) hn
        rw [e1, e2] at RI
        obtain ⟨f1, _⟩ := hWord_nan hmode hn
        exact ⟨0, 8, 0, fun w => Uint_64_nan x _ mode _ WH (by rw [f1]; decide) w, RI⟩
      · obtain ⟨e1, e2⟩ := uint_law (W := 64) (P := 18446744073709551616) hx hmode (show x % 9223372036854775808 ≤ 9218868437227405312 by omega) (by decide) (by decide)
        have PI := Uint_64_flag x mode hx (by omega) hmode
        rw [e1, e2] at PI
        exact ⟨_, _, 0, PI, RI⟩
    exact ⟨0, 0, 21, fun w => Uint_width x _ width mode _ WH (Lib.hid fun w => fits_no width (beq_eq_false_iff_ne.2 w8) (beq_eq_false_iff_ne.2 w16) (beq_eq_false_iff_ne.2 w32) (beq_eq_false_iff_ne.2 w64) w) w,
      fun w => RUint_width x width mode KN (Lib.hid fun w => Rwidth_no width (beq_eq_false_iff_ne.2 w8) (beq_eq_false_iff_ne.2 w16) (beq_eq_false_iff_ne.2 w32) (beq_eq_false_iff_ne.2 w64) w) w⟩
  · rw [show nErr mode = 20 from if_neg hmode] at WH
    exact ⟨0, 0, 20, fun w => Uint_err x _ width mode _ 20 WH rfl w, fun w => RUint_mode x width mode (Lib.hid fun w => Rkn_false hmode w) w⟩
set_option maxRecDepth 100000 in
set_option maxHeartbeats 600000 in
theorem wholes_core (x a : Nat) (width mode ka na c kc nc d kd nd : Int) (PW : Hid (∀ w, Calls Tryz.prog 11 #[.float .f64 x, .int .i64 mode] w fun e' w' => e' = .returned (.tuple #[.float .f64 a, .int .i64 ka, .int .i64 na]) ∧ Within w w')) (RW : Hid (∀ w, Calls Tryz.prog 13 #[.int .u64 (x : Int), .int .i64 mode] w fun e' w' => e' = .returned (.tuple #[.int .u64 (a : Int), .int .i64 ka, .int .i64 na]) ∧ Within w w')) (PI : Hid (∀ w, Calls Tryz.prog 15 #[.float .f64 x, .int .i64 width, .int .i64 mode] w fun e' w' => e' = .returned (.tuple #[.int .i64 c, .int .i64 kc, .int .i64 nc]) ∧ Within w w')) (RI : Hid (∀ w, Calls Tryz.prog 16 #[.int .u64 (x : Int), .int .i64 width, .int .i64 mode] w fun e' w' => e' = .returned (.tuple #[.int .i64 c, .int .i64 kc, .int .i64 nc]) ∧ Within w w')) (PU : Hid (∀ w, Calls Tryz.prog 17 #[.float .f64 x, .int .i64 width, .int .i64 mode] w fun e' w' => e' = .returned (.tuple #[.int .u64 d, .int .i64 kd, .int .i64 nd]) ∧ Within w w')) (RU : Hid (∀ w, Calls Tryz.prog 18 #[.int .u64 (x : Int), .int .i64 width, .int .i64 mode] w fun e' w' => e' = .returned (.tuple #[.int .u64 d, .int .i64 kd, .int .i64 nd]) ∧ Within w w')) (w : World) (hT : FmS w) : Calls Tryz.prog 4 #[.int .u64 (x : Int), .int .i64 width, .int .i64 mode] w fun e' w' => e' = .returned (.bool true) ∧ Within w w' := by
  have hc : (c == c) = true := by simp
  have hkc : (kc == kc) = true := by simp
  have hnc : (nc == nc) = true := by simp
  have hd : (d == d) = true := by simp
  have hkd : (kd == kd) = true := by simp
  have hnd : (nd == nd) = true := by simp
  go_enter Tryz.func4, Tryz.ntmps4
  go_wp2_with fail
  refine (f_any x _).mono ?_; rintro e1 w1 ⟨rfl, rfl⟩
  go_wp2_with fail
  refine (PW.out _).mono ?_; rintro e2 w2 ⟨rfl, hb2⟩
  go_wp2_with fail
  refine (RW.out _).mono ?_; rintro e3 w3 ⟨rfl, hb3⟩
  go_wp2_with fail
  refine (told64_yes a ka na _).mono ?_; rintro e4 w4 ⟨rfl, rfl⟩
  go_wp2_with fail
  refine (f_any x _).mono ?_; rintro e5 w5 ⟨rfl, rfl⟩
  go_wp2_with fail
  refine (PI.out _).mono ?_; rintro e6 w6 ⟨rfl, hb6⟩
  go_wp2_with fail
  refine (RI.out _).mono ?_; rintro e7 w7 ⟨rfl, hb7⟩
  go_wp2_with fail
  refine (f_any x _).mono ?_; rintro e8 w8 ⟨rfl, rfl⟩
  go_wp2_with fail
  refine (PU.out _).mono ?_; rintro e9 w9 ⟨rfl, hb9⟩
  go_wp2_with fail
  refine (RU.out _).mono ?_; rintro e10 w10 ⟨rfl, hb10⟩
  go_wp2_with fail
  refine (awake_true _ (hT.of (by repeat (first | with_reducible exact Within.refl _ | with_reducible assumption | with_reducible refine Within.alloc ?_ _ | with_reducible refine Within.drew ?_ | with_reducible refine Within.setCell ?_ (by first | (simp; done) | (simp; omega)) _ | with_reducible refine Within.trans ?_ (by assumption))))).mono ?_; rintro e11 w11 ⟨rfl, hb11⟩
  go_wp2
  go_ret
  exact ⟨rfl, (by repeat (first | with_reducible exact Within.refl _ | with_reducible assumption | with_reducible refine Within.alloc ?_ _ | with_reducible refine Within.drew ?_ | with_reducible refine Within.setCell ?_ (by first | (simp; done) | (simp; omega)) _ | with_reducible refine Within.trans ?_ (by assumption)))⟩
theorem wholes_walk (x : Nat) (width mode : Int) (hx : x < 18446744073709551616) (_ : -9223372036854775808 ≤ width) (_ : width < 9223372036854775808) (_ : -9223372036854775808 ≤ mode) (_ : mode < 9223372036854775808) (w : World) (hT : FmS w) : Calls Tryz.prog 4 #[.int .u64 (x : Int), .int .i64 width, .int .i64 mode] w fun e' w' => e' = .returned (.bool true) ∧ Within w w' := by
  obtain ⟨c, kc, nc, i1, i2⟩ := Int_both x width mode hx
  obtain ⟨d, kd, nd, u1, u2⟩ := Uint_both x width mode hx
  exact wholes_core x _ width mode _ _ c kc nc d kd nd (Lib.hid fun w => Whole_any x mode hx w) (Lib.hid fun w => RWhole_any x mode hx w) (Lib.hid i1) (Lib.hid i2) (Lib.hid u1) (Lib.hid u2) w hT
end Go.Proofs.YtifgngmebnjfkaaGreatDoor
end

section
namespace Go.Proofs.YtifgngmebnjfkaaGreatDoor.Base
open Go.ChangeShapes Go.WideShapes Go.ChangeAt Go.RowKit
theorem own : ownKnob Tryz.prog.godebug = none := by kernel_rfl
theorem gS : Tryz.prog.globalNamed "binnacle/convert.single" = some 0 := by kernel_rfl
theorem gST : (Tryz.prog.globals[0]?).map (·.type) = some 104 := by kernel_rfl
theorem cellsI : Tryz.prog.cellsOf 3 = 1 := by kernel_rfl
theorem fmt_cells {W : World} {name : String} {g : Nat} {a b c : Int} {rest : List (String × DataW Unit)} {ps : List MemPlace}
    (hg : Tryz.prog.globalNamed name = some g) (hty : (Tryz.prog.globals[g]?).map (·.type) = some 104)
    (h : DataW.LaidVars Tryz.prog W ((name, .agg [.lit (.int .i64 a), .lit (.int .i64 b), .lit (.int .i64 c)]) :: rest) ps) :
    (W.cell? ⟨g, 0, none⟩ = some (.int .i64 a) ∧ W.cell? ⟨g, 1, none⟩ = some (.int .i64 b) ∧ W.cell? ⟨g, 2, none⟩ = some (.int .i64 c)) ∧ ∃ q, DataW.LaidVars Tryz.prog W rest q := by
  obtain ⟨g', t', cs, fuel, p, q, hg', ht', hvar, hd, hr, _⟩ := h
  obtain rfl := Option.some.inj (hg.symm.trans hg')
  obtain rfl := Option.some.inj (hty.symm.trans ht')
  obtain ⟨y0, y1, y2, n, hx, hl, h0, h1, h2⟩ := Go.Deep.trod_struct3 Tryz.underlying104 hd
  obtain ⟨c0, e0, x0, _⟩ := DataW.trod_int Tryz.underlying3 h0
  obtain ⟨c1, e1, x1, _⟩ := DataW.trod_int Tryz.underlying3 h1
  obtain ⟨c2, e2, x2, _⟩ := DataW.trod_int Tryz.underlying3 h2
  subst x0 x1 x2
  have hx1 := congrArg Prod.fst hx
  simp at hx1
  obtain ⟨rfl, rfl, rfl⟩ := hx1
  have v := World.var?_cell hg hvar
  refine ⟨⟨?_, ?_, ?_⟩, q, hr⟩
  · rw [v 0]
    have := congrArg (·[0]?) e0
    simpa [cellsI, List.getElem?_take, List.getElem?_drop] using this
  · rw [v 1]
    have := congrArg (·[0]?) e1
    simpa [cellsI, List.getElem?_take, List.getElem?_drop] using this
  · rw [v 2]
    have := congrArg (·[0]?) e2
    simpa [cellsI, List.getElem?_take, List.getElem?_drop] using this
theorem fmS {W : World} {rest : List (String × DataW Unit)} (h : laidMet Tryz.prog (("binnacle/convert.single", Rows.laid_binnacle_convert_single) :: rest) W) : FmS W := by
  obtain ⟨ps, h1, _⟩ := h
  exact (fmt_cells gS gST h1).1
theorem nat_of_u64 {n : Int} (h : (Lit.int .u64 n).wf = true) : ∃ a : Nat, n = a ∧ a < 18446744073709551616 := by
  simp only [Lit.wf, Bool.and_eq_true, decide_eq_true_eq] at h
  have h1 : (0 : Int) ≤ n := h.1
  have h2 : n ≤ 18446744073709551615 := h.2
  exact ⟨n.toNat, by omega, by omega⟩
theorem int_of_i64 {n : Int} (h : (Lit.int .i64 n).wf = true) : -9223372036854775808 ≤ n ∧ n < 9223372036854775808 := by
  simp only [Lit.wf, Bool.and_eq_true, decide_eq_true_eq] at h
  have h1 : (-9223372036854775808 : Int) ≤ n := h.1
  have h2 : n ≤ 9223372036854775807 := h.2
  exact ⟨h1, by omega⟩
def layVar (g : Nat) (cs : Array Value) (h : Array Obj) : Array Obj := h.modify g fun
  | .cells _ t frozen => .cells cs t frozen
  | o => o
noncomputable def laidWorld (os : Os) : World :=
  { World.holding Tryz.prog os ⟨#[], #[], []⟩ with heap := layVar 0 #[.int .i64 24, .int .i64 (-126), .int .i64 127] (World.holding Tryz.prog os ⟨#[], #[], []⟩).heap }
end Go.Proofs.YtifgngmebnjfkaaGreatDoor.Base
end

section
namespace Go.Proofs.YtifgngmebnjfkaaGreatDoor.convertWholes
open Go.ChangeShapes Go.WideShapes Go.ChangeAt Go.RowKit
set_option maxRecDepth 100000 in
theorem contract (H : Type) (enc : TypeId × Value → H) (W : World) (base : Nat) (args : Array Value) (ds gs : List (DataW H)) (before : List MemPlace)
    (hval : ∀ (j : Nat) t v, Tryz.f4.params[j]? = some t → args[j]? = some v → Value.okWide Tryz.prog W .any base t v)
    (hW : DataW.Whole enc Tryz.prog Tryz.f4.params.toList Rows.convertWholesSpec.vars false W args.toList ds gs before) (hL : laidMetH Tryz.prog Rows.convertWholesRow.laid W) :
    Calls Tryz.prog 4 args W fun e W' => ∃ v, e = .returned v ∧ Rows.convertWholesSpec.post enc Tryz.prog Tryz.f4 false true false false W args v W' := by
  have hW' := hW
  obtain ⟨p, q, hA0, hV, rfl, hfz, hnd⟩ := hW
  have hA : DataW.TrodAll enc Tryz.prog W 0 (fun _ => true) true Tryz.f4.params.toList args.toList ds p := hA0
  rw [Tryz.params4] at hA hval
  obtain ⟨v0, vs0, d0, ds0, p0, q0, hargs, rfl, rfl, h0, r0⟩ := trodAll_cons hA
  obtain ⟨v1, vs1, d1, ds1, p1, q1, rfl, rfl, rfl, h1, r1⟩ := trodAll_cons r0
  obtain ⟨v2, vs2, d2, ds2, p2, q2, rfl, rfl, rfl, h2, r2⟩ := trodAll_cons r1
  obtain ⟨rfl, rfl, rfl⟩ := trodAll_nil r2
  obtain rfl : args = #[v0, v1, v2] := by cases args; simp_all
  obtain ⟨rfl, rfl⟩ := trodVars_none hV
  obtain ⟨n0, rfl, rfl, rfl, w0⟩ := open_int Tryz.underlying33 (hval 0 33 v0 rfl rfl) h0
  obtain ⟨a0, rfl, ha0⟩ := Base.nat_of_u64 w0
  obtain ⟨n1, rfl, rfl, rfl, w1⟩ := open_int Tryz.underlying3 (hval 1 3 v1 rfl rfl) h1
  have hl1 := Base.int_of_i64 w1
  obtain ⟨n2, rfl, rfl, rfl, w2⟩ := open_int Tryz.underlying3 (hval 2 3 v2 rfl rfl) h2
  have hl2 := Base.int_of_i64 w2
  clear hA0
  simp only [List.append_nil] at hW'
  refine (wholes_walk a0 n1 n2 ha0 hl1.1 hl1.2 hl2.1 hl2.2 W (Base.fmS hL)).mono fun e W' ⟨he, bel⟩ => ?_
  subst he
  exact ⟨_, rfl, _, _, _, [], _, [], hW', trodAll_mk1 (shut_bool Tryz.underlying4 _), (trodAll_cons_mk (shut_int Tryz.underlying33 w0) (trodAll_cons_mk (shut_int Tryz.underlying3 w1) (trodAll_cons_mk (shut_int Tryz.underlying3 w2) trodAll_mk0))), rfl, Below.frame bel _, fun h => by cases h⟩
theorem laid_met (os : Os) : laidMet Tryz.prog Rows.convertWholesRow.laid ((Base.laidWorld os).forCall (fun _ _ => 0) ⟨#[], #[Value.int .u64 0, Value.int .i64 0, Value.int .i64 0], []⟩).memory :=
  laidMet_of_run' 8 (by kernel_rfl) (by kernel_rfl)
theorem reads (os : Os) {H : Type} (enc : TypeId × Value → H) : ∃ places, DataW.whole enc Tryz.prog ((Base.laidWorld os).forCall (fun _ _ => 0) ⟨#[], #[Value.int .u64 0, Value.int .i64 0, Value.int .i64 0], []⟩).memory Tryz.f4.params.toList Rows.convertWholesSpec.vars false (#[Value.int .u64 0, Value.int .i64 0, Value.int .i64 0] : Array Value).toList 8 = some ([.lit (.int .u64 0), .lit (.int .i64 0), .lit (.int .i64 0)], [], places) :=
  ⟨[], by kernel_rfl⟩
set_option maxRecDepth 100000 in
theorem lifted (os : Os) (started : os.Started) (H : Type) (enc : TypeId × Value → H) (F : Stop.Interp) :
    ReturnsInHanded {} Tryz.checked os 4 .any ((OpenSpec.ofChange Rows.convertWholesSpec).preRow enc Tryz.prog Tryz.f4 Rows.convertWholesRow.domain false Rows.convertWholesRow.laid) (((OpenSpec.ofChange Rows.convertWholesSpec).at F).post enc Tryz.prog Tryz.f4 false true false false) := by
  obtain ⟨places, hx⟩ := reads os enc
  refine returnsInHanded_of_row (C := Tryz.checked) (s := OpenSpec.ofChange Rows.convertWholesSpec) Base.own started (by kernel_rfl) Tryz.func4
    (witness_row_at (enc := enc) (C := Tryz.checked) false (Base.laidWorld os) #[Value.int .u64 0, Value.int .i64 0, Value.int .i64 0] rfl (by kernel_rfl) (by kernel_rfl) (by kernel_rfl)
      (OpenSpec.preRow_of_cond 8 hx (by kernel_rfl) (fun k hk => by cases hk) (by kernel_rfl) (laid_met os))) ?_
  intro W base args ds gs before hval hW _ _ _ hL _ _
  exact contract H enc W base args ds gs before hval hW hL
theorem said : Rows.ConvertWholesSaid :=
  OpenClaim.holds_of_cond 4 Tryz.f4 rfl rfl rfl rfl rfl rfl rfl ⟨rfl, rfl, rfl, rfl, rfl⟩ rfl rfl rfl rfl rfl (by kernel_rfl) Tryz.func4 (by kernel_rfl)
    (of_decide_eq_true (by kernel_rfl)) (by unfold Func.isWrapper; first | (rw [if_pos (by decide +kernel)]; kernel_rfl) | (rw [if_neg (by decide +kernel)]; exact ⟨rfl, rfl⟩))
    (fun os started H enc _ F => by rw [OpenClaim.pre_eq_preRow]; exact lifted os started H enc F)
theorem plain (f : FuncId) (fn : Func) (hf : Tryz.pinned.checked.prog.funcNamed "binnacle/binnaclelaw02.ConvertWholes" = some f) (hfn : Tryz.pinned.checked.prog.funcs[f]? = some fn) :
    false = Tryz.pinned.checked.prog.looks [] ∧ ∀ (j : Nat) t, fn.params[j]? = some t → Tryz.pinned.checked.prog.wantsStandIn t = false := by
  obtain rfl : f = 4 := Option.some.inj ((show Tryz.prog.funcNamed "binnacle/binnaclelaw02.ConvertWholes" = some 4 by kernel_rfl).symm.trans hf) |>.symm
  obtain rfl : fn = Tryz.f4 := (Option.some.inj (Tryz.func4.symm.trans hfn)).symm
  refine ⟨by kernel_rfl, fun j t ht => ?_⟩
  rw [Tryz.params4] at ht
  have hm := Array.mem_of_getElem? ht
  have hm' : t = 33 ∨ t = 3 ∨ t = 3 := by simpa using hm
  rcases hm' with rfl | rfl | rfl
  · exact (show Tryz.prog.wantsStandIn 33 = false by kernel_rfl)
  · exact (show Tryz.prog.wantsStandIn 3 = false by kernel_rfl)
  · exact (show Tryz.prog.wantsStandIn 3 = false by kernel_rfl)
theorem card : Rows.ConvertWholesCardSaid :=
  Claim7.holds_tied_plain_at .later [] _ _ _ _ said (fun _ h => by cases h) (by kernel_rfl) (fun _ h => by cases h) convertWholes_row_tie rfl ⟨rfl, rfl⟩ (by kernel_rfl) rfl plain (by kernel_rfl)
#print axioms card
end Go.Proofs.YtifgngmebnjfkaaGreatDoor.convertWholes
end
