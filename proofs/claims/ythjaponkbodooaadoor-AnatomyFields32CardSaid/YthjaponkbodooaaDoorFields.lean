/- AnatomyFields and AnatomyFields32: the walks. -/
import Derived.Test.YthjaponkbodooaaDoorRef3
namespace Go.Proofs.YthjaponkbodooaaDoor
open Go.RowKit

theorem canon_joinD (neg : Bool) (e : Int) (fr : Nat) : canonD (joinD neg e fr) = joinD neg e fr := by
  unfold joinD
  split
  · decide
  · cases h : nanD (bitsOfD neg e.toNat fr)
    · rw [canonD_id h, canonD_id h]
    · rw [canonD_nan h]; decide

set_option maxRecDepth 100000 in
set_option maxHeartbeats 600000 in
theorem fields_walk_D (a b : Nat) (neg : Bool) (e : Int) (fr : Nat) (ha : a < 18446744073709551616) (hb : b < 18446744073709551616) (hlo : -9223372036854775808 ≤ e) (hhi : e < 9223372036854775808) (hf : fr < 18446744073709551616) (w : World) (hT : Tab w) : Calls Tryd.prog 5 #[.int .u64 a, .int .u64 b, .bool neg, .int .i64 e, .int .u64 fr] w fun e' w' => e' = .returned (.bool true) ∧ Within w w' := by
  have SP := Lib.hid (fun w => Split_D a ha w); have RS := Lib.hid (fun w => Rsplit_D a ha w)
  have JN := Lib.hid (fun w => Join_D neg e fr hlo (by omega) hf w); have RJ := Lib.hid (fun w => Rjoin_D neg e fr w)
  have CL := Lib.hid (fun w => Class_D a ha w); have RC := Lib.hid (fun w => Rclass_D a ha w)
  have SJ := Lib.hid (fun w => same_D (joinD neg e fr) (joinD neg e fr) w)
  rw [canon_joinD, decide_eq_true (rfl : joinD neg e fr = joinD neg e fr)] at SJ
  have SM := Lib.hid (fun w => Same_D a b ha hb w); have RM := Lib.hid (fun w => Rsame_D a b w)
  have CN := Lib.hid (fun w => Canon_D a ha w)
  have SC := Lib.hid (fun w => same_D (canonD a) a w)
  rw [decide_eq_true (rfl : canonD a = canonD a)] at SC
  have FT := Lib.hid (fun k w c0 c1 => Finite_two a b k ha hb w c0 c1); have RF := Lib.hid (fun k w c0 c1 => RallFinite_two a b k ha hb w c0 c1)
  clear ha hb hlo hhi hf
  generalize decide (canonD a = canonD b) = r at *
  generalize joinD neg e fr = j at *
  generalize joinED e fr = je at *
  generalize classD a = c at *
  generalize negD a = n at *
  generalize expD a = q at *
  generalize fracD a = m at *
  generalize canonD a = d at *
  generalize (decide (2 < c) && decide (2 < classD b)) = t at *
  go_enter Tryd.func5, Tryd.ntmps5
  go_wp2_with fail
  refine (f_any a _).mono ?_; rintro e1 w1 ⟨rfl, rfl⟩
  go_wp2_with fail
  refine (f_any b _).mono ?_; rintro e2 w2 ⟨rfl, rfl⟩
  go_wp2_with fail
  refine (SP.out _).mono ?_; rintro e3 w3 ⟨rfl, hb3⟩
  have hc3 := hb3.cells; have hf3 := hb3.frozens
  go_wp2_with fail
  refine (RS.out _).mono ?_; rintro e4 w4 ⟨rfl, rfl⟩
  go_wp2_with fail
  refine (JN.out _).mono ?_; rintro e5 w5 ⟨rfl, hb5⟩
  have hc5 := hb5.cells; have hf5 := hb5.frozens
  go_wp2_with fail
  refine (RJ.out _).mono ?_; rintro e6 w6 ⟨rfl, rfl⟩
  go_wp2_with fail
  refine (CL.out _).mono ?_; rintro e7 w7 ⟨rfl, hb7⟩
  have hc7 := hb7.cells; have hf7 := hb7.frozens
  go_wp2_with fail
  refine (RC.out _).mono ?_; rintro e8 w8 ⟨rfl, rfl⟩
  go_wp2_with fail
  refine (SJ.out _).mono ?_; rintro e9 w9 ⟨rfl, rfl⟩
  go_wp2_with fail
  refine (SM.out _).mono ?_; rintro e10 w10 ⟨rfl, hb10⟩
  have hc10 := hb10.cells; have hf10 := hb10.frozens
  go_wp2_with fail
  refine (RM.out _).mono ?_; rintro e11 w11 ⟨rfl, rfl⟩
  go_wp2_with fail
  refine (CN.out _).mono ?_; rintro e12 w12 ⟨rfl, hb12⟩
  have hc12 := hb12.cells; have hf12 := hb12.frozens
  go_wp2_with fail
  refine (SC.out _).mono ?_; rintro e13 w13 ⟨rfl, rfl⟩
  go_wp2_with fail
  refine (FT.out _ _ (by simp) (by simp)).mono ?_; rintro e14 w14 ⟨rfl, hb14⟩
  have hc14 := hb14.cells; have hf14 := hb14.frozens
  go_wp2_with fail
  refine (RF.out _ _ (by simp) (by simp)).mono ?_; rintro e15 w15 ⟨rfl, rfl⟩
  go_wp2_with fail
  refine (Finite_nil _).mono ?_; rintro e16 w16 ⟨rfl, rfl⟩
  go_wp2_with fail
  refine (awake_true _ (hT.of (by repeat (first | with_reducible exact Within.refl _ | with_reducible assumption | with_reducible refine Within.alloc ?_ _ | with_reducible refine Within.drew ?_ | with_reducible refine Within.setCell ?_ (by first | (simp; done) | (simp; omega)) _ | with_reducible refine Within.trans ?_ (by assumption))))).mono ?_; rintro e17 w17 ⟨rfl, hb17⟩
  go_wp2
  go_ret
  exact ⟨rfl, (by repeat (first | with_reducible exact Within.refl _ | with_reducible assumption | with_reducible refine Within.alloc ?_ _ | with_reducible refine Within.drew ?_ | with_reducible refine Within.setCell ?_ (by first | (simp; done) | (simp; omega)) _ | with_reducible refine Within.trans ?_ (by assumption)))⟩

theorem canon_joinS (neg : Bool) (e : Int) (fr : Nat) : canonS (joinS neg e fr) = joinS neg e fr := by
  unfold joinS
  split
  · decide
  · cases h : nanS (bitsOfS neg e.toNat fr)
    · rw [canonS_id h, canonS_id h]
    · rw [canonS_nan h]; decide

set_option maxRecDepth 100000 in
set_option maxHeartbeats 600000 in
theorem fields_walk_S (a b : Nat) (neg : Bool) (e : Int) (fr : Nat) (ha : a < 4294967296) (hb : b < 4294967296) (hlo : -9223372036854775808 ≤ e) (hhi : e < 9223372036854775808) (hf : fr < 4294967296) (w : World) (hT : Tab w) : Calls Tryd.prog 4 #[.int .u32 a, .int .u32 b, .bool neg, .int .i64 e, .int .u32 fr] w fun e' w' => e' = .returned (.bool true) ∧ Within w w' := by
  have SP := Lib.hid (fun w => Split_S a ha w); have RS := Lib.hid (fun w => Rsplit_S a ha w)
  have JN := Lib.hid (fun w => Join_S neg e fr hlo (by omega) hf w); have RJ := Lib.hid (fun w => Rjoin_S neg e fr w)
  have CL := Lib.hid (fun w => Class_S a ha w); have RC := Lib.hid (fun w => Rclass_S a ha w)
  have SJ := Lib.hid (fun w => same_S (joinS neg e fr) (joinS neg e fr) w)
  rw [canon_joinS, decide_eq_true (rfl : joinS neg e fr = joinS neg e fr)] at SJ
  have SM := Lib.hid (fun w => Same_S a b ha hb w); have RM := Lib.hid (fun w => Rsame_S a b w)
  have CN := Lib.hid (fun w => Canon_S a ha w)
  have SC := Lib.hid (fun w => same_S (canonS a) a w)
  rw [decide_eq_true (rfl : canonS a = canonS a)] at SC
  clear ha hb hlo hhi hf
  generalize decide (canonS a = canonS b) = r at *
  generalize joinS neg e fr = j at *
  generalize joinES e fr = je at *
  generalize classS a = c at *
  generalize negS a = n at *
  generalize expS a = q at *
  generalize fracS a = m at *
  generalize canonS a = d at *
  go_enter Tryd.func4, Tryd.ntmps4
  go_wp2_with fail
  refine (g_any a _).mono ?_; rintro e1 w1 ⟨rfl, rfl⟩
  go_wp2_with fail
  refine (g_any b _).mono ?_; rintro e2 w2 ⟨rfl, rfl⟩
  go_wp2_with fail
  refine (SP.out _).mono ?_; rintro e3 w3 ⟨rfl, hb3⟩
  have hc3 := hb3.cells; have hf3 := hb3.frozens
  go_wp2_with fail
  refine (RS.out _).mono ?_; rintro e4 w4 ⟨rfl, rfl⟩
  go_wp2_with fail
  refine (JN.out _).mono ?_; rintro e5 w5 ⟨rfl, hb5⟩
  have hc5 := hb5.cells; have hf5 := hb5.frozens
  go_wp2_with fail
  refine (RJ.out _).mono ?_; rintro e6 w6 ⟨rfl, rfl⟩
  go_wp2_with fail
  refine (CL.out _).mono ?_; rintro e7 w7 ⟨rfl, hb7⟩
  have hc7 := hb7.cells; have hf7 := hb7.frozens
  go_wp2_with fail
  refine (RC.out _).mono ?_; rintro e8 w8 ⟨rfl, rfl⟩
  go_wp2_with fail
  refine (SJ.out _).mono ?_; rintro e9 w9 ⟨rfl, rfl⟩
  go_wp2_with fail
  refine (SM.out _).mono ?_; rintro e10 w10 ⟨rfl, hb10⟩
  have hc10 := hb10.cells; have hf10 := hb10.frozens
  go_wp2_with fail
  refine (RM.out _).mono ?_; rintro e11 w11 ⟨rfl, rfl⟩
  go_wp2_with fail
  refine (CN.out _).mono ?_; rintro e12 w12 ⟨rfl, hb12⟩
  have hc12 := hb12.cells; have hf12 := hb12.frozens
  go_wp2_with fail
  refine (SC.out _).mono ?_; rintro e13 w13 ⟨rfl, rfl⟩
  go_wp2_with fail
  refine (awake_true _ (hT.of (by repeat (first | with_reducible exact Within.refl _ | with_reducible assumption | with_reducible refine Within.alloc ?_ _ | with_reducible refine Within.drew ?_ | with_reducible refine Within.setCell ?_ (by first | (simp; done) | (simp; omega)) _ | with_reducible refine Within.trans ?_ (by assumption))))).mono ?_; rintro e17 w17 ⟨rfl, hb17⟩
  go_wp2
  go_ret
  exact ⟨rfl, (by repeat (first | with_reducible exact Within.refl _ | with_reducible assumption | with_reducible refine Within.alloc ?_ _ | with_reducible refine Within.drew ?_ | with_reducible refine Within.setCell ?_ (by first | (simp; done) | (simp; omega)) _ | with_reducible refine Within.trans ?_ (by assumption)))⟩

end Go.Proofs.YthjaponkbodooaaDoor
