/- AnatomySteps: the walk: so many times Next leads from one number to the other. -/
import Derived.Test.YthjaponkbodooaaDoorRef2
namespace Go.Proofs.YthjaponkbodooaaDoor
open Go.RowKit

theorem zero64 (a : Nat) (hn : nanD a = false) : (FloatKind.f64.format.order a 0 == some .eq) = decide (a % 9223372036854775808 = 0) := by
  show (Ieee.double.order a 0 == some .eq) = _
  rw [Fp.eq64 a 0 hn (by decide), Bool.eq_iff_iff, decide_eq_true_iff, decide_eq_true_iff]
  unfold Fp.key64; split <;> split <;> omega

set_option maxRecDepth 100000 in
set_option maxHeartbeats 600000 in
theorem signbit (a : Nat) (ha : a < 18446744073709551616) (w : World) : Calls Tryd.prog 66 #[.float .f64 a] w fun e w' => e = .returned (.bool (decide (9223372036854775808 ≤ a))) ∧ w = w' := by
  by_cases h : 9223372036854775808 ≤ a
  · rw [decide_eq_true h]
    have g : IntKind.i64.wrap (a : Int) = (a : Int) - 18446744073709551616 := by rw [IntKind.wrap_i64]; omega
    obtain ⟨q, hq⟩ : ∃ q : Int, (a : Int) - 18446744073709551616 = q := ⟨_, rfl⟩
    rw [hq] at g
    have hd : decide (q < 0) = true := decide_eq_true (by omega)
    clear h ha hq
    go_enter Tryd.func66, Tryd.ntmps66
    go_wp2
    go_ret
    exact ⟨ret_bool (by first | rfl | exact hd), rfl⟩
  · rw [decide_eq_false h]
    have g : IntKind.i64.wrap (a : Int) = (a : Int) := by rw [IntKind.wrap_i64]; omega
    have hd : decide ((a : Int) < 0) = false := decide_eq_false (by omega)
    clear h ha
    go_enter Tryd.func66, Tryd.ntmps66
    go_wp2
    go_ret
    exact ⟨ret_bool (by first | rfl | exact hd), rfl⟩

set_option maxRecDepth 100000 in
set_option maxHeartbeats 600000 in
theorem steps_nan (a : Nat) (n : Int) (hn : nanD a = true) (w : World) (hT : Tab w) : Calls Tryd.prog 10 #[.int .u64 a, .int .i64 n] w fun e w' => e = .returned (.bool true) ∧ Within w w' := by
  have e := ne_self64 a; rw [hn] at e; clear hn
  go_enter Tryd.func10, Tryd.ntmps10
  go_wp2_with fail
  refine (f_any a _).mono ?_; rintro e1 w1 ⟨rfl, rfl⟩
  go_wp2_with fail
  refine (awake_true _ (hT.of (by repeat (first | with_reducible exact Within.refl _ | with_reducible assumption | with_reducible refine Within.alloc ?_ _ | with_reducible refine Within.drew ?_ | with_reducible refine Within.setCell ?_ (by first | (simp; done) | (simp; omega)) _ | with_reducible refine Within.trans ?_ (by assumption))))).mono ?_; rintro e2 w2 ⟨rfl, hb2⟩
  go_wp2
  go_ret
  exact ⟨rfl, (by repeat (first | with_reducible exact Within.refl _ | with_reducible assumption | with_reducible refine Within.alloc ?_ _ | with_reducible refine Within.drew ?_ | with_reducible refine Within.setCell ?_ (by first | (simp; done) | (simp; omega)) _ | with_reducible refine Within.trans ?_ (by assumption)))⟩

set_option maxRecDepth 100000 in
set_option maxHeartbeats 600000 in
theorem steps_low (a : Nat) (n : Int) (hn : nanD a = false) (h : n < 0) (w : World) (hT : Tab w) : Calls Tryd.prog 10 #[.int .u64 a, .int .i64 n] w fun e w' => e = .returned (.bool true) ∧ Within w w' := by
  have e := ne_self64 a; rw [hn] at e; clear hn
  have d := decide_eq_true h; clear h
  go_enter Tryd.func10, Tryd.ntmps10
  go_wp2_with fail
  refine (f_any a _).mono ?_; rintro e1 w1 ⟨rfl, rfl⟩
  go_wp2_with fail
  refine (awake_true _ (hT.of (by repeat (first | with_reducible exact Within.refl _ | with_reducible assumption | with_reducible refine Within.alloc ?_ _ | with_reducible refine Within.drew ?_ | with_reducible refine Within.setCell ?_ (by first | (simp; done) | (simp; omega)) _ | with_reducible refine Within.trans ?_ (by assumption))))).mono ?_; rintro e2 w2 ⟨rfl, hb2⟩
  go_wp2
  go_ret
  exact ⟨rfl, (by repeat (first | with_reducible exact Within.refl _ | with_reducible assumption | with_reducible refine Within.alloc ?_ _ | with_reducible refine Within.drew ?_ | with_reducible refine Within.setCell ?_ (by first | (simp; done) | (simp; omega)) _ | with_reducible refine Within.trans ?_ (by assumption)))⟩

set_option maxRecDepth 100000 in
set_option maxHeartbeats 600000 in
theorem steps_high (a : Nat) (n : Int) (hn : nanD a = false) (h : 300 < n) (w : World) (hT : Tab w) : Calls Tryd.prog 10 #[.int .u64 a, .int .i64 n] w fun e w' => e = .returned (.bool true) ∧ Within w w' := by
  have e := ne_self64 a; rw [hn] at e; clear hn
  have d1 : decide (n < 0) = false := decide_eq_false (by omega)
  have d2 : decide (n > 300) = true := decide_eq_true h
  clear h
  go_enter Tryd.func10, Tryd.ntmps10
  go_wp2_with fail
  refine (f_any a _).mono ?_; rintro e1 w1 ⟨rfl, rfl⟩
  go_wp2_with fail
  refine (awake_true _ (hT.of (by repeat (first | with_reducible exact Within.refl _ | with_reducible assumption | with_reducible refine Within.alloc ?_ _ | with_reducible refine Within.drew ?_ | with_reducible refine Within.setCell ?_ (by first | (simp; done) | (simp; omega)) _ | with_reducible refine Within.trans ?_ (by assumption))))).mono ?_; rintro e2 w2 ⟨rfl, hb2⟩
  go_wp2
  go_ret
  exact ⟨rfl, (by repeat (first | with_reducible exact Within.refl _ | with_reducible assumption | with_reducible refine Within.alloc ?_ _ | with_reducible refine Within.drew ?_ | with_reducible refine Within.setCell ?_ (by first | (simp; done) | (simp; omega)) _ | with_reducible refine Within.trans ?_ (by assumption)))⟩

set_option maxRecDepth 100000 in
set_option maxHeartbeats 600000 in
theorem steps_far (a : Nat) (n : Int) (ha : a < 18446744073709551616) (hn : nanD a = false) (m : Nat) (hm : n = m) (h : m ≤ 300) (hp : 9218868437227405312 - (m : Int) < place a) (w : World) (hT : Tab w) : Calls Tryd.prog 10 #[.int .u64 a, .int .i64 n] w fun e w' => e = .returned (.bool true) ∧ Within w w' := by
  subst hm
  have e := ne_self64 a; rw [hn] at e; clear hn
  have KA := Lib.hid (fun w => Key_any a ha w)
  generalize place a = p at *
  have d1 : decide ((m : Int) < 0) = false := decide_eq_false (by omega)
  have d2 : True → decide ((m : Int) > 300) = false := fun _ => decide_eq_false (by omega)
  have g : IntKind.i64.wrap (9218868437227405312 - (m : Int)) = 9218868437227405312 - (m : Int) := by rw [IntKind.wrap_i64]; omega
  have d3 : True → decide (p > 9218868437227405312 - (m : Int)) = true := fun _ => decide_eq_true hp
  clear ha h hp
  go_enter Tryd.func10, Tryd.ntmps10
  go_wp2_with fail
  refine (f_any a _).mono ?_; rintro e1 w1 ⟨rfl, rfl⟩
  go_wp2_with fail
  refine (KA.out _).mono ?_; rintro e2 w2 ⟨rfl, hb2⟩
  go_wp2_with fail
  refine (awake_true _ (hT.of (by repeat (first | with_reducible exact Within.refl _ | with_reducible assumption | with_reducible refine Within.alloc ?_ _ | with_reducible refine Within.drew ?_ | with_reducible refine Within.setCell ?_ (by first | (simp; done) | (simp; omega)) _ | with_reducible refine Within.trans ?_ (by assumption))))).mono ?_; rintro e3 w3 ⟨rfl, hb3⟩
  go_wp2
  go_ret
  exact ⟨rfl, (by repeat (first | with_reducible exact Within.refl _ | with_reducible assumption | with_reducible refine Within.alloc ?_ _ | with_reducible refine Within.drew ?_ | with_reducible refine Within.setCell ?_ (by first | (simp; done) | (simp; omega)) _ | with_reducible refine Within.trans ?_ (by assumption)))⟩

set_option maxRecDepth 100000 in
set_option maxHeartbeats 600000 in
theorem steps_main (a : Nat) (n : Int) (ha : a < 18446744073709551616) (hn : nanD a = false) (m : Nat) (hm : n = m) (h : m ≤ 300) (hp : place a ≤ 9218868437227405312 - (m : Int)) (w : World) (hT : Tab w) : Calls Tryd.prog 10 #[.int .u64 a, .int .i64 n] w fun e w' => e = .returned (.bool true) ∧ Within w w' := by
  subst hm
  have e := ne_self64 a; rw [hn] at e
  have KA := Lib.hid (fun w => Key_any a ha w)
  have hr := place_range a ha
  have hlo : -9218868437227405313 ≤ place a + m := by omega
  have hhi : place a + m ≤ 9218868437227405312 := by omega
  have UK := Lib.hid (fun w => Unkey_any (place a + m) (by omega) (by omega) w)
  have PU := place_unkey hlo hhi
  have ST := Lib.hid (fun w => Steps_any a (unkeyB (place a + m)) ha PU.2.2 w)
  have EE : unkeyE (place a + m) = 0 := if_neg (by omega)
  have ES : stepsE a (unkeyB (place a + m)) = 0 := by unfold stepsE; rw [hn, PU.2.1]; rfl
  have EB : stepsB a (unkeyB (place a + m)) = m := by unfold stepsB; rw [hn, PU.2.1, PU.1]; simp; omega
  rw [EE] at UK; rw [ES, EB] at ST
  have SM : Hid (∀ c : Nat, place c = place a + m → nanD c = false → c < 18446744073709551616 → ∀ w, Calls Tryd.prog 21 #[.float .f64 c, .float .f64 (unkeyB (place a + m))] w fun e w' => e = .returned (.bool true) ∧ w = w') := fun c hc hcn hcl w => by
    have hs := same_D c (unkeyB (place a + m)) w
    have hcu : c = unkeyB (place a + m) := place_inj hcl PU.2.2 hcn PU.2.1 (hc.trans PU.1.symm)
    rw [unkey_canon, decide_eq_true hcu] at hs; exact hs
  have g1 : IntKind.i64.wrap (9218868437227405312 - (m : Int)) = 9218868437227405312 - (m : Int) := by rw [IntKind.wrap_i64]; omega
  have g2 : IntKind.i64.wrap (place a + (m : Int)) = place a + (m : Int) := by rw [IntKind.wrap_i64]; omega
  have g3 : IntKind.u64.wrap (m : Int) = m := by rw [IntKind.wrap_u64]; omega
  have d1 : decide ((m : Int) < 0) = false := decide_eq_false (by omega)
  have d2 : True → decide ((m : Int) > 300) = false := fun _ => decide_eq_false (by omega)
  have d3 : True → decide (place a > 9218868437227405312 - (m : Int)) = false := fun _ => decide_eq_false (by omega)
  have HF := Lib.hid (And.intro (And.intro ha hn) (And.intro h hhi))
  clear EE ES EB PU hr hlo hp
  obtain ⟨p, hpa⟩ : ∃ p, place a = p := ⟨_, rfl⟩
  have HP := Lib.hid hpa
  rw [hpa] at KA UK ST SM g2 d3 HF
  clear hpa hhi ha hn h
  generalize unkeyB (p + (m : Int)) = u at *
  go_enter Tryd.func10, Tryd.ntmps10
  go_wp2_with fail
  refine (f_any a _).mono ?_; rintro e1 w1 ⟨rfl, rfl⟩
  go_wp2_with fail
  refine (KA.out _).mono ?_; rintro e2 w2 ⟨rfl, hb2⟩
  go_wp2_with fail
  refine (UK.out _).mono ?_; rintro e3 w3 ⟨rfl, hb3⟩
  go_wp2_with fail
  refine (ST.out _).mono ?_; rintro e4 w4 ⟨rfl, hb4⟩
  go_wp2_with fail
  refine (awake_true _ (hT.of (by repeat (first | with_reducible exact Within.refl _ | with_reducible assumption | with_reducible refine Within.alloc ?_ _ | with_reducible refine Within.drew ?_ | with_reducible refine Within.setCell ?_ (by first | (simp; done) | (simp; omega)) _ | with_reducible refine Within.trans ?_ (by assumption))))).mono ?_; rintro e5 w5 ⟨rfl, hb5⟩
  go_wp2
  go_loopw [5, 11] (fun x i wr => ∃ c k : Nat, k ≤ m ∧ x = .float .f64 c ∧ i = .int .i64 k ∧ place c = p + k ∧ nanD c = false ∧ c < 18446744073709551616 ∧ Within w wr) (fun _ i _ => m - (intOf i).toNat)
  case atStart => exact ⟨a, 0, Nat.zero_le _, rfl, rfl, by have := HP.out; omega, HF.out.1.2, HF.out.1.1, (by repeat (first | with_reducible exact Within.refl _ | with_reducible assumption | with_reducible refine Within.alloc ?_ _ | with_reducible refine Within.drew ?_ | with_reducible refine Within.setCell ?_ (by first | (simp; done) | (simp; omega)) _ | with_reducible refine Within.trans ?_ (by assumption)))⟩
  case round =>
    obtain ⟨c, k, hk, rfl, rfl, hpc, hnc, hlc, hwr⟩ := hrel
    have SC := Lib.hid (SM.out c)
    have HC := Lib.hid (And.intro (And.intro hpc hnc) (And.intro hlc hk))
    have z := zero64 c hnc
    by_cases hkm : k = m
    · subst hkm
      have t : decide ((k : Int) < (k : Int)) = false := decide_eq_false (by omega)
      clear z hpc hnc hlc hk
      go_wp2_with fail
      refine (SC.out HC.out.1.1 HC.out.1.2 HC.out.2.1 _).mono ?_; rintro e6 w6 ⟨rfl, rfl⟩
      go_wp2
      go_ret
      exact ⟨rfl, (by repeat (first | with_reducible exact Within.refl _ | with_reducible assumption | with_reducible refine Within.alloc ?_ _ | with_reducible refine Within.drew ?_ | with_reducible refine Within.setCell ?_ (by first | (simp; done) | (simp; omega)) _ | with_reducible refine Within.trans ?_ (by assumption)))⟩
    have t : k < m := by omega
    have gk : IntKind.i64.wrap ((k : Int) + 1) = ((k + 1 : Nat) : Int) := by have := HF.out.2.1; rw [IntKind.wrap_i64]; omega
    have SB := Lib.hid (fun w => signbit c hlc w)
    have HKM := Lib.hid hkm
    by_cases hz : c % 9223372036854775808 = 0
    · rw [decide_eq_true hz] at z
      by_cases hs : 9223372036854775808 ≤ c
      · rw [decide_eq_true hs] at SB
        have hc8 : c = 9223372036854775808 := by omega
        have m1 : place 9223372036854775808 = -1 := by decide
        have m0 : place 0 = 0 := by decide
        have HN := Lib.hid (show place 0 = p + ((k + 1 : Nat) : Int) by rw [hc8] at hpc; omega)
        clear m1 m0
        clear hpc hnc hlc hk hkm hz hs hc8
        go_wp2_with fail
        refine (SB.out _).mono ?_; rintro e6 w6 ⟨rfl, rfl⟩
        go_wp2
        go_roundw
        case rel => exact ⟨0, k + 1, by have := HC.out.2.2; have := HKM.out; omega, rfl, by simp, HN.out, by decide, by decide, (by repeat (first | with_reducible exact Within.refl _ | with_reducible assumption | with_reducible refine Within.alloc ?_ _ | with_reducible refine Within.drew ?_ | with_reducible refine Within.setCell ?_ (by first | (simp; done) | (simp; omega)) _ | with_reducible refine Within.trans ?_ (by assumption)))⟩
        case measure => have := HC.out.2.2; have := HKM.out; simp [intOf]; omega
      · rw [decide_eq_false hs] at SB
        have NX := Lib.hid (fun w => Next_D c hlc w)
        have HN := Lib.hid (place_next hlc hnc (by omega) (by rw [hpc]; have := HF.out.2.2; omega))
        clear hpc hnc hlc hk hkm hz hs
        go_wp2_with fail
        refine (SB.out _).mono ?_; rintro e6 w6 ⟨rfl, rfl⟩
        go_wp2_with fail
        refine (NX.out _).mono ?_; rintro e7 w7 ⟨rfl, hb7⟩
        go_wp2
        go_roundw
        case rel => exact ⟨nextD c, k + 1, by have := HC.out.2.2; have := HKM.out; omega, rfl, by simp, by have := HN.out.1; have := HC.out.1.1; omega, HN.out.2.1, HN.out.2.2, (by repeat (first | with_reducible exact Within.refl _ | with_reducible assumption | with_reducible refine Within.alloc ?_ _ | with_reducible refine Within.drew ?_ | with_reducible refine Within.setCell ?_ (by first | (simp; done) | (simp; omega)) _ | with_reducible refine Within.trans ?_ (by assumption)))⟩
        case measure => have := HC.out.2.2; have := HKM.out; simp [intOf]; omega
    · rw [decide_eq_false hz] at z
      have NX := Lib.hid (fun w => Next_D c hlc w)
      have HN := Lib.hid (place_next hlc hnc (by omega) (by rw [hpc]; have := HF.out.2.2; omega))
      clear hpc hnc hlc hk hkm hz
      go_wp2_with fail
      refine (NX.out _).mono ?_; rintro e7 w7 ⟨rfl, hb7⟩
      go_wp2
      go_roundw
      case rel => exact ⟨nextD c, k + 1, by have := HC.out.2.2; have := HKM.out; omega, rfl, by simp, by have := HN.out.1; have := HC.out.1.1; omega, HN.out.2.1, HN.out.2.2, (by repeat (first | with_reducible exact Within.refl _ | with_reducible assumption | with_reducible refine Within.alloc ?_ _ | with_reducible refine Within.drew ?_ | with_reducible refine Within.setCell ?_ (by first | (simp; done) | (simp; omega)) _ | with_reducible refine Within.trans ?_ (by assumption)))⟩
      case measure => have := HC.out.2.2; have := HKM.out; simp [intOf]; omega

theorem steps_walk (a : Nat) (n : Int) (ha : a < 18446744073709551616) (hlo : -9223372036854775808 ≤ n) (hhi : n < 9223372036854775808) (w : World) (hT : Tab w) : Calls Tryd.prog 10 #[.int .u64 a, .int .i64 n] w fun e w' => e = .returned (.bool true) ∧ Within w w' := by
  cases hn : nanD a
  · by_cases h1 : n < 0
    · exact steps_low a n hn h1 w hT
    by_cases h2 : 300 < n
    · exact steps_high a n hn h2 w hT
    obtain ⟨m, hm⟩ : ∃ m : Nat, n = m := ⟨n.toNat, by omega⟩
    by_cases h3 : 9218868437227405312 - (m : Int) < place a
    · exact steps_far a n ha hn m hm (by omega) h3 w hT
    · exact steps_main a n ha hn m hm (by omega) (by omega) w hT
  · exact steps_nan a n hn w hT

end Go.Proofs.YthjaponkbodooaaDoor
