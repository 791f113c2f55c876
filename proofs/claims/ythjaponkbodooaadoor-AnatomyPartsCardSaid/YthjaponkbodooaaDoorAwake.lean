/- the law's first example, and its small helpers. -/
import Derived.Test.YthjaponkbodooaaDoorAna7
namespace Go.Proofs.YthjaponkbodooaaDoor
open Go.RowKit

set_option maxRecDepth 100000 in
set_option maxHeartbeats 600000 in
theorem f_any (a : Nat) (w : World) : Calls Tryd.prog 13 #[.int .u64 a] w fun e w' => e = .returned (.float .f64 a) ∧ w = w' := by
  go_enter Tryd.func13, Tryd.ntmps13
  go_wp2
  go_ret
  exact ⟨rfl, rfl⟩


set_option maxRecDepth 100000 in
set_option maxHeartbeats 600000 in
theorem g_any (a : Nat) (w : World) : Calls Tryd.prog 17 #[.int .u32 a] w fun e w' => e = .returned (.float .f32 a) ∧ w = w' := by
  go_enter Tryd.func17, Tryd.ntmps17
  go_wp2
  go_ret
  exact ⟨rfl, rfl⟩


set_option maxRecDepth 100000 in
set_option maxHeartbeats 600000 in
theorem awake_true (w : World) (hT : Tab w) : Calls Tryd.prog 25 #[] w fun e w' => e = .returned (.bool true) ∧ Within w w' := by
  have SP := Lib.hid (fun w => Split_D 4609434218613702656 (by decide) w)
  rw [show negD 4609434218613702656 = false by decide, show expD 4609434218613702656 = 1023 by decide, show fracD 4609434218613702656 = 2251799813685248 by decide] at SP
  have PA := Lib.hid (fun w => Parts_D 4609434218613702656 (by decide) w)
  rw [show pNegD 4609434218613702656 = false by decide +kernel, show pMantD 4609434218613702656 = 3 by decide +kernel, show pExpD 4609434218613702656 = -1 by decide +kernel, show pErrD 4609434218613702656 = 0 by decide +kernel] at PA
  have CL := Lib.hid (fun w => Class_D 4607182418800017408 (by decide) w)
  rw [show classD 4607182418800017408 = 5 by decide +kernel] at CL
  have UL := Lib.hid (fun w => Ulp_D 4607182418800017408 (by decide) w)
  rw [show ulpD 4607182418800017408 = 4372995238176751616 by decide +kernel] at UL
  have he : (FloatKind.f64.format.order 4372995238176751616 4372995238176751616 == some .eq) = true := by decide +kernel
  go_enter Tryd.func25, Tryd.ntmps25
  go_wp2_with fail
  refine (SP.out _).mono ?_; rintro e1 w1 ⟨rfl, hb1⟩
  go_wp2_with fail
  refine (PA.out _ (hT.of (by repeat (first | with_reducible exact Within.refl _ | with_reducible assumption | with_reducible refine Within.alloc ?_ _ | with_reducible refine Within.drew ?_ | with_reducible refine Within.setCell ?_ (by first | (simp; done) | (simp; omega)) _ | with_reducible refine Within.trans ?_ (by assumption))))).mono ?_; rintro e2 w2 ⟨rfl, hb2⟩
  have hf2 := hb2.frozens
  go_wp2_with fail
  refine (CL.out _).mono ?_; rintro e3 w3 ⟨rfl, hb3⟩
  go_wp2_with fail
  refine (UL.out _ (hT.of (by repeat (first | with_reducible exact Within.refl _ | with_reducible assumption | with_reducible refine Within.alloc ?_ _ | with_reducible refine Within.drew ?_ | with_reducible refine Within.setCell ?_ (by first | (simp; done) | (simp; omega)) _ | with_reducible refine Within.trans ?_ (by assumption))))).mono ?_; rintro e4 w4 ⟨rfl, hb4⟩
  go_wp2
  go_ret
  exact ⟨rfl, (by repeat (first | with_reducible exact Within.refl _ | with_reducible assumption | with_reducible refine Within.alloc ?_ _ | with_reducible refine Within.drew ?_ | with_reducible refine Within.setCell ?_ (by first | (simp; done) | (simp; omega)) _ | with_reducible refine Within.trans ?_ (by assumption)))⟩


end Go.Proofs.YthjaponkbodooaaDoor
