/- The card of EftScales: whatever the input, the call returns true and the input reads as it did; the format holds what the program's text lays. -/
import Derived.Test.YtjmaggfddinbkaaGreatDoorRows
import Derived.WalkKit
import Derived.WalkSpells
import Derived.WalkLawsBesides
import Derived.BigQuiet
import Derived.Lib.Hide
import Derived.Deep.OwnRows
import Derived.OwnWalk
import Derived.LoopTactic
import Derived.Outline
import Derived.IntWalk
import Derived.OrdersHeld
import Derived.StillTail
import Derived.Deep.RegionHeld3
import Derived.Maps.AppendAt
import Derived.Deep.QuietTactic
import Derived.Deep.DeepCutAuto
import Derived.Shelf.Bits.Mul64
import Derived.Laws.Externs
import Derived.Deep.RegionWith
import Ieee.Arith
import Derived.Lib.TrailingZeros
import Derived.Lib.BitFns
import Derived.Lib.Strings
import Derived.Lib.Slices
import Derived.Lib.Small
import Derived.Lib.Walk
import Derived.Deep.AppendLies
import Derived.Deep.Draws
import Derived.Laws.OwnMore
import Derived.Test.YtjmaggfddinbkaaGreatDoorCards
import Derived.Test.YtjmaggfddinbkaaGreatDoorTie
import Derived.ProofKit
import Derived.OpenShut
import Derived.ShutString
import Derived.ChangeOld
import Derived.Below
import Derived.Deep.DeepHandedRow
import Derived.Lib.LaidTab
import Derived.ChangeSlices
import Derived.Carry
import Derived.SizedLaws
import Derived.Deep.Strs
import Derived.Lib.SmallJoins
import Derived.Test.YtjmaggfddinbkaaGreatDoorZESc4
set_option linter.unusedVariables false
set_option linter.unusedSimpArgs false
section
namespace Go.Proofs.YtjmaggfddinbkaaGreatDoor
open Go.RowKit
theorem zero_un : Fp.un Ieee.double 0 = 0 := un_zero.2 rfl
set_option maxRecDepth 100000 in
set_option maxHeartbeats 600000 in
theorem esign_any (x : Nat) (h : x % 9223372036854775808 < 9218868437227405312) (w : World) : Calls Tryz.prog 93 #[.float .f64 x] w fun e w' => e = .returned (.int .i64 (Fp.un Ieee.double x).sign) ∧ w = w' := by
  have h1 : (FloatKind.f64.format.order x 0 == some .lt) = decide (Fp.un Ieee.double x < 0) := by rw [c_lt (by omega) (by decide), zero_un]
  have h2 : (FloatKind.f64.format.order x 0 == some .gt) = decide (0 < Fp.un Ieee.double x) := by rw [c_gt (by omega) (by decide), zero_un]
  obtain ⟨z, hz⟩ : ∃ z, z = Fp.un Ieee.double x := ⟨_, rfl⟩
  rw [← hz] at h1 h2 ⊢
  clear hz h
  rcases Int.lt_trichotomy z 0 with g | g | g
  · rw [decide_eq_true g] at h1
    rw [Int.sign_eq_neg_one_of_neg g]
    clear g h2
    go_enter Tryz.func93, Tryz.ntmps93
    go_wp2
    go_ret
    exact ⟨rfl, rfl⟩
  · subst g
    rw [decide_eq_false (by omega)] at h1 h2
    go_enter Tryz.func93, Tryz.ntmps93
    go_wp2
    go_ret
    exact ⟨rfl, rfl⟩
  · rw [decide_eq_false (by omega)] at h1
    rw [decide_eq_true g] at h2
    rw [Int.sign_eq_one_of_pos g]
    clear g
    go_enter Tryz.func93, Tryz.ntmps93
    go_wp2
    go_ret
    exact ⟨rfl, rfl⟩
set_option maxRecDepth 100000 in
set_option maxHeartbeats 600000 in
theorem eSign_bad (A : Option Addr) (c : Nat) (es : List Nat) (hw : Words64 es) (hl : es.length ≤ 1152921504606846976) (v : Int) (hv : chkE es = v) (h0 : (v != 0) = true) (w : World) (hT : Tab w) (hr : SlAt w A (f64v es)) : Calls Tryz.prog 38 #[.slice A es.length c] w fun e w' => e = .returned (.tuple #[.int .i64 0, .int .i64 (v)]) ∧ Within w w' := by
  have HW := Lib.hid hw; have HR := Lib.hid hr; clear hr
  have HT := Lib.hid hT; clear hT
  have CE := Lib.hid (fun w hT hr => echeck_any A c es hw hl w hT hr)
  rw [hv] at CE
  clear hv hw
  go_enter Tryz.func38, Tryz.ntmps38
  go_wp2_with fail
  refine (CE.out _ HT.out HR.out).mono ?_; rintro e1 w1 ⟨rfl, hb1⟩
  go_wp2
  go_ret2
  exact ⟨rfl, hb1⟩
set_option maxRecDepth 100000 in
set_option maxHeartbeats 600000 in
theorem eSign_main (A : Option Addr) (c : Nat) (es : List Nat) (hw : Words64 es) (hl : es.length ≤ 1152921504606846976) (h1 : chkE es = 0) (w : World) (hT : Tab w) (hr : SlAt w A (f64v es)) : Calls Tryz.prog 38 #[.slice A es.length c] w fun e w' => e = .returned (.tuple #[.int .i64 (signR es).1, .int .i64 (0)]) ∧ Within w w' := by
  have hf := isB_fins hw (chkE_zero.1 h1)
  have hsg : (signR es).1 = (Fp.un Ieee.double (es.getD (es.length - 1) 0)).sign := by unfold signR; rw [if_pos h1]
  have L64 := Lib.hid (chk_len h1)
  have HW := Lib.hid hw; have HR := Lib.hid hr; clear hr
  have HT := Lib.hid hT; clear hT
  have CE := Lib.hid (fun w hT hr => echeck_any A c es hw hl w hT hr)
  rw [h1] at CE
  clear h1 hw
  by_cases h0 : es.length = 0
  · have g1 : ((es.length : Int) == 0) = true := by rw [h0]; rfl
    have e : (signR es).1 = 0 := by rw [hsg, List.eq_nil_of_length_eq_zero h0]; decide +kernel
    rw [e]
    clear e hsg hf h0
    go_enter Tryz.func38, Tryz.ntmps38
    go_wp2_with fail
    refine (CE.out _ HT.out HR.out).mono ?_; rintro e1 w1 ⟨rfl, hb1⟩
    go_wp2
    go_ret2
    exact ⟨rfl, hb1⟩
  · have g1 : ((es.length : Int) == 0) = false := by rw [beq_eq_false_iff_ne]; omega
    obtain ⟨ad, hA, hblk, hc⟩ := HR.out.at (k := es.length - 1) (by omega)
    have fx := hf (es.getD (es.length - 1) 0) (by rw [List.getD, List.getElem?_eq_getElem (by omega)]; exact List.getElem_mem _)
    obtain ⟨x, hx⟩ : ∃ x, x = es.getD (es.length - 1) 0 := ⟨_, rfl⟩
    rw [← hx] at hc fx hsg
    rw [hsg]
    have CS := Lib.hid (fun w => esign_any x fx w)
    obtain ⟨v, hv⟩ : ∃ v, v = (Fp.un Ieee.double x).sign := ⟨_, rfl⟩
    rw [← hv] at CS ⊢
    clear hv hsg hx fx hf
    have gl1 : IntKind.i64.wrap ((es.length : Int) - 1) = ((es.length - 1 : Nat) : Int) := by rw [IntWalk.i64_in _ ⟨by omega, by have := L64.out; omega⟩]; omega
    obtain ⟨n1, hn1⟩ : ∃ n1, n1 = es.length - 1 := ⟨_, rfl⟩
    have gn : n1 < es.length := by omega
    rw [← hn1] at gl1 hc
    clear hn1
    subst hA
    go_enter Tryz.func38, Tryz.ntmps38
    go_wp2_with fail
    refine (CE.out _ HT.out HR.out).mono ?_; rintro e1 w1 ⟨rfl, hb1⟩
    have hc1 := (hb1.cell (p := ad.add n1) (by rw [add_block]; exact hblk)).trans hc
    have hblk1 := Nat.lt_of_lt_of_le hblk hb1.size
    go_wp2_with fail
    refine (CS.out _).mono ?_; rintro e2 w2 ⟨rfl, rfl⟩
    go_wp2
    go_ret2
    exact ⟨rfl, hb1⟩
theorem eSign_any (A : Option Addr) (c : Nat) (es : List Nat) (hw : Words64 es) (hl : es.length ≤ 1152921504606846976) (w : World) (hT : Tab w) (hr : SlAt w A (f64v es)) : Calls Tryz.prog 38 #[.slice A es.length c] w fun e w' => e = .returned (.tuple #[.int .i64 (signR es).1, .int .i64 ((signR es).2)]) ∧ Within w w' := by
  by_cases h1 : chkE es = 0
  · have e : (signR es).2 = 0 := by unfold signR; rw [if_pos h1]
    rw [e]
    exact eSign_main A c es hw hl h1 w hT hr
  · unfold signR; rw [if_neg h1]; exact eSign_bad A c es hw hl _ rfl (by simpa using h1) w hT hr
set_option maxRecDepth 100000 in
set_option maxHeartbeats 600000 in
theorem rSign_bad (A : Option Addr) (c : Nat) (es : List Nat) (hw : Words64 es) (hl : es.length ≤ 1152921504606846976) (v : Int) (hv : chkE es = v) (h0 : (v != 0) = true) (w : World) (hr : SlAt w A (f64v es)) : Calls Tryz.prog 39 #[.slice A es.length c] w fun e w' => e = .returned (.tuple #[.int .i64 0, .int .i64 (v)]) ∧ Within w w' := by
  have HW := Lib.hid hw; have HR := Lib.hid hr; clear hr
  have CE := Lib.hid (fun w hr => rgood_any A c es hw hl w hr)
  rw [hv] at CE
  clear hv hw
  go_enter Tryz.func39, Tryz.ntmps39
  go_wp2_with fail
  refine (CE.out _ HR.out).mono ?_; rintro e1 w1 ⟨rfl, hb1⟩
  go_wp2
  go_ret2
  exact ⟨rfl, hb1⟩
set_option maxRecDepth 100000 in
set_option maxHeartbeats 600000 in
theorem rSign_main (A : Option Addr) (c : Nat) (es : List Nat) (hw : Words64 es) (hl : es.length ≤ 1152921504606846976) (h1 : chkE es = 0) (w : World) (hr : SlAt w A (f64v es)) : Calls Tryz.prog 39 #[.slice A es.length c] w fun e w' => e = .returned (.tuple #[.int .i64 (signR es).1, .int .i64 (0)]) ∧ Within w w' := by
  have hs := sum_sign hw (chkE_zero.1 h1)
  have CS := Lib.hid (fun w hr => Xsuml A c es hw (isB_fins hw (chkE_zero.1 h1)) (chk_len h1) w hr)
  have HW := Lib.hid hw; have HR := Lib.hid hr; clear hr
  have CE := Lib.hid (fun w hr => rgood_any A c es hw hl w hr)
  rw [h1] at CE
  rw [← hs]
  clear h1 hw hs
  go_enter Tryz.func39, Tryz.ntmps39
  go_wp2_with fail
  refine (CE.out _ HR.out).mono ?_; rintro e1 w1 ⟨rfl, hb1⟩
  go_wp2_with fail
  refine (CS.out _ (HR.out.of hb1)).mono ?_; rintro e2 w2 ⟨g, n, E, rfl, hI, a1, a2, hv, hb2⟩
  have hsg : (unL es).sum.sign = n.sign := by rw [← hv, val_sign]
  have HSG := Lib.hid hsg; clear hsg hv
  go_wp2_with fail
  refine (Bsign g n _ hI).mono ?_; rintro e3 w3 ⟨rfl, rfl⟩
  go_wp2
  go_ret2
  rw [HSG.out]
  exact ⟨rfl, hb1.trans hb2⟩
theorem rSign_any (A : Option Addr) (c : Nat) (es : List Nat) (hw : Words64 es) (hl : es.length ≤ 1152921504606846976) (w : World) (hr : SlAt w A (f64v es)) : Calls Tryz.prog 39 #[.slice A es.length c] w fun e w' => e = .returned (.tuple #[.int .i64 (signR es).1, .int .i64 ((signR es).2)]) ∧ Within w w' := by
  by_cases h1 : chkE es = 0
  · have e : (signR es).2 = 0 := by unfold signR; rw [if_pos h1]
    rw [e]
    exact rSign_main A c es hw hl h1 w hr
  · unfold signR; rw [if_neg h1]; exact rSign_bad A c es hw hl _ rfl (by simpa using h1) w hr
theorem fin_fv' {x : Nat} (h : x % 9223372036854775808 < 9218868437227405312) : fv x = some x := if_neg (by omega)
theorem finD_is2 {x : Nat} (h : x < 18446744073709551616) : decide (2 < classD x) = finW x := finD_is h
set_option maxRecDepth 100000 in
set_option maxHeartbeats 600000 in
theorem eValue_bad (A : Option Addr) (c : Nat) (es : List Nat) (hw : Words64 es) (hl : es.length ≤ 1152921504606846976) (v : Int) (hv : chkE es = v) (h0 : (v != 0) = true) (w : World) (hT : Tab w) (hr : SlAt w A (f64v es)) : Calls Tryz.prog 40 #[.slice A es.length c] w fun e w' => e = .returned (.tuple #[.float .f64 0, .int .i64 (v)]) ∧ Within w w' := by
  have HW := Lib.hid hw; have HR := Lib.hid hr; clear hr
  have HT := Lib.hid hT; clear hT
  have CE := Lib.hid (fun w hT hr => echeck_any A c es hw hl w hT hr)
  rw [hv] at CE
  clear hv hw
  go_enter Tryz.func40, Tryz.ntmps40
  go_wp2_with fail
  refine (CE.out _ HT.out HR.out).mono ?_; rintro e1 w1 ⟨rfl, hb1⟩
  go_wp2
  go_ret2
  exact ⟨rfl, hb1⟩
set_option maxRecDepth 100000 in
set_option maxHeartbeats 1000000 in
theorem eValue_main (A : Option Addr) (c : Nat) (es : List Nat) (hw : Words64 es) (hl : es.length ≤ 1152921504606846976) (h1 : chkE es = 0) (w : World) (hT : Tab w) (hr : SlAt w A (f64v es)) : Calls Tryz.prog 40 #[.slice A es.length c] w fun e w' => e = .returned (.tuple #[.float .f64 (valueR es).1, .int .i64 ((valueR es).2)]) ∧ Within w w' := by
  have VR : valueR es = if finV (sumV (es.map fv)) then ((sumV (es.map fv)).getD 0, 0) else (0, 5) := by unfold valueR; rw [if_pos h1]
  have HVR := Lib.hid VR; clear VR
  have hadd := fun t x y w => run_ar .add (.inr (.inl rfl)) t x y Tryz.prog w
  have HW := Lib.hid hw; have HR := Lib.hid hr; clear hr
  have HT := Lib.hid hT; clear hT
  have CE := Lib.hid (fun w hT hr => echeck_any A c es hw hl w hT hr)
  rw [h1] at CE
  clear h1 hw
  go_enter Tryz.func40, Tryz.ntmps40
  go_wp2_with fail
  refine (CE.out _ HT.out HR.out).mono ?_; rintro e1 w1 ⟨rfl, hb1⟩
  have HR1 := Lib.hid (HR.out.of hb1)
  go_wp2
  go_loopw [5, 14] (fun qv iv wq => ∃ k q : Nat, k ≤ es.length ∧ iv = .int .i64 (k : Int) ∧ qv = .float .f64 q ∧ q < 18446744073709551616 ∧ fv q = vs es k ∧ Within w1 wq) (fun _ iv _ => es.length - (intOf iv).toNat)
  case atStart => exact ⟨0, 0, Nat.zero_le _, rfl, rfl, by decide, by rw [vs_zero]; rfl, Within.refl _⟩
  case round =>
    obtain ⟨k, q, hk, rfl, rfl, hq, vq, hin⟩ := hrel
    have HQ := Lib.hid hq; have VQ := Lib.hid vq; clear hq vq
    by_cases hlt : k < es.length
    · obtain ⟨ad, rfl, hblk, hc⟩ := (HR1.out.of hin).at hlt
      have hnext := vs_succ es hlt
      obtain ⟨x, hx⟩ : ∃ x, x = es.getD k 0 := ⟨_, rfl⟩
      rw [← hx] at hc hnext
      have HN := Lib.hid hnext; clear hnext hx
      go_wp2
      go_roundw
      case rel => exact ⟨k + 1, _, hlt, by go_num, rfl, arF_lt _ _ _ _, by rw [fv_arF, HN.out, VQ.out], arW_within hin _ _ _⟩
      case measure => first | (simp [intOf]; done) | (simp [intOf]; omega)
    · obtain rfl : k = es.length := by omega
      have vq2 := VQ.out
      rw [vs_all] at vq2
      have VQ2 := Lib.hid vq2; clear vq2 VQ
      have CN := Lib.hid (fun w => efinite_any q w)
      have hfq : finV (sumV (es.map fv)) = finW q := by rw [← VQ2.out, finV_fv]
      cases hf : finW q
      · rw [hf] at CN hfq
        have HVV := Lib.hid (show valueR es = (0, 5) by rw [HVR.out, hfq, if_neg Bool.false_ne_true])
        clear hf hfq HVR
        go_wp2_with fail
        refine (CN.out _).mono ?_; rintro e5 w5 ⟨rfl, hb5⟩
        go_wp2
        go_ret2
        rw [HVV.out]
        exact ⟨rfl, (by repeat (first | with_reducible exact Within.refl _ | with_reducible assumption | with_reducible refine arW_within ?_ _ _ _ | with_reducible refine Within.alloc ?_ _ | with_reducible refine Within.drew ?_ | with_reducible refine Within.trans ?_ (by assumption)))⟩
      · rw [hf] at CN hfq
        have hgd : (sumV (es.map fv)).getD 0 = q := by rw [← VQ2.out, fin_fv' (of_decide_eq_true hf)]; rfl
        have HVV := Lib.hid (show valueR es = (q, 0) by rw [HVR.out, hfq, if_pos rfl, hgd])
        clear hf hfq hgd HVR
        go_wp2_with fail
        refine (CN.out _).mono ?_; rintro e5 w5 ⟨rfl, hb5⟩
        go_wp2
        go_ret2
        rw [HVV.out]
        exact ⟨rfl, (by repeat (first | with_reducible exact Within.refl _ | with_reducible assumption | with_reducible refine arW_within ?_ _ _ _ | with_reducible refine Within.alloc ?_ _ | with_reducible refine Within.drew ?_ | with_reducible refine Within.trans ?_ (by assumption)))⟩
theorem eValue_any (A : Option Addr) (c : Nat) (es : List Nat) (hw : Words64 es) (hl : es.length ≤ 1152921504606846976) (w : World) (hT : Tab w) (hr : SlAt w A (f64v es)) : Calls Tryz.prog 40 #[.slice A es.length c] w fun e w' => e = .returned (.tuple #[.float .f64 (valueR es).1, .int .i64 ((valueR es).2)]) ∧ Within w w' := by
  by_cases h1 : chkE es = 0
  · skip
    exact eValue_main A c es hw hl h1 w hT hr
  · unfold valueR; rw [if_neg h1]; exact eValue_bad A c es hw hl _ rfl (by simpa using h1) w hT hr
set_option maxRecDepth 100000 in
set_option maxHeartbeats 600000 in
theorem rValue_bad (A : Option Addr) (c : Nat) (es : List Nat) (hw : Words64 es) (hl : es.length ≤ 1152921504606846976) (v : Int) (hv : chkE es = v) (h0 : (v != 0) = true) (w : World) (hr : SlAt w A (f64v es)) : Calls Tryz.prog 41 #[.slice A es.length c] w fun e w' => e = .returned (.tuple #[.float .f64 0, .int .i64 (v)]) ∧ Within w w' := by
  have HW := Lib.hid hw; have HR := Lib.hid hr; clear hr
  have CE := Lib.hid (fun w hr => rgood_any A c es hw hl w hr)
  rw [hv] at CE
  clear hv hw
  go_enter Tryz.func41, Tryz.ntmps41
  go_wp2_with fail
  refine (CE.out _ HR.out).mono ?_; rintro e1 w1 ⟨rfl, hb1⟩
  go_wp2
  go_ret2
  exact ⟨rfl, hb1⟩
set_option maxRecDepth 100000 in
set_option maxHeartbeats 1000000 in
theorem rValue_main (A : Option Addr) (c : Nat) (es : List Nat) (hw : Words64 es) (hl : es.length ≤ 1152921504606846976) (h1 : chkE es = 0) (w : World) (hr : SlAt w A (f64v es)) : Calls Tryz.prog 41 #[.slice A es.length c] w fun e w' => e = .returned (.tuple #[.float .f64 (valueR es).1, .int .i64 ((valueR es).2)]) ∧ Within w w' := by
  have VR : valueR es = if finV (sumV (es.map fv)) then ((sumV (es.map fv)).getD 0, 0) else (0, 5) := by unfold valueR; rw [if_pos h1]
  have HVR := Lib.hid VR; clear VR
  have hadd := fun t x y w => run_ar .add (.inr (.inl rfl)) t x y Tryz.prog w
  have HW := Lib.hid hw; have HR := Lib.hid hr; clear hr
  have CE := Lib.hid (fun w hr => rgood_any A c es hw hl w hr)
  rw [h1] at CE
  clear h1 hw
  go_enter Tryz.func41, Tryz.ntmps41
  go_wp2_with fail
  refine (CE.out _ HR.out).mono ?_; rintro e1 w1 ⟨rfl, hb1⟩
  have HR1 := Lib.hid (HR.out.of hb1)
  go_wp2
  go_loopw [5, 6] (fun qv iv wq => ∃ k q : Nat, k ≤ es.length ∧ iv = .int .i64 (k : Int) ∧ qv = .float .f64 q ∧ q < 18446744073709551616 ∧ fv q = vs es k ∧ Within w1 wq) (fun _ iv _ => es.length - (intOf iv).toNat)
  case atStart => exact ⟨0, 0, Nat.zero_le _, rfl, rfl, by decide, by rw [vs_zero]; rfl, Within.refl _⟩
  case round =>
    obtain ⟨k, q, hk, rfl, rfl, hq, vq, hin⟩ := hrel
    have HQ := Lib.hid hq; have VQ := Lib.hid vq; clear hq vq
    by_cases hlt : k < es.length
    · obtain ⟨ad, rfl, hblk, hc⟩ := (HR1.out.of hin).at hlt
      have hnext := vs_succ es hlt
      obtain ⟨x, hx⟩ : ∃ x, x = es.getD k 0 := ⟨_, rfl⟩
      rw [← hx] at hc hnext
      have HN := Lib.hid hnext; clear hnext hx
      go_wp2
      go_roundw
      case rel => exact ⟨k + 1, _, hlt, by go_num, rfl, arF_lt _ _ _ _, by rw [fv_arF, HN.out, VQ.out], arW_within hin _ _ _⟩
      case measure => first | (simp [intOf]; done) | (simp [intOf]; omega)
    · obtain rfl : k = es.length := by omega
      have vq2 := VQ.out
      rw [vs_all] at vq2
      have VQ2 := Lib.hid vq2; clear vq2 VQ
      have CN := Lib.hid (fun w => Rfinite q HQ.out w)
      rw [finD_is2 HQ.out] at CN
      have hfq : finV (sumV (es.map fv)) = finW q := by rw [← VQ2.out, finV_fv]
      cases hf : finW q
      · rw [hf] at CN hfq
        have HVV := Lib.hid (show valueR es = (0, 5) by rw [HVR.out, hfq, if_neg Bool.false_ne_true])
        clear hf hfq HVR
        go_wp2_with fail
        refine (CN.out _).mono ?_; rintro e5 w5 ⟨rfl, rfl⟩
        go_wp2
        go_ret2
        rw [HVV.out]
        exact ⟨rfl, (by repeat (first | with_reducible exact Within.refl _ | with_reducible assumption | with_reducible refine arW_within ?_ _ _ _ | with_reducible refine Within.alloc ?_ _ | with_reducible refine Within.drew ?_ | with_reducible refine Within.trans ?_ (by assumption)))⟩
      · rw [hf] at CN hfq
        have hgd : (sumV (es.map fv)).getD 0 = q := by rw [← VQ2.out, fin_fv' (of_decide_eq_true hf)]; rfl
        have HVV := Lib.hid (show valueR es = (q, 0) by rw [HVR.out, hfq, if_pos rfl, hgd])
        clear hf hfq hgd HVR
        go_wp2_with fail
        refine (CN.out _).mono ?_; rintro e5 w5 ⟨rfl, rfl⟩
        go_wp2
        go_ret2
        rw [HVV.out]
        exact ⟨rfl, (by repeat (first | with_reducible exact Within.refl _ | with_reducible assumption | with_reducible refine arW_within ?_ _ _ _ | with_reducible refine Within.alloc ?_ _ | with_reducible refine Within.drew ?_ | with_reducible refine Within.trans ?_ (by assumption)))⟩
theorem rValue_any (A : Option Addr) (c : Nat) (es : List Nat) (hw : Words64 es) (hl : es.length ≤ 1152921504606846976) (w : World) (hr : SlAt w A (f64v es)) : Calls Tryz.prog 41 #[.slice A es.length c] w fun e w' => e = .returned (.tuple #[.float .f64 (valueR es).1, .int .i64 ((valueR es).2)]) ∧ Within w w' := by
  by_cases h1 : chkE es = 0
  · skip
    exact rValue_main A c es hw hl h1 w hr
  · unfold valueR; rw [if_neg h1]; exact rValue_bad A c es hw hl _ rfl (by simpa using h1) w hr
end Go.Proofs.YtjmaggfddinbkaaGreatDoor
end

section
namespace Go.Proofs.YtjmaggfddinbkaaGreatDoor
theorem fz_list_eq {l1 l2 : List Nat} {zs : List Int} (h1 : FzL (l1.map fv) zs) (h : l2.map fv = l1.map fv) : l1 = l2 ∧ ∀ x ∈ l1, canonD x = x := by
  obtain ⟨f1, _⟩ := fzL_unL h1
  obtain ⟨f2, _⟩ := fzL_unL (es := l2) (zs := zs) (by rw [h]; exact h1)
  refine ⟨?_, canon_fin f1⟩
  rw [← toW_fv f1, ← toW_fv f2, h]
theorem num_parts {b : Nat} (fb : b % 9223372036854775808 < 9218868437227405312) : ∃ a : Int, Fp.un Ieee.double b = a * 2 ^ (pExpD b + 1074).toNat := mu_nat (abs_parts fb)
theorem mem_fin {es : List Nat} (hw : Words64 es) (h : isB es = true) {x : Nat} (hx : x ∈ es) : x % 9223372036854775808 < 9218868437227405312 := isB_fins hw h x hx
theorem not_lost {x b : Nat} (h : lostB x b = false) : upl ≤ (pExpD x + 1074).toNat + (pExpD b + 1074).toNat := by
  have h1 := (P64.pExpD_range x).1
  have h2 := (P64.pExpD_range b).1
  have h3 : ¬ pExpD x + pExpD b < -1074 := of_decide_eq_false h
  rw [upl_is]
  omega
theorem scale_fz {e b : Nat} {tl : List Nat} (hw : Words64 (e :: tl)) (hE : isB (e :: tl) = true) (fb : b % 9223372036854775808 < 9218868437227405312) (nb : b % 9223372036854775808 ≠ 0)
    (hno : ∀ x ∈ e :: tl, lostB x b = false) (ho : (scaleSt (fv e) (tl.map fv) (fv b)).ov = false) :
    ∃ Z, FzL (scaleSt (fv e) (tl.map fv) (fv b)).all Z ∧ Expn Z ∧ Z.sum * 2 ^ upl = (unL (e :: tl)).sum * Fp.un Ieee.double b := by
  obtain ⟨k1, k2, k3⟩ := isB_words hw hE
  obtain ⟨a, ha⟩ := num_parts fb
  have hB : Fz (fv b) (Fp.un Ieee.double b) := fz_of fb
  have hb0 : Fp.un Ieee.double b ≠ 0 := fun h => nb (un_zero.1 h)
  have ha0 : a ≠ 0 := fun h => hb0 (by rw [ha, h, Int.zero_mul])
  have hRa : RepZ a := by have := hB.rep; rw [ha] at this; exact repz_shift.1 this
  have hj : Mu (pExpD b + 1074).toNat (Fp.un Ieee.double b) := ⟨a, ha⟩
  have mus : ∀ x ∈ e :: tl, Mu (pExpD x + 1074).toNat (Fp.un Ieee.double x) ∧ upl ≤ (pExpD x + 1074).toNat + (pExpD b + 1074).toNat := fun x hx => ⟨mu_nat (abs_parts (mem_fin hw hE hx)), not_lost (hno x hx)⟩
  have hov0 : (scale0 e b).ov = false := by
    cases hh : (scale0 e b).ov
    · rfl
    · have := scale_ov (b := fv b) (tl.map fv) (scale0 e b) hh
      rw [show (scaleSt (fv e) (tl.map fv) (fv b)).ov = true from this] at ho
      cases ho
  obtain ⟨g0, g1, g2⟩ := or_not (a := false) (b := finV (proP (fv e) (fv b))) (c := finV (proE (fv e) (fv b))) hov0
  obtain ⟨T, fT⟩ := fz_some g1
  obtain ⟨t, ft⟩ := fz_some g2
  obtain ⟨A, B', hA, hB', hP⟩ := pro_fin fT ft
  obtain rfl := hA.eq k1.1
  obtain rfl := hB'.eq hB
  obtain ⟨m1, m2⟩ := mus e (List.mem_cons_self ..)
  obtain ⟨P, p1, p2, p3⟩ := hP _ _ m1 hj m2
  have hl : FzL (layV [] (proE (fv e) (fv b))) ([] ++ layZ t []) := lay_fz trivial ft
  have hz : ∀ z ∈ unL tl, ∃ i, Mu i z ∧ upl ≤ i + (pExpD b + 1074).toNat := by
    intro z hz
    obtain ⟨x, hx, rfl⟩ := List.mem_map.1 hz
    exact ⟨_, mus x (List.mem_cons_of_mem _ hx)⟩
  obtain ⟨Q', Ls', i1, i2, Ps, i3, i4, i5⟩ := scale_link (b := fv b) hB hj (es := tl.map fv) (zs := unL tl) (s := scale0 e b) (Q := T) (Ls := layZ t []) k1.2 hz fT hl ho
  have hR : RepZ (P - rn P) := by rw [← p3]; exact ft.rep
  rw [ha] at i3 p1
  obtain ⟨s1, s2⟩ := scale_all hRa ha0 (z := Fp.un Ieee.double e) (l := unL tl) k2 ⟨_, m1, m2⟩ p1.symm i3 hR i5
  refine ⟨Ls' ++ layZ Q' [], lay_fz i2 i1, ?_, ?_⟩
  · rw [i4, layZ_app, p3, p2]; exact s1
  · rw [i4, layZ_app, p3, p2, ha]; exact s2
theorem scaleR_zero {es : List Nat} {b : Nat} (h : (scaleR es b).2 = 0) : isB es = true ∧ finW b = true ∧
    (scaleR es b = ([], 0) ∧ (b % 9223372036854775808 = 0 ∨ es = []) ∨
     ∃ e tl, es = e :: tl ∧ b % 9223372036854775808 ≠ 0 ∧ (∀ x ∈ e :: tl, lostB x b = false) ∧ (scaleSt (fv e) (tl.map fv) (fv b)).err = 0 ∧ scaleR es b = ((scaleSt (fv e) (tl.map fv) (fv b)).all, 0)) := by
  unfold scaleR at h ⊢
  by_cases h1 : chkE es = 0
  · rw [if_pos h1] at h ⊢
    cases h2 : finW b
    · rw [h2, if_neg Bool.false_ne_true] at h; cases h
    · rw [h2, if_pos rfl] at h
      rw [if_pos rfl]
      refine ⟨chkE_zero.1 h1, rfl, ?_⟩
      by_cases h3 : b % 9223372036854775808 = 0
      · rw [if_pos h3]; exact .inl ⟨rfl, .inl h3⟩
      · rw [if_neg h3] at h ⊢
        cases es with
        | nil => exact .inl ⟨rfl, .inr rfl⟩
        | cons e tl =>
          right
          dsimp only at h ⊢
          cases h4 : (e :: tl).any (lostB · b)
          · rw [h4, if_neg Bool.false_ne_true] at h
            rw [if_neg Bool.false_ne_true]
            refine ⟨e, tl, rfl, h3, fun x hx => ?_, h, ?_⟩
            · have := List.any_eq_false.1 h4 x hx
              simpa using this
            · have h5 : (scaleSt (fv e) (tl.map fv) (fv b)).err = 0 := h
              unfold Lay.out
              rw [if_pos h5, h5]
          · rw [h4, if_pos rfl] at h; cases h
  · rw [if_neg h1] at h; exact absurd h h1
theorem err_ne_out {s : Lay} (h : s.err ≠ 0) : s.out = [] := by unfold Lay.out; rw [if_neg h]
theorem scaleR_none {es : List Nat} {b : Nat} (h : (scaleR es b).2 ≠ 0) : (scaleR es b).1 = [] := by
  unfold scaleR at h ⊢
  by_cases h1 : chkE es = 0
  · rw [if_pos h1] at h ⊢
    cases h2 : finW b
    · rw [if_neg Bool.false_ne_true]
    · rw [h2, if_pos rfl] at h
      rw [if_pos rfl]
      by_cases h3 : b % 9223372036854775808 = 0
      · rw [if_pos h3]
      · rw [if_neg h3] at h ⊢
        cases es with
        | nil => rfl
        | cons e tl =>
          dsimp only at h ⊢
          cases h4 : (e :: tl).any (lostB · b)
          · rw [h4, if_neg Bool.false_ne_true] at h
            rw [if_neg Bool.false_ne_true]; exact err_ne_out h
          · rw [if_pos rfl]
  · rw [if_neg h1]
theorem isB_nil : isB [] = true := by decide
theorem scale_res {es ls : List Nat} {b : Nat} (hw : Words64 es) (h0 : (scaleR es b).2 = 0) (hws : Words64 ls) (hm : ls.map fv = (scaleR es b).1) :
    ∃ Z, FzL (ls.map fv) Z ∧ isB ls = true ∧ (unL ls).sum * 2 ^ upl = (unL es).sum * Fp.un Ieee.double b := by
  obtain ⟨h1, h2, h3 | ⟨e, tl, rfl, h3, h4, h5, h6⟩⟩ := scaleR_zero h0
  · obtain ⟨h3, h4⟩ := h3
    rw [h3] at hm
    rw [fv_nil hm]
    refine ⟨[], trivial, isB_nil, ?_⟩
    show ([] : List Int).sum * _ = _
    rw [List.sum_nil, Int.zero_mul]
    rcases h4 with h4 | h4
    · rw [un_zero.2 h4, Int.mul_zero]
    · rw [h4]; show _ = ([] : List Int).sum * _; rw [List.sum_nil, Int.zero_mul]
  · obtain ⟨e1, e2⟩ := err_zero h5
    obtain ⟨Z, z1, z2, z3⟩ := scale_fz hw h1 (of_decide_eq_true h2) h3 h4 e1
    rw [h6] at hm
    have hm' : ls.map fv = (scaleSt (fv e) (tl.map fv) (fv b)).all := hm
    rw [← hm'] at z1 e2
    rw [List.length_map] at e2
    obtain ⟨r1, r2⟩ := isB_res hws z1 e2 z2
    exact ⟨Z, z1, r1, by rw [r2]; exact z3⟩
theorem scale_alike {es l1 l2 : List Nat} {b : Nat} (hw : Words64 es) (w1 : Words64 l1) (_w2 : Words64 l2) (h1 : l1.map fv = (scaleR es b).1) (h2 : l2.map fv = (scaleR es b).1) : l1 = l2 ∧ (∀ x ∈ l1, canonD x = x) ∧ l1.length ≤ 1152921504606846976 := by
  by_cases h0 : (scaleR es b).2 = 0
  · obtain ⟨Z, r1, r2, _⟩ := scale_res hw h0 w1 h1
    obtain ⟨r3, r4⟩ := fz_list_eq (l2 := l2) r1 (by rw [h1, h2])
    exact ⟨r3, r4, Nat.le_trans (isB_len r2) (by decide)⟩
  · rw [scaleR_none h0] at h1 h2
    rw [fv_nil h1, fv_nil h2]
    exact ⟨rfl, fun x hx => absurd hx (by simp), by decide⟩
/-! Compress -/
theorem unL_rev (es : List Nat) : unL es.reverse = (unL es).reverse := List.map_reverse ..
theorem unL_dwn {es : List Nat} (h0 : es.length ≠ 0) : (Fp.un Ieee.double (es.getD (es.length - 1) 0) :: unL (dwn es)).reverse = unL es := by
  conv => rhs; rw [last_split h0]
  unfold dwn
  rw [List.reverse_cons, ← unL_rev, List.reverse_reverse]
  unfold unL
  rw [List.map_append]; rfl
theorem compR_zero {es : List Nat} (h : (compR es).2 = 0) : isB es = true ∧ (es = [] ∧ compR es = ([], 0) ∨ es.length ≠ 0 ∧ (compSt es).err = 0 ∧ compR es = ((compSt es).all, 0)) := by
  unfold compR at h ⊢
  by_cases h1 : chkE es = 0
  · rw [if_pos h1] at h ⊢
    refine ⟨chkE_zero.1 h1, ?_⟩
    by_cases h2 : es.length = 0
    · rw [if_pos h2]; exact .inl ⟨List.eq_nil_of_length_eq_zero h2, rfl⟩
    · rw [if_neg h2] at h ⊢
      have h5 : (compSt es).err = 0 := h
      refine .inr ⟨h2, h5, ?_⟩
      unfold Lay.out
      rw [if_pos h5, h5]
  · rw [if_neg h1] at h; exact absurd h h1
theorem compR_none {es : List Nat} (h : (compR es).2 ≠ 0) : (compR es).1 = [] := by
  unfold compR at h ⊢
  by_cases h1 : chkE es = 0
  · rw [if_pos h1] at h ⊢
    by_cases h2 : es.length = 0
    · rw [if_pos h2]
    · rw [if_neg h2] at h ⊢; exact err_ne_out h
  · rw [if_neg h1]
theorem comp_fz {es : List Nat} (hw : Words64 es) (hE : isB es = true) (h0 : es.length ≠ 0) (ho : (compSt es).ov = false) :
    ∃ Z, FzL (compSt es).all Z ∧ Expn Z ∧ Z.sum = (unL es).sum ∧ ∃ (ini : List Int) (last : Int) (k : Nat), Z = ini ++ [last] ∧ last ≠ 0 ∧ RepZ last ∧ ((unL es).sum - last).natAbs < 2 ^ k ∧ Mu k last ∧ (k ≠ 0 → 4503599627370496 * 2 ^ k ≤ last.natAbs) := by
  obtain ⟨k1, k2, k3⟩ := isB_words hw hE
  have hlast : es.getD (es.length - 1) 0 ∈ es := by rw [List.getD, List.getElem?_eq_getElem (by omega)]; exact List.getElem_mem _
  have hq : Fz (fv (es.getD (es.length - 1) 0)) (Fp.un Ieee.double (es.getD (es.length - 1) 0)) := fz_of (mem_fin hw hE hlast)
  have hdm : ∀ x ∈ dwn es, x ∈ es := fun x hx => List.dropLast_subset _ (List.mem_reverse.1 hx)
  have hd : FzL ((dwn es).map fv) (unL (dwn es)) := fzL_words fun x hx => mem_fin hw hE (hdm x hx)
  have hrev := unL_dwn h0
  have hE2 : Expn (Fp.un Ieee.double (es.getD (es.length - 1) 0) :: unL (dwn es)).reverse := by rw [hrev]; exact k2
  have hR2 : ∀ x ∈ Fp.un Ieee.double (es.getD (es.length - 1) 0) :: unL (dwn es), RepZ x := fun x hx => k3 x (by rw [← hrev]; exact List.mem_reverse.2 hx)
  obtain ⟨c1, c2, c3, c4, c5, c6⟩ := comp_all hE2 hR2
  have hl := comp_link hq hd ho
  rw [c3, c4] at hl
  have hsum : (Fp.un Ieee.double (es.getD (es.length - 1) 0) :: unL (dwn es)).sum = (unL es).sum := by rw [← hrev, rev_sum]
  rw [hsum] at c5 c6
  exact ⟨_, hl, c1, c5, c6⟩
theorem comp_res {es ls : List Nat} (hw : Words64 es) (h0 : (compR es).2 = 0) (hws : Words64 ls) (hm : ls.map fv = (compR es).1) :
    FzL (ls.map fv) (unL ls) ∧ isB ls = true ∧ (unL ls).sum = (unL es).sum ∧ (ls.length = 0 ↔ es.length = 0) ∧ (es.length ≠ 0 → ∃ k : Nat, ((unL es).sum - Fp.un Ieee.double (ls.getD (ls.length - 1) 0)).natAbs < 2 ^ k ∧ Mu k (Fp.un Ieee.double (ls.getD (ls.length - 1) 0)) ∧ (k ≠ 0 → 4503599627370496 * 2 ^ k ≤ (Fp.un Ieee.double (ls.getD (ls.length - 1) 0)).natAbs)) := by
  obtain ⟨h1, ⟨rfl, h3⟩ | ⟨h2, h3, h4⟩⟩ := compR_zero h0
  · rw [h3] at hm
    rw [fv_nil hm]
    exact ⟨trivial, isB_nil, rfl, Iff.rfl, fun h => absurd rfl h⟩
  · obtain ⟨e1, e2⟩ := err_zero h3
    obtain ⟨Z, z1, z2, z3, ini, last, k, z4, z5, _, z7, z8, z9⟩ := comp_fz hw h1 h2 e1
    rw [h4] at hm
    have hm' : ls.map fv = (compSt es).all := hm
    rw [← hm'] at z1 e2
    rw [List.length_map] at e2
    obtain ⟨r1, r2⟩ := isB_res hws z1 e2 z2
    rw [← r2] at z1 z3 z4
    have hlen : ls.length ≠ 0 := by
      intro h
      have := congrArg List.length z4
      rw [unL_len, h, List.length_append] at this
      simp at this
    refine ⟨z1, r1, z3, ⟨fun h => absurd h hlen, fun h => absurd h h2⟩, fun _ => ⟨k, ?_⟩⟩
    have hl : Fp.un Ieee.double (ls.getD (ls.length - 1) 0) = last := by
      rw [← unL_at ls (show ls.length - 1 < ls.length by omega), ← unL_len ls, z4, List.getD, List.length_append, List.length_cons, List.length_nil, Nat.add_sub_cancel, List.getElem?_append_right (Nat.le_refl _), Nat.sub_self]
      rfl
    rw [hl]
    exact ⟨z7, z8, z9⟩
theorem comp_alike {es l1 l2 : List Nat} (hw : Words64 es) (w1 : Words64 l1) (_w2 : Words64 l2) (h1 : l1.map fv = (compR es).1) (h2 : l2.map fv = (compR es).1) : l1 = l2 ∧ (∀ x ∈ l1, canonD x = x) ∧ l1.length ≤ 1152921504606846976 := by
  by_cases h0 : (compR es).2 = 0
  · obtain ⟨r1, r2, _⟩ := comp_res hw h0 w1 h1
    obtain ⟨r3, r4⟩ := fz_list_eq (l2 := l2) r1 (by rw [h1, h2])
    exact ⟨r3, r4, Nat.le_trans (isB_len r2) (by decide)⟩
  · rw [compR_none h0] at h1 h2
    rw [fv_nil h1, fv_nil h2]
    exact ⟨rfl, fun x hx => absurd hx (by simp), by decide⟩
theorem value_canon (es : List Nat) : canonD (valueR es).1 = (valueR es).1 := by
  unfold valueR
  by_cases h1 : chkE es = 0
  · rw [if_pos h1]
    cases h2 : finV (sumV (es.map fv))
    · rw [if_neg Bool.false_ne_true]; exact fin_canon (b := 0) (by decide)
    · rw [if_pos rfl]
      obtain ⟨z, x, hx, hf, _⟩ := fz_some h2
      rw [hx]
      exact fin_canon hf
  · rw [if_neg h1]; exact fin_canon (b := 0) (by decide)
end Go.Proofs.YtjmaggfddinbkaaGreatDoor
end

section
namespace Go.Proofs.YtjmaggfddinbkaaGreatDoor
open Go.RowKit
set_option maxRecDepth 100000 in
set_option maxHeartbeats 4000000 in
theorem scales_walk (A : Option Addr) (c : Nat) (x : List Nat) (hwx : Words64 x) (hlx : x.length * 8 ≤ 140737488355328) (z : Nat) (hz : z < 18446744073709551616) (w : World) (hT : Tab w) (hrx : SlAt w A (u64v x)) : Calls Tryz.prog 6 #[.slice A x.length c, .int .u64 (z : Int)] w fun e w' => e = .returned (.bool true) ∧ Within w w' := by
  have RX := Lib.hid hrx; have WX := Lib.hid hwx; have HT := Lib.hid hT; clear hrx hwx hT
  have hlx2 : x.length ≤ 1152921504606846976 := by omega
  have AW := Lib.hid (fun w hT => awake_true w hT)
  have hcv := value_canon x
  obtain ⟨sr, hsr⟩ : ∃ sr, sr = (scaleR x z).2 := ⟨_, rfl⟩
  obtain ⟨cr, hcr⟩ : ∃ cr, cr = (compR x).2 := ⟨_, rfl⟩
  obtain ⟨gv, hgv⟩ : ∃ gv, gv = (signR x).1 := ⟨_, rfl⟩
  obtain ⟨gr, hgr⟩ : ∃ gr, gr = (signR x).2 := ⟨_, rfl⟩
  obtain ⟨vv, hvv⟩ : ∃ vv, vv = (valueR x).1 := ⟨_, rfl⟩
  obtain ⟨vr, hvr⟩ : ∃ vr, vr = (valueR x).2 := ⟨_, rfl⟩
  have SX := Lib.hid (fun A c w hT hr => eScale_any A c x WX.out hlx2 z hz w hT hr)
  have RS := Lib.hid (fun A c w hr => rScale_any A c x WX.out hlx2 z hz w hr)
  have CX := Lib.hid (fun A c w hT hr => eComp_any A c x WX.out hlx2 w hT hr)
  have RC := Lib.hid (fun A c w hr => rComp_any A c x WX.out hlx2 w hr)
  have GX := Lib.hid (fun A c w hT hr => eSign_any A c x WX.out hlx2 w hT hr)
  have RG := Lib.hid (fun A c w hr => rSign_any A c x WX.out hlx2 w hr)
  have VX := Lib.hid (fun A c w hT hr => eValue_any A c x WX.out hlx2 w hT hr)
  have RV := Lib.hid (fun A c w hr => rValue_any A c x WX.out hlx2 w hr)
  rw [← hsr] at SX RS
  rw [← hcr] at CX RC
  rw [← hgv, ← hgr] at GX RG
  rw [← hvv, ← hvr] at VX RV
  rw [← hvv] at hcv
  have SL := Lib.hid (fun w => same_law vv vv w)
  rw [decide_eq_true hcv.symm] at SL
  clear hcv hsr hcr hgv hgr hvv hvr hz
  have g1 : (gv != gv) = false := bne_self_eq_false _
  have g2 : (gr != gr) = false := bne_self_eq_false _
  have g3 : (vr == vr) = true := beq_self_eq_true _
  go_enter Tryz.func6, Tryz.ntmps6
  have L1 := Lib.hid (fun w hr => l_any A c x WX.out (by assumption) w hr)
  go_wp2_with fail
  refine (L1.out _ (RX.out.of (by repeat (first | with_reducible exact Within.refl _ | with_reducible assumption | with_reducible refine arW_within ?_ _ _ _ | with_reducible refine Within.alloc ?_ _ | with_reducible refine Within.drew ?_ | with_reducible refine Within.trans ?_ (by assumption))))).mono ?_; rintro e1 w1 ⟨v1, rfl, hO1, hb1⟩
  obtain ⟨A1, c1, rfl, _, hs1, _⟩ := hO1.form
  have HS1 := Lib.hid hs1; clear hs1 hO1 L1
  have L2 := Lib.hid (fun w hr => l_any A c x WX.out (by assumption) w hr)
  go_wp2_with fail
  refine (L2.out _ (RX.out.of (by repeat (first | with_reducible exact Within.refl _ | with_reducible assumption | with_reducible refine arW_within ?_ _ _ _ | with_reducible refine Within.alloc ?_ _ | with_reducible refine Within.drew ?_ | with_reducible refine Within.trans ?_ (by assumption))))).mono ?_; rintro e2 w2 ⟨v2, rfl, hO2, hb2⟩
  obtain ⟨A2, c2, rfl, _, hs2, _⟩ := hO2.form
  have HS2 := Lib.hid hs2; clear hs2 hO2 L2
  go_wp2_with fail
  refine (ef_any z _).mono ?_; rintro e0 w0 ⟨rfl, rfl⟩
  go_wp2_with fail
  refine (SX.out A2 c2 _ (HT.out.of (by repeat (first | with_reducible exact Within.refl _ | with_reducible assumption | with_reducible refine arW_within ?_ _ _ _ | with_reducible refine Within.alloc ?_ _ | with_reducible refine Within.drew ?_ | with_reducible refine Within.trans ?_ (by assumption)))) HS2.out).mono ?_; rintro e3 w3 ⟨v3, l3, rfl, hO3, hw3, hm3, hb3⟩
  obtain ⟨A3, c3, rfl, _, hs3, _⟩ := hO3.form
  have HS3 := Lib.hid hs3; have HM3 := Lib.hid hm3; have HW3 := Lib.hid hw3; clear hs3 hO3 hm3 hw3
  go_wp2_with fail
  refine (ef_any z _).mono ?_; rintro e0 w0 ⟨rfl, rfl⟩
  go_wp2_with fail
  refine (RS.out A1 c1 _ (HS1.out.of (by repeat (first | with_reducible exact Within.refl _ | with_reducible assumption | with_reducible refine arW_within ?_ _ _ _ | with_reducible refine Within.alloc ?_ _ | with_reducible refine Within.drew ?_ | with_reducible refine Within.trans ?_ (by assumption))))).mono ?_; rintro e4 w4 ⟨v4, l4, rfl, hO4, hw4, hm4, hb4⟩
  obtain ⟨A4, c4, rfl, _, hs4, _⟩ := hO4.form
  have HS4 := Lib.hid hs4; have HM4 := Lib.hid hm4; have HW4 := Lib.hid hw4; clear hs4 hO4 hm4 hw4
  obtain ⟨rfl, hcan, hlen⟩ := scale_alike WX.out HW3.out HW4.out HM3.out HM4.out
  have CAN := Lib.hid hcan; have LEN := Lib.hid hlen; clear hcan hlen
  go_wp2_with fail
  refine (told_law _ _ _ _ l3 _ CAN.out LEN.out _ (HS3.out.of (by repeat (first | with_reducible exact Within.refl _ | with_reducible assumption | with_reducible refine arW_within ?_ _ _ _ | with_reducible refine Within.alloc ?_ _ | with_reducible refine Within.drew ?_ | with_reducible refine Within.trans ?_ (by assumption)))) (HS4.out.of (by repeat (first | with_reducible exact Within.refl _ | with_reducible assumption | with_reducible refine arW_within ?_ _ _ _ | with_reducible refine Within.alloc ?_ _ | with_reducible refine Within.drew ?_ | with_reducible refine Within.trans ?_ (by assumption))))).mono ?_; rintro e5 w5 ⟨rfl, hb5⟩
  clear CAN LEN HM3 HM4
  have L6 := Lib.hid (fun w hr => l_any A c x WX.out (by assumption) w hr)
  go_wp2_with fail
  refine (L6.out _ (RX.out.of (by repeat (first | with_reducible exact Within.refl _ | with_reducible assumption | with_reducible refine arW_within ?_ _ _ _ | with_reducible refine Within.alloc ?_ _ | with_reducible refine Within.drew ?_ | with_reducible refine Within.trans ?_ (by assumption))))).mono ?_; rintro e6 w6 ⟨v6, rfl, hO6, hb6⟩
  obtain ⟨A6, c6, rfl, _, hs6, _⟩ := hO6.form
  have HS6 := Lib.hid hs6; clear hs6 hO6 L6
  go_wp2_with fail
  refine (CX.out A6 c6 _ (HT.out.of (by repeat (first | with_reducible exact Within.refl _ | with_reducible assumption | with_reducible refine arW_within ?_ _ _ _ | with_reducible refine Within.alloc ?_ _ | with_reducible refine Within.drew ?_ | with_reducible refine Within.trans ?_ (by assumption)))) HS6.out).mono ?_; rintro e7 w7 ⟨v7, l7, rfl, hO7, hw7, hm7, hb7⟩
  obtain ⟨A7, c7, rfl, _, hs7, _⟩ := hO7.form
  have HS7 := Lib.hid hs7; have HM7 := Lib.hid hm7; have HW7 := Lib.hid hw7; clear hs7 hO7 hm7 hw7
  go_wp2_with fail
  refine (RC.out A1 c1 _ (HS1.out.of (by repeat (first | with_reducible exact Within.refl _ | with_reducible assumption | with_reducible refine arW_within ?_ _ _ _ | with_reducible refine Within.alloc ?_ _ | with_reducible refine Within.drew ?_ | with_reducible refine Within.trans ?_ (by assumption))))).mono ?_; rintro e8 w8 ⟨v8, l8, rfl, hO8, hw8, hm8, hb8⟩
  obtain ⟨A8, c8, rfl, _, hs8, _⟩ := hO8.form
  have HS8 := Lib.hid hs8; have HM8 := Lib.hid hm8; have HW8 := Lib.hid hw8; clear hs8 hO8 hm8 hw8
  obtain ⟨rfl, hcan, hlen⟩ := comp_alike WX.out HW7.out HW8.out HM7.out HM8.out
  have CAN := Lib.hid hcan; have LEN := Lib.hid hlen; clear hcan hlen
  go_wp2_with fail
  refine (told_law _ _ _ _ l7 _ CAN.out LEN.out _ (HS7.out.of (by repeat (first | with_reducible exact Within.refl _ | with_reducible assumption | with_reducible refine arW_within ?_ _ _ _ | with_reducible refine Within.alloc ?_ _ | with_reducible refine Within.drew ?_ | with_reducible refine Within.trans ?_ (by assumption)))) (HS8.out.of (by repeat (first | with_reducible exact Within.refl _ | with_reducible assumption | with_reducible refine arW_within ?_ _ _ _ | with_reducible refine Within.alloc ?_ _ | with_reducible refine Within.drew ?_ | with_reducible refine Within.trans ?_ (by assumption))))).mono ?_; rintro e9 w9 ⟨rfl, hb9⟩
  clear CAN LEN HM7 HM8
  have L10 := Lib.hid (fun w hr => l_any A c x WX.out (by assumption) w hr)
  go_wp2_with fail
  refine (L10.out _ (RX.out.of (by repeat (first | with_reducible exact Within.refl _ | with_reducible assumption | with_reducible refine arW_within ?_ _ _ _ | with_reducible refine Within.alloc ?_ _ | with_reducible refine Within.drew ?_ | with_reducible refine Within.trans ?_ (by assumption))))).mono ?_; rintro e10 w10 ⟨v10, rfl, hO10, hb10⟩
  obtain ⟨A10, c10, rfl, _, hs10, _⟩ := hO10.form
  have HS10 := Lib.hid hs10; clear hs10 hO10 L10
  go_wp2_with fail
  refine (GX.out A10 c10 _ (HT.out.of (by repeat (first | with_reducible exact Within.refl _ | with_reducible assumption | with_reducible refine arW_within ?_ _ _ _ | with_reducible refine Within.alloc ?_ _ | with_reducible refine Within.drew ?_ | with_reducible refine Within.trans ?_ (by assumption)))) HS10.out).mono ?_; rintro e11 w11 ⟨rfl, hb11⟩
  go_wp2_with fail
  refine (RG.out A1 c1 _ (HS1.out.of (by repeat (first | with_reducible exact Within.refl _ | with_reducible assumption | with_reducible refine arW_within ?_ _ _ _ | with_reducible refine Within.alloc ?_ _ | with_reducible refine Within.drew ?_ | with_reducible refine Within.trans ?_ (by assumption))))).mono ?_; rintro e12 w12 ⟨rfl, hb12⟩
  have L13 := Lib.hid (fun w hr => l_any A c x WX.out (by assumption) w hr)
  go_wp2_with fail
  refine (L13.out _ (RX.out.of (by repeat (first | with_reducible exact Within.refl _ | with_reducible assumption | with_reducible refine arW_within ?_ _ _ _ | with_reducible refine Within.alloc ?_ _ | with_reducible refine Within.drew ?_ | with_reducible refine Within.trans ?_ (by assumption))))).mono ?_; rintro e13 w13 ⟨v13, rfl, hO13, hb13⟩
  obtain ⟨A13, c13, rfl, _, hs13, _⟩ := hO13.form
  have HS13 := Lib.hid hs13; clear hs13 hO13 L13
  go_wp2_with fail
  refine (VX.out A13 c13 _ (HT.out.of (by repeat (first | with_reducible exact Within.refl _ | with_reducible assumption | with_reducible refine arW_within ?_ _ _ _ | with_reducible refine Within.alloc ?_ _ | with_reducible refine Within.drew ?_ | with_reducible refine Within.trans ?_ (by assumption)))) HS13.out).mono ?_; rintro e14 w14 ⟨rfl, hb14⟩
  go_wp2_with fail
  refine (RV.out A1 c1 _ (HS1.out.of (by repeat (first | with_reducible exact Within.refl _ | with_reducible assumption | with_reducible refine arW_within ?_ _ _ _ | with_reducible refine Within.alloc ?_ _ | with_reducible refine Within.drew ?_ | with_reducible refine Within.trans ?_ (by assumption))))).mono ?_; rintro e15 w15 ⟨rfl, hb15⟩
  go_wp2_with fail
  refine (SL.out _).mono ?_; rintro e16 w16 ⟨rfl, rfl⟩
  go_wp2_with fail
  refine (AW.out _ (HT.out.of (by repeat (first | with_reducible exact Within.refl _ | with_reducible assumption | with_reducible refine arW_within ?_ _ _ _ | with_reducible refine Within.alloc ?_ _ | with_reducible refine Within.drew ?_ | with_reducible refine Within.trans ?_ (by assumption))))).mono ?_; rintro e17 w17 ⟨rfl, hb17⟩
  go_wp2
  go_ret
  exact ⟨rfl, (by repeat (first | with_reducible exact Within.refl _ | with_reducible assumption | with_reducible refine arW_within ?_ _ _ _ | with_reducible refine Within.alloc ?_ _ | with_reducible refine Within.drew ?_ | with_reducible refine Within.trans ?_ (by assumption)))⟩
end Go.Proofs.YtjmaggfddinbkaaGreatDoor
end

section
namespace Go.Proofs.YtjmaggfddinbkaaGreatDoor.Base
open Go.ChangeShapes Go.WideShapes Go.ChangeAt Go.RowKit
theorem own : ownKnob Tryz.prog.godebug = none := by kernel_rfl
theorem gTab : Tryz.prog.globalNamed "math/bits.deBruijn64tab" = some 2 := by kernel_rfl
theorem gTabType : (Tryz.prog.globals[2]?).map (·.type) = some 174 := by kernel_rfl
theorem cellsT : Tryz.prog.cellsOf 174 = 64 := by kernel_rfl
theorem cellsB : Tryz.prog.cellsOf 5 = 1 := by kernel_rfl
theorem tab {W : World} (h : laidMetH Tryz.prog [("math/bits.deBruijn64tab", Rows.laid_math_bits_deBruijn64tab)] W) : Tab W := fun j hj => by
  have e := (Lib.tabIs_of_head (zs := Lib.deBruijn64tab.map Int.ofNat) (rest := []) gTab gTabType Tryz.underlying174 Tryz.underlying5 cellsB cellsT h).cell gTab j (by simpa [Lib.deBruijn64tab] using hj)
  rw [e]
  congr 2
  have hl : j < Lib.deBruijn64tab.length := hj
  simp [List.getD, List.getElem?_map, List.getElem?_eq_getElem hl]
theorem nat_of_u64 {n : Int} (h : (Lit.int .u64 n).wf = true) : ∃ a : Nat, n = a ∧ a < 18446744073709551616 := by
  simp only [Lit.wf, Bool.and_eq_true, decide_eq_true_eq] at h
  have h1 : (0 : Int) ≤ n := h.1
  have h2 : n ≤ 18446744073709551615 := h.2
  exact ⟨n.toNat, by omega, by omega⟩
noncomputable def laidWorld (os : Os) : World :=
  { World.holding Tryz.prog os ⟨#[], #[], []⟩ with heap := (World.holding Tryz.prog os ⟨#[], #[], []⟩).heap.modify 2 fun
      | .cells _ t frozen => .cells #[.int .u8 0, .int .u8 1, .int .u8 56, .int .u8 2, .int .u8 57, .int .u8 49, .int .u8 28, .int .u8 3, .int .u8 61, .int .u8 58, .int .u8 42, .int .u8 50, .int .u8 38, .int .u8 29, .int .u8 17, .int .u8 4, .int .u8 62, .int .u8 47, .int .u8 59, .int .u8 36, .int .u8 45, .int .u8 43, .int .u8 51, .int .u8 22, .int .u8 53, .int .u8 39, .int .u8 33, .int .u8 30, .int .u8 24, .int .u8 18, .int .u8 12, .int .u8 5, .int .u8 63, .int .u8 55, .int .u8 48, .int .u8 27, .int .u8 60, .int .u8 41, .int .u8 37, .int .u8 16, .int .u8 46, .int .u8 35, .int .u8 44, .int .u8 21, .int .u8 52, .int .u8 32, .int .u8 23, .int .u8 11, .int .u8 54, .int .u8 26, .int .u8 40, .int .u8 15, .int .u8 34, .int .u8 20, .int .u8 31, .int .u8 10, .int .u8 25, .int .u8 14, .int .u8 19, .int .u8 9, .int .u8 13, .int .u8 8, .int .u8 7, .int .u8 6] t frozen
      | o => o }
end Go.Proofs.YtjmaggfddinbkaaGreatDoor.Base
end

section
namespace Go.Proofs.YtjmaggfddinbkaaGreatDoor.Base
open Go.ChangeShapes Go.WideShapes Go.ChangeAt Go.RowKit
theorem laidOut : laidOutB Tryz.prog = true := by kernel_rfl
section
variable {H : Type} {enc : TypeId × Value → H} {W : World}
theorem open_ns {t e : TypeId} {k : IntKind} {y : Nat} (ht : Tryz.prog.underlying t = some (.slice e)) (he : Tryz.prog.underlying e = some (.int k)) (hc : Tryz.prog.cellsOf e = 1) (hy : Tryz.prog.bytesOf e = y) {fuel : Nat} {v : Value} {x : DataW H × List MemPlace}
    (h : DataW.trod enc Tryz.prog W 0 (fun _ => true) true fuel t [v] = some x) (hz : ∀ n ∈ x.1.weights Tryz.prog t, n ≤ reachBytes) :
    ∃ (a0 : Option Addr) (cap : Nat) (zs : List Int), v = .slice a0 zs.length cap ∧ zs.length ≤ cap ∧ zs.length * y ≤ reachBytes ∧ (∀ n ∈ zs, (Lit.int k n).wf = true) ∧ SlAt W a0 (zs.map (Value.int k)) := by
  rcases open_ints ht he hc h with ⟨hcs, hx⟩ | ⟨a, len, cap, zs, hcs, _, hl, hm, hzl, hx, hcell, hwz⟩
  · simp at hcs
    exact ⟨none, 0, [], hcs, Nat.le_refl _, by simp, (fun n hn => absurd hn (by simp)), SlAt.nil⟩
  · simp at hcs
    simp only [if_true] at hzl
    subst hx
    have hlen : (zs.take len).length = len := by rw [List.length_take]; omega
    refine ⟨some a, cap, zs.take len, by rw [hlen]; exact hcs, by rw [hlen]; exact hl, ?_, fun n hn => hwz n (List.mem_of_mem_take hn), fun hn => ?_⟩
    · have hw := hz (cap * y) (by
        rw [DataW.weights, ht]
        refine List.mem_cons.2 (.inl ?_)
        rw [hy, show (lits (H := H) k (zs.take len)).length + (lits (H := H) k (zs.drop len)).length = cap by
          unfold lits; rw [List.length_map, List.length_map, List.length_take, List.length_drop]; omega])
      rw [hlen]
      exact Nat.le_trans (Nat.mul_le_mul_right _ hl) hw
    · rw [List.length_map, hlen] at hn
      have h0 := hcell 0 (by omega)
      refine ⟨a, rfl, by have := World.block_lt_of_cell? _ _ h0; rwa [add_block] at this, fun j u hu => ?_⟩
      rw [List.getElem?_map, Option.map_eq_some_iff] at hu
      obtain ⟨z, hz1, rfl⟩ := hu
      obtain ⟨hj, hz2⟩ := List.getElem?_eq_some_iff.1 hz1
      rw [hlen] at hj
      rw [hcell j (by omega)]
      rw [List.getElem_take] at hz2
      simp [List.getD, List.getElem?_eq_getElem (show j < zs.length by omega), hz2]
theorem nats_of {k : IntKind} {m : Nat} (hk : ∀ n : Int, (Lit.int k n).wf = true → 0 ≤ n ∧ n < m) {zs : List Int} (h : ∀ n ∈ zs, (Lit.int k n).wf = true) : ∃ l : List Nat, zs = l.map (fun (x : Nat) => (x : Int)) ∧ ∀ x ∈ l, x < m := by
  refine ⟨zs.map Int.toNat, ?_, fun x hx => ?_⟩
  · rw [List.map_map]
    conv => lhs; rw [← List.map_id zs]
    refine List.map_congr_left fun n hn => ?_
    have := (hk n (h n hn)).1
    simp only [id, Function.comp]; omega
  · obtain ⟨n, hn, rfl⟩ := List.mem_map.1 hx
    have := hk n (h n hn)
    omega
theorem wf_u64 (n : Int) (h : (Lit.int .u64 n).wf = true) : 0 ≤ n ∧ n < (18446744073709551616 : Nat) := by
  simp only [Lit.wf, Bool.and_eq_true, decide_eq_true_eq] at h
  have h1 : (0 : Int) ≤ n := h.1
  have h2 : n ≤ 18446744073709551615 := h.2
  omega
set_option maxRecDepth 100000 in
theorem open_u64 {fuel : Nat} {v : Value} {x : DataW H × List MemPlace} (h : DataW.trod enc Tryz.prog W 0 (fun _ => true) true fuel 22 [v] = some x) (hz : ∀ n ∈ x.1.weights Tryz.prog 22, n ≤ reachBytes) :
    ∃ (a0 : Option Addr) (cap : Nat) (l : List Nat), v = .slice a0 l.length cap ∧ l.length ≤ cap ∧ l.length * 8 ≤ 140737488355328 ∧ (∀ x ∈ l, x < 18446744073709551616) ∧ SlAt W a0 (u64v l) := by
  obtain ⟨a0, cap, zs, h1, h2, h3, h4, h5⟩ := open_ns (y := 8) Tryz.underlying22 Tryz.underlying23 (by kernel_rfl) (by kernel_rfl) h hz
  obtain ⟨l, rfl, hl⟩ := nats_of wf_u64 h4
  rw [List.length_map] at h1 h2 h3
  refine ⟨a0, cap, l, h1, h2, ?_, hl, ?_⟩
  · have : reachBytes = 140737488351232 := rfl
    omega
  · unfold u64v; rw [List.map_map] at h5; exact h5
set_option maxRecDepth 100000 in
theorem open_words {r : Reach} {b0 : Nat} {v : Value} {d : DataW H} {p : List MemPlace} (hv : Value.okWide Tryz.prog W r b0 22 v) (h : DataW.Trod enc Tryz.prog W 0 (fun _ => true) true 22 v d p) (hz : ∀ n ∈ d.weights Tryz.prog 22, n ≤ reachBytes) :
    ∃ (a0 : Option Addr) (cap : Nat) (l : List Nat), v = .slice a0 l.length cap ∧ l.length ≤ cap ∧ l.length * 8 ≤ 140737488355328 ∧ Words64 l ∧ SlAt W a0 (u64v l) := by
  obtain ⟨a, len, cap, rfl⟩ := okWide_slice Tryz.underlying22 hv
  obtain ⟨fuel, hf⟩ := h
  exact open_u64 (x := (d, p)) (by simpa [Value.cells] using hf) hz
theorem wt_of {ts : List TypeId} {ds : List (DataW H)} (h : (DataW.weightsEach Tryz.prog ts ds).all (· ≤ reachBytes) = true) {j : Nat} {t : TypeId} {d : DataW H} (ht : ts[j]? = some t) (hd : ds[j]? = some d) : ∀ n ∈ d.weights Tryz.prog t, n ≤ reachBytes :=
  fun n hn => of_decide_eq_true (List.all_eq_true.1 h n (DataW.weights_mem_each ht hd n hn))
end
end Go.Proofs.YtjmaggfddinbkaaGreatDoor.Base
end

section
namespace Go.Proofs.YtjmaggfddinbkaaGreatDoor.eftScales
open Go.ChangeShapes Go.WideShapes Go.ChangeAt Go.RowKit
set_option maxRecDepth 100000 in
theorem contract (H : Type) (enc : TypeId × Value → H) (W : World) (base : Nat) (args : Array Value) (ds gs : List (DataW H)) (before : List MemPlace)
    (hval : ∀ (j : Nat) t v, Tryz.f6.params[j]? = some t → args[j]? = some v → Value.okWide Tryz.prog W .any base t v)
    (hW : DataW.Whole enc Tryz.prog Tryz.f6.params.toList Rows.eftScalesSpec.vars false W args.toList ds gs before)
    (hsz : (DataW.weightsEach Tryz.prog (Tryz.f6.params.toList ++ (OpenSpec.ofChange Rows.eftScalesSpec).bare.plain.varTypes Tryz.prog) (ds ++ gs)).all (· ≤ reachBytes) = true) (hL : laidMetH Tryz.prog Rows.eftScalesRow.laid W) :
    Calls Tryz.prog 6 args W fun e W' => ∃ v, e = .returned v ∧ Rows.eftScalesSpec.post enc Tryz.prog Tryz.f6 false true false false W args v W' := by
  have hW' := hW
  obtain ⟨p, q, hA0, hV, rfl, hfz, hnd⟩ := hW
  have hA : DataW.TrodAll enc Tryz.prog W 0 (fun _ => true) true Tryz.f6.params.toList args.toList ds p := hA0
  rw [Tryz.params6] at hA hval hsz
  obtain ⟨v0, vs0, d0, ds0, p0, q0, hargs, rfl, rfl, h0, r0⟩ := trodAll_cons hA
  obtain ⟨v1, vs1, d1, ds1, p1, q1, rfl, rfl, rfl, h1, r1⟩ := trodAll_cons r0
  obtain ⟨rfl, rfl, rfl⟩ := trodAll_nil r1
  obtain rfl : args = #[v0, v1] := by cases args; simp_all
  obtain ⟨rfl, rfl⟩ := trodVars_none hV
  obtain ⟨A0, c0, l0, rfl, hc0, hn0, hb0, hm0⟩ := Base.open_words (hval 0 22 v0 rfl rfl) h0 (Base.wt_of hsz (j := 0) rfl rfl)
  obtain ⟨n1, rfl, rfl, rfl, w1⟩ := open_int Tryz.underlying23 (hval 1 23 v1 rfl rfl) h1
  obtain ⟨a1, rfl, ha1⟩ := Base.nat_of_u64 w1
  clear hA0
  simp only [List.append_nil] at hW'
  have hlt : ∀ x, x ∈ p0 → x.block < W.heap.size := fun x hx => hW'.lt x (by simpa using hx)
  refine (scales_walk A0 c0 l0 hb0 hn0 a1 ha1 W (Base.tab hL) hm0).mono fun e W' ⟨he, bel⟩ => ?_
  subst he
  exact ⟨_, rfl, _, _, _, [], _, [], hW', trodAll_mk1 (shut_bool Tryz.underlying4 _), (trodAll_cons_mk (Below.trod Base.laidOut (by kernel_rfl) (of_decide_eq_true (by kernel_rfl)) h0 bel (fun x hx => hlt x hx)) (trodAll_cons_mk (shut_int Tryz.underlying23 w1) trodAll_mk0)), rfl, Below.frame bel _, fun h => by cases h⟩
theorem laid_met (os : Os) : laidMet Tryz.prog Rows.eftScalesRow.laid ((Base.laidWorld os).forCall (fun _ _ => 0) ⟨#[], #[Value.slice none 0 0, Value.int .u64 0], []⟩).memory :=
  laidMet_of_run' 8 (by kernel_rfl) (by kernel_rfl)
theorem reads (os : Os) {H : Type} (enc : TypeId × Value → H) : ∃ places, DataW.whole enc Tryz.prog ((Base.laidWorld os).forCall (fun _ _ => 0) ⟨#[], #[Value.slice none 0 0, Value.int .u64 0], []⟩).memory Tryz.f6.params.toList Rows.eftScalesSpec.vars false (#[Value.slice none 0 0, Value.int .u64 0] : Array Value).toList 8 = some ([.nil, .lit (.int .u64 0)], [], places) :=
  ⟨[], by kernel_rfl⟩
set_option maxRecDepth 100000 in
theorem lifted (os : Os) (started : os.Started) (H : Type) (enc : TypeId × Value → H) (F : Stop.Interp) :
    ReturnsInHanded {} Tryz.checked os 6 .any ((OpenSpec.ofChange Rows.eftScalesSpec).preRow enc Tryz.prog Tryz.f6 Rows.eftScalesRow.domain false Rows.eftScalesRow.laid) (((OpenSpec.ofChange Rows.eftScalesSpec).at F).post enc Tryz.prog Tryz.f6 false true false false) := by
  obtain ⟨places, hx⟩ := reads os enc
  refine returnsInHanded_of_row (C := Tryz.checked) (s := OpenSpec.ofChange Rows.eftScalesSpec) Base.own started (by kernel_rfl) Tryz.func6
    (witness_row_at (enc := enc) (C := Tryz.checked) false (Base.laidWorld os) #[Value.slice none 0 0, Value.int .u64 0] rfl (by kernel_rfl) (by kernel_rfl) (by kernel_rfl)
      (OpenSpec.preRow_of_cond 8 hx (by kernel_rfl) (fun k hk => by cases hk) (by kernel_rfl) (laid_met os))) ?_
  intro W base args ds gs before hval hW _ _ hsz hL _ _
  exact contract H enc W base args ds gs before hval hW hsz hL
theorem said : Rows.EftScalesSaid :=
  OpenClaim.holds_of_cond 6 Tryz.f6 rfl rfl rfl rfl rfl rfl rfl ⟨rfl, rfl, rfl, rfl, rfl⟩ rfl rfl rfl rfl rfl (by kernel_rfl) Tryz.func6 (by kernel_rfl)
    (of_decide_eq_true (by kernel_rfl)) (by unfold Func.isWrapper; first | (rw [if_pos (by decide +kernel)]; kernel_rfl) | (rw [if_neg (by decide +kernel)]; exact ⟨rfl, rfl⟩))
    (fun os started H enc _ F => by rw [OpenClaim.pre_eq_preRow]; exact lifted os started H enc F)
theorem plain (f : FuncId) (fn : Func) (hf : Tryz.pinned.checked.prog.funcNamed "binnacle/binnaclelaw04.EftScales" = some f) (hfn : Tryz.pinned.checked.prog.funcs[f]? = some fn) :
    false = Tryz.pinned.checked.prog.looks [] ∧ ∀ (j : Nat) t, fn.params[j]? = some t → Tryz.pinned.checked.prog.wantsStandIn t = false := by
  obtain rfl : f = 6 := Option.some.inj ((show Tryz.prog.funcNamed "binnacle/binnaclelaw04.EftScales" = some 6 by kernel_rfl).symm.trans hf) |>.symm
  obtain rfl : fn = Tryz.f6 := (Option.some.inj (Tryz.func6.symm.trans hfn)).symm
  refine ⟨by kernel_rfl, fun j t ht => ?_⟩
  rw [Tryz.params6] at ht
  have hm := Array.mem_of_getElem? ht
  have hm' : t = 22 ∨ t = 23 := by simpa using hm
  rcases hm' with rfl | rfl
  · exact (show Tryz.prog.wantsStandIn 22 = false by kernel_rfl)
  · exact (show Tryz.prog.wantsStandIn 23 = false by kernel_rfl)
theorem card : Rows.EftScalesCardSaid :=
  Claim7.holds_tied_plain_at .later [] _ _ _ _ said (fun _ h => by cases h) (by kernel_rfl) (fun _ h => by cases h) eftScales_row_tie rfl ⟨rfl, rfl⟩ (by kernel_rfl) rfl plain (by kernel_rfl)
#print axioms card
end Go.Proofs.YtjmaggfddinbkaaGreatDoor.eftScales
end
