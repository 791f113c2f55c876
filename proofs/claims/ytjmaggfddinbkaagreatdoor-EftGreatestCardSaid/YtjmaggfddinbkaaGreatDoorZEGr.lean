/- The card of EftGreatest: whatever the input, the call returns true and the input reads as it did; the format holds what the program's text lays. -/
import Derived.Test.YtjmaggfddinbkaaGreatDoorRows
import Derived.WalkKit
import Derived.WalkSpells
import Derived.WalkLawsBesides
import Derived.BigQuiet
import Derived.Lib.Hide
import Derived.Deep.OwnRows
import Derived.OwnWalk
import Derived.LoopTactic
import Derived.Outline
import Derived.IntWalk
import Derived.OrdersHeld
import Derived.StillTail
import Derived.Deep.RegionHeld3
import Derived.Maps.AppendAt
import Derived.Deep.QuietTactic
import Derived.Deep.DeepCutAuto
import Derived.Shelf.Bits.Mul64
import Derived.Laws.Externs
import Derived.Deep.RegionWith
import Ieee.Arith
import Derived.Lib.TrailingZeros
import Derived.Lib.BitFns
import Derived.Lib.Strings
import Derived.Lib.Slices
import Derived.Lib.Small
import Derived.Lib.Walk
import Derived.Deep.AppendLies
import Derived.Deep.Draws
import Derived.Laws.OwnMore
import Derived.Test.YtjmaggfddinbkaaGreatDoorCards
import Derived.Test.YtjmaggfddinbkaaGreatDoorTie
import Derived.ProofKit
import Derived.OpenShut
import Derived.ShutString
import Derived.ChangeOld
import Derived.Below
import Derived.Deep.DeepHandedRow
import Derived.Lib.LaidTab
import Derived.ChangeSlices
import Derived.Carry
import Derived.SizedLaws
import Derived.Deep.Strs
import Derived.Lib.SmallJoins
import Derived.Test.YtjmaggfddinbkaaGreatDoorZEGr3
set_option linter.unusedVariables false
set_option linter.unusedSimpArgs false
section
namespace Go.Proofs.YtjmaggfddinbkaaGreatDoor
open Go.RowKit
theorem down_no {s : Lay} {e : Option Nat} (h : nzV (quiL s.q e) = false) : downStep s e = ⟨twoS s.q e, s.l, s.see (twoS s.q e) (quiL s.q e)⟩ := by
  unfold downStep; dsimp only; rw [h]; rfl
theorem down_yes {s : Lay} {e : Option Nat} (h : nzV (quiL s.q e) = true) : downStep s e = ⟨quiL s.q e, s.l ++ [twoS s.q e], s.see (twoS s.q e) (quiL s.q e)⟩ := by
  unfold downStep; dsimp only; rw [h]; rfl
theorem map_getD {la : List Nat} {L : List (Option Nat)} (h : la.map fv = L) {k : Nat} (hk : k < la.length) : L.getD k none = fv (la.getD k 0) := by rw [← h, getD_fv la hk]
set_option maxRecDepth 100000 in
set_option maxHeartbeats 600000 in
theorem eComp_bad (A : Option Addr) (c : Nat) (es : List Nat) (hw : Words64 es) (hl : es.length ≤ 1152921504606846976) (v : Int) (hv : chkE es = v) (h0 : (v != 0) = true) (w : World) (hT : Tab w) (hr : SlAt w A (f64v es)) : Calls Tryz.prog 36 #[.slice A es.length c] w (ResF w [] v) := by
  have HW := Lib.hid hw; have HR := Lib.hid hr; clear hr
  have HT := Lib.hid hT; clear hT
  have CE := Lib.hid (fun w hT hr => echeck_any A c es hw hl w hT hr)
  rw [hv] at CE
  clear hv hw
  go_enter Tryz.func36, Tryz.ntmps36
  go_wp2_with fail
  refine (CE.out _ HT.out HR.out).mono ?_; rintro e1 w1 ⟨rfl, hb1⟩
  go_wp2
  go_ret2
  exact ResF.none_ v hb1
set_option maxRecDepth 100000 in
set_option maxHeartbeats 600000 in
theorem eComp_nil (A : Option Addr) (c : Nat) (es : List Nat) (hw : Words64 es) (hl : es.length ≤ 1152921504606846976) (h1 : chkE es = 0) (h0 : es.length = 0) (w : World) (hT : Tab w) (hr : SlAt w A (f64v es)) : Calls Tryz.prog 36 #[.slice A es.length c] w (ResF w [] 0) := by
  have HW := Lib.hid hw; have HR := Lib.hid hr; clear hr
  have HT := Lib.hid hT; clear hT
  have CE := Lib.hid (fun w hT hr => echeck_any A c es hw hl w hT hr)
  rw [h1] at CE
  have g1 : ((es.length : Int) == 0) = true := by rw [h0]; rfl
  clear h1 hw h0
  go_enter Tryz.func36, Tryz.ntmps36
  go_wp2_with fail
  refine (CE.out _ HT.out HR.out).mono ?_; rintro e1 w1 ⟨rfl, hb1⟩
  go_wp2
  go_ret2
  exact ResF.none_ 0 (by repeat (first | with_reducible exact Within.refl _ | with_reducible assumption | with_reducible refine arW_within ?_ _ _ _ | with_reducible refine Within.alloc ?_ _ | with_reducible refine Within.drew ?_ | with_reducible refine Within.trans ?_ (by assumption)))
set_option maxRecDepth 100000 in
set_option maxHeartbeats 2000000 in
theorem eComp_main (A : Option Addr) (c : Nat) (es : List Nat) (hw : Words64 es) (hl : es.length ≤ 1152921504606846976) (h1 : chkE es = 0) (h0 : es.length ≠ 0) (w : World) (hT : Tab w) (hr : SlAt w A (f64v es)) : Calls Tryz.prog 36 #[.slice A es.length c] w (ResF w (compSt es).out (compSt es).err) := by
  have HW := Lib.hid hw; have HR := Lib.hid hr; clear hr
  have HT := Lib.hid hT; clear hT
  have CE := Lib.hid (fun w hT hr => echeck_any A c es hw hl w hT hr)
  have L64 := Lib.hid (chk_len h1)
  have g1 : ((es.length : Int) == 0) = false := by rw [beq_eq_false_iff_ne]; omega
  rw [h1] at CE
  clear h1 hw
  obtain ⟨ql, hql⟩ : ∃ ql, ql = es.getD (es.length - 1) 0 := ⟨_, rfl⟩
  have hql64 : ql < 18446744073709551616 := by rw [hql]; exact HW.out.at (by omega)
  have YES : Hid (compSt es = upSt (downSt (fv ql) ((dwn es).map fv))) := Lib.hid (by unfold compSt; rw [hql])
  have gl1 : IntKind.i64.wrap ((es.length : Int) - 1) = ((es.length - 1 : Nat) : Int) := by rw [IntWalk.i64_in _ ⟨by omega, by omega⟩]; omega
  have gl2 : IntKind.i64.wrap ((es.length : Int) - 2) = (es.length : Int) - 2 := IntWalk.i64_in _ ⟨by have := L64.out; omega, by have := L64.out; omega⟩
  obtain ⟨ad, hA, hblk, hcl⟩ := HR.out.at (k := es.length - 1) (by omega)
  rw [← hql] at hcl
  subst hA
  have HQL := Lib.hid hql64; clear hql64 hql
  go_enter Tryz.func36, Tryz.ntmps36
  go_wp2_with fail
  refine (CE.out _ HT.out HR.out).mono ?_; rintro e1 w1 ⟨rfl, hb1⟩
  have HR1 := Lib.hid (HR.out.of hb1)
  have LAY0 := LayC.made w1 94
  have hcl1 := (hb1.cell (p := ad.add (es.length - 1)) (by rw [add_block]; exact hblk)).trans hcl
  have hblk1 := Nat.lt_of_lt_of_le hblk hb1.size
  clear hcl hblk
  obtain ⟨n1, hn1⟩ : ∃ n1, n1 = es.length - 1 := ⟨_, rfl⟩
  have gn : n1 < es.length := by omega
  rw [← hn1] at gl1 hcl1
  clear hn1
  have hcl2 := (((Within.refl w1).alloc (.cells #[.slice none 0 0, .bool false] 94)).cell (p := ad.add n1) (by rw [add_block]; exact hblk1)).trans hcl1
  go_wp2
  go_loopw [6, 7, 9] (fun av qv iv wq => ∃ (k q : Nat) (j : Int) (Aa : Option Addr) (ca : Nat) (la : List Nat), k + 1 ≤ es.length ∧ j + 2 + k = es.length ∧ iv = .int .i64 j ∧ qv = .float .f64 q ∧ q < 18446744073709551616 ∧ av = .slice Aa la.length ca ∧ fv q = (ds ql (dwn es) k).q ∧ LayC wq w1.heap.size (.slice none 0 0) (ds ql (dwn es) k).ov ∧ OwnF wq (w1.heap.size + 1) (.slice Aa la.length ca) la ∧ Words64 la ∧ la.map fv = (ds ql (dwn es) k).l ∧ Within w1 wq) (fun _ _ iv _ => (intOf iv + 1).toNat)
  case atStart => exact ⟨0, ql, (es.length : Int) - 2, none, 0, [], by omega, by omega, rfl, rfl, HQL.out, rfl, by rw [ds_zero], by rw [ds_zero]; exact LAY0, OwnF.nil_ _ _, (fun x hx => by cases hx), by rw [ds_zero]; rfl, (by repeat (first | with_reducible exact Within.refl _ | with_reducible assumption | with_reducible refine arW_within ?_ _ _ _ | with_reducible refine Within.alloc ?_ _ | with_reducible refine Within.drew ?_ | with_reducible refine Within.trans ?_ (by assumption)))⟩
  case round =>
    obtain ⟨k, q, j, Aa, ca, la, hk, hj, rfl, rfl, hq, rfl, vq, hC, hO, hwa, hma, hin⟩ := hrel
    have HQ := Lib.hid hq; have VQ := Lib.hid vq; have HC := Lib.hid hC; have HO := Lib.hid hO; have HWA := Lib.hid hwa; have HMA := Lib.hid hma; clear hq vq hC hO hwa hma
    have hla : la.length ≤ 100 := by have h1 := congrArg List.length HMA.out; rw [List.length_map] at h1; have h2 := ds_len ql (dwn es) k (by rw [dwn_len]; omega); have := L64.out; omega
    have HLA := Lib.hid hla; clear hla
    by_cases hlt : k + 1 < es.length
    · obtain ⟨i, rfl⟩ : ∃ i : Nat, j = (i : Int) := ⟨j.toNat, by omega⟩
      have hi : i < es.length := by omega
      obtain ⟨ad', hA', hblk', hc⟩ := (HR1.out.of hin).at hi
      obtain rfl : ad = ad' := by injection hA'
      have hx64 := HW.out.at hi
      have hxd : (dwn es).getD k 0 = es.getD i 0 := by rw [dwn_at es hlt, show es.length - 2 - k = i by omega]
      obtain ⟨x, hx⟩ : ∃ x, x = es.getD i 0 := ⟨_, rfl⟩
      rw [← hx] at hc hx64 hxd
      have hnext := ds_succ ql (dwn es) (k := k) (by rw [dwn_len]; omega)
      rw [hxd] at hnext
      have HX := Lib.hid hx64; have HN := Lib.hid hnext; clear hx64 hnext hxd hx hA' hblk'
      have gi : decide ((i : Int) ≥ 0) = true := decide_eq_true (by omega)
      have gj : IntKind.i64.wrap ((i : Int) - 1) = (i : Int) - 1 := IntWalk.i64_in _ ⟨by omega, by omega⟩
      have QX := Lib.hid (fun w => equick_any q x HQ.out HX.out w)
      have HIN := Lib.hid hin; clear hin
      go_wp2_with fail
      refine (QX.out _).mono ?_; rintro f1 w2 ⟨s, h, rfl, hs, hh, vs, vh, jb1⟩
      have HS := Lib.hid hs; have HH := Lib.hid hh; have VS := Lib.hid vs; have VH := Lib.hid vh; clear hs hh vs vh
      have C1 := Lib.hid (HC.out.of jb1)
      go_wp2_with fail
      refine (seeC _ s h _ _ _ C1.out).mono ?_; rintro f2 w3 ⟨rfl, hC3, hG3⟩
      have hO3 := (HO.out.of jb1).kept hG3 (by
        cases hv : Value.ownBlock (.slice Aa la.length ca) with
        | none => exact .inl rfl
        | some b =>
          right; intro e; have := (HO.out.lt b hv).1; injection e with e; omega)
      have hin3 : Within w1 w3 := below_within (HIN.out.trans jb1) ⟨hG3.os, hG3.tape, hG3.output, hG3.size, fun i hi => hG3.block i (Nat.lt_of_lt_of_le hi (Nat.le_trans (HIN.out.trans jb1).size (Nat.le_refl _))) (fun e => by injection e with e; omega)⟩ (Nat.le_refl _)
      have hne : Value.ownBlock (.slice Aa la.length ca) ≠ some w1.heap.size := fun hv => by have := (HO.out.lt _ hv).1; omega
      have hp3 : w1.heap.size + 1 ≤ w3.heap.size := hC3.lt
      have HC3 := Lib.hid hC3; have HO3 := Lib.hid hO3; have HIN3 := Lib.hid hin3; have HNE := Lib.hid hne; have HP3 := Lib.hid hp3; clear hC3 hO3 hin3 hG3 jb1 hne hp3
      have e1 := finV_fv s; have e2 := finV_fv h; rw [VS.out, VQ.out] at e1; rw [VH.out, VQ.out] at e2
      have E12 := Lib.hid (And.intro e1 e2); clear e1 e2
      by_cases h0 : h % 9223372036854775808 = 0
      · have hz : (FloatKind.f64.format.order h 0 == some .eq) = true := by rw [c_zero, decide_eq_true h0]
        have hne : (FloatKind.f64.format.order h 0 != some .eq) = false := by simp [bne, hz]
        have hd := down_no (s := ds ql (dwn es) k) (e := fv x) (by rw [← VQ.out, ← VH.out, nzV_fv, decide_eq_false (fun g => g h0)])
        rw [← HN.out] at hd
        have HD := Lib.hid hd; clear hd h0
        go_wp2
        go_roundw
        case rel =>
          refine ⟨k + 1, s, (i : Int) - 1, Aa, ca, la, hlt, by omega, rfl, rfl, HS.out, rfl, by rw [HD.out, VS.out, VQ.out], ?_, HO3.out, HWA.out, by rw [HD.out]; exact HMA.out, HIN3.out⟩
          rw [HD.out]
          have hM := HC3.out
          rw [← E12.out.1, ← E12.out.2] at hM
          exact hM
        case measure => first | (simp [intOf]; done) | (simp [intOf]; omega)
      · have hz : (FloatKind.f64.format.order h 0 == some .eq) = false := by rw [c_zero, decide_eq_false h0]
        have hne : (FloatKind.f64.format.order h 0 != some .eq) = true := by simp [bne, hz]
        have hd := down_yes (s := ds ql (dwn es) k) (e := fv x) (by rw [← VQ.out, ← VH.out, nzV_fv, decide_eq_true h0])
        rw [← HN.out] at hd
        have HD := Lib.hid hd; clear hd h0
        obtain ⟨v', w', hrun, hO', hB', hgr, _⟩ := run_app_floatG w3 (w1.heap.size + 1) _ la s HO3.out (by have := HLA.out; omega) HP3.out
        obtain ⟨A2, c2, rfl, _, _, _⟩ := hO'.form
        have hC' := HC3.out.grown hgr HNE.out
        have hin' : Within w1 w' := Below.trans HIN3.out (Below.mono hB' (Nat.le_succ _))
        have RUN := Lib.hid hrun; have HO' := Lib.hid hO'; have HC' := Lib.hid hC'; have HIN' := Lib.hid hin'; clear hrun hO' hB' hgr hC' hin'
        obtain ⟨n2, hn2⟩ : ∃ n2, n2 = (la ++ [s]).length := ⟨_, rfl⟩
        rw [← hn2] at RUN HO'
        have HN2 := Lib.hid hn2; clear hn2
        go_wp2_with (at_builtin; refine wpList_append_run rfl (.tmp 49) (.tmp 51) 24 rfl _ _ rfl rfl RUN.out ?_)
        go_roundw
        case rel =>
          refine ⟨k + 1, h, (i : Int) - 1, A2, c2, la ++ [s], hlt, by omega, rfl, rfl, HH.out, by rw [HN2.out], by rw [HD.out, VH.out, VQ.out], ?_, by rw [← HN2.out]; exact HO'.out, (fun y hy => by rcases List.mem_append.1 hy with hy | hy; exact HWA.out y hy; rcases List.mem_singleton.1 hy with rfl; exact HS.out), by rw [HD.out, List.map_append, HMA.out]; show _ ++ [fv s] = _; rw [VS.out, VQ.out], HIN'.out⟩
          rw [HD.out]
          have hM := HC'.out
          rw [← E12.out.1, ← E12.out.2] at hM
          exact hM
        case measure => first | (simp [intOf]; done) | (simp [intOf]; omega)
    · obtain rfl : k = es.length - 1 := by omega
      obtain rfl : j = -1 := by omega
      obtain ⟨D, hD⟩ : ∃ D, D = downSt (fv ql) ((dwn es).map fv) := ⟨_, rfl⟩
      have hda := ds_all ql (dwn es)
      rw [dwn_len, ← hD] at hda
      rw [hda] at VQ HC HMA
      have hLD : D.l.length = la.length := by rw [← HMA.out, List.length_map]
      have HLD := Lib.hid hLD; clear hLD hda
      have YB := YES.out
      rw [← hD] at YB
      have YB2 := Lib.hid YB; clear YB YES hD
      obtain ⟨Aa', ca', he, _, hs2, _⟩ := HO.out.form
      obtain ⟨rfl, rfl⟩ : Aa = Aa' ∧ ca = ca' := by injection he with h1 _ h2; exact ⟨h1, h2⟩
      clear he
      have HSA := Lib.hid hs2; clear hs2
      have hG0 : LayG wr w1.heap.size [] D.ov (Value.ownBlock (.slice Aa la.length ca)) := ⟨_, [], HC.out, OwnF.nil_ _ _, (fun x hx => by cases hx), rfl, fun g e => ⟨by have := (HO.out.lt g e).1; omega, (HO.out.lt g e).2, by simp [Value.ownBlock]⟩⟩
      have HG0 := Lib.hid hG0; clear hG0
      have HIN := Lib.hid hin; clear hin
      rename World => wb
      have hown : ∀ adx, Aa = some adx → Value.ownBlock (.slice Aa la.length ca) = some adx.block := fun adx e => by rw [e]; rfl
      have HOWN := Lib.hid hown; clear hown
      have gl3 : IntKind.i64.wrap ((la.length : Int) - 1) = (la.length : Int) - 1 := IntWalk.i64_in _ ⟨by omega, by have := HLA.out; omega⟩
      go_wp2
      go_loopw [7, 10] (fun qv iv wz => ∃ (k q : Nat) (j : Int), k ≤ la.length ∧ j + 1 + k = la.length ∧ iv = .int .i64 j ∧ qv = .float .f64 q ∧ q < 18446744073709551616 ∧ fv q = (us D k).q ∧ LayG wz w1.heap.size (us D k).l (us D k).ov (Value.ownBlock (.slice Aa la.length ca)) ∧ SlAt wz Aa (f64v la) ∧ Within w1 wz) (fun _ iv _ => (intOf iv + 1).toNat)
      case atStart => exact ⟨0, q, (la.length : Int) - 1, Nat.zero_le _, by omega, rfl, rfl, HQ.out, by rw [us_zero]; exact VQ.out, by rw [us_zero]; exact HG0.out, HSA.out, HIN.out⟩
      case round =>
        obtain ⟨k, q, j, hk, hj, rfl, rfl, hq, vq, hG, hsa, hin⟩ := hrel
        have HQ2 := Lib.hid hq; have VQ2 := Lib.hid vq; have HG2 := Lib.hid hG; have HSA2 := Lib.hid hsa; clear hq vq hG hsa
        by_cases hlt : k < la.length
        · obtain ⟨i, rfl⟩ : ∃ i : Nat, j = (i : Int) := ⟨j.toNat, by omega⟩
          have hi : i < la.length := by omega
          obtain ⟨ax, hA', hblk', hc⟩ := HSA2.out.at hi
          have hx64 := HWA.out.at hi
          have hxd : D.l.getD (D.l.length - 1 - k) none = fv (la.getD i 0) := by rw [HLD.out, show la.length - 1 - k = i by omega]; exact map_getD HMA.out hi
          obtain ⟨x, hx⟩ : ∃ x, x = la.getD i 0 := ⟨_, rfl⟩
          rw [← hx] at hc hx64 hxd
          have hnext := us_succ D (k := k) (by rw [HLD.out]; exact hlt)
          rw [hxd] at hnext
          have hlen := us_len D k (by rw [HLD.out]; exact hk)
          have hl2 : (us D k).l.length ≤ 1000 := by have := HLA.out; omega
          have HX := Lib.hid hx64; have HN := Lib.hid hnext; have HLEN := Lib.hid hl2; clear hx64 hnext hxd hx hlen hl2
          have gi : decide ((i : Int) ≥ 0) = true := decide_eq_true (by omega)
          have gj : IntKind.i64.wrap ((i : Int) - 1) = (i : Int) - 1 := IntWalk.i64_in _ ⟨by omega, by have := HLA.out; omega⟩
          have QX := Lib.hid (fun w => equick_any x q HX.out HQ2.out w)
          have HIN2 := Lib.hid hin; clear hin
          have HOX := Lib.hid (HOWN.out ax hA')
          subst hA'
          go_wp2_with fail
          refine (QX.out _).mono ?_; rintro f1 w2 ⟨s, h, rfl, hs, hh, vs, vh, jb1⟩
          have HS := Lib.hid hs; have HH := Lib.hid hh; have VS := Lib.hid vs; have VH := Lib.hid vh; clear hs hh vs vh
          have G1 := Lib.hid (HG2.out.of jb1)
          have S1 := Lib.hid (HSA2.out.of jb1)
          go_wp2_with fail
          refine (seeG _ s h _ _ _ _ G1.out).mono ?_; rintro f2 w3 ⟨rfl, hG3, jb2, hK3⟩
          have S3 := Lib.hid (S1.out.same jb2.size (fun adx e => hK3 _ (HOWN.out adx e)))
          have G3 := Lib.hid hG3; have HIN3 := Lib.hid (below_within (HIN2.out.trans jb1) jb2 (Nat.le_refl _)); clear hG3 jb1 jb2 hK3
          go_wp2_with fail
          refine (elayG _ h _ _ _ HH.out (Nat.le_trans HLEN.out (by decide)) _ G3.out).mono ?_; rintro f3 w4 ⟨rfl, hG4, jb4, hK4⟩
          have S4 := Lib.hid (S3.out.same jb4.size (fun adx e => hK4 _ (HOWN.out adx e)))
          have G4 := Lib.hid hG4; have HIN4 := Lib.hid (below_within HIN3.out jb4 (Nat.le_refl _)); clear hG4 jb4 hK4
          go_wp2
          go_roundw
          case rel =>
            refine ⟨k + 1, s, (i : Int) - 1, hlt, by omega, rfl, rfl, HS.out, ?_, ?_, S4.out, HIN4.out⟩
            · rw [HN.out, VS.out, VQ2.out]; rfl
            · rw [HN.out]
              have hM := G4.out
              have e1 := finV_fv s; have e2 := finV_fv h
              rw [← e1, ← e2] at hM
              simp only [VS.out, VH.out, VQ2.out] at hM
              exact hM
          case measure => first | (simp [intOf]; done) | (simp [intOf]; omega)
        · obtain rfl : k = la.length := by omega
          obtain rfl : j = -1 := by omega
          have hua := us_all D
          rw [HLD.out] at hua
          rw [hua] at VQ2 HG2
          have hlen := us_len D la.length (by rw [HLD.out]; exact Nat.le_refl _)
          rw [hua] at hlen
          obtain ⟨z, hz2⟩ : ∃ z, z = upSt D := ⟨_, rfl⟩
          have YB := YB2.out
          rw [← hz2] at VQ2 HG2 hlen YB
          have hl2 : z.l.length ≤ 1000 := by have := HLA.out; omega
          have HLEN := Lib.hid hl2; have YB3 := Lib.hid YB; clear hl2 hlen YB hz2 hua
          have HIN2 := Lib.hid hin; clear hin
          go_wp2_with fail
          refine (elayG _ q _ _ _ HQ2.out (Nat.le_trans HLEN.out (by decide)) _ HG2.out).mono ?_; rintro f1 v1 ⟨rfl, hL1, jb1, _⟩
          rw [VQ2.out] at hL1
          have HIN3 := Lib.hid (below_within HIN2.out jb1 (Nat.le_refl _)); have L1 := Lib.hid hL1.p; clear hL1 jb1
          go_wp2_with fail
          refine (eend_any _ _ _ _ L1.out).mono ?_; rintro f2 v2 ⟨⟨sv, ls, rfl, hown, hw', hm2⟩, rfl⟩
          have HO4 := Lib.hid hown; have HM := Lib.hid hm2; have HWW := Lib.hid hw'; clear hown hm2 hw'
          go_wp2
          go_ret2
          rw [YB3.out]
          exact ⟨_, ls, rfl, HO4.out.less (Nat.le_trans hb1.size (Nat.le_succ _)), HWW.out, HM.out, hb1.trans HIN3.out⟩
theorem eComp_any (A : Option Addr) (c : Nat) (es : List Nat) (hw : Words64 es) (hl : es.length ≤ 1152921504606846976) (w : World) (hT : Tab w) (hr : SlAt w A (f64v es)) : Calls Tryz.prog 36 #[.slice A es.length c] w (ResF w (compR es).1 (compR es).2) := by
  unfold compR
  by_cases h1 : chkE es = 0
  · rw [if_pos h1]
    by_cases h0 : es.length = 0
    · rw [if_pos h0]; exact eComp_nil A c es hw hl h1 h0 w hT hr
    · rw [if_neg h0]; exact eComp_main A c es hw hl h1 h0 w hT hr
  · rw [if_neg h1]; exact eComp_bad A c es hw hl _ rfl (by simpa using h1) w hT hr
end Go.Proofs.YtjmaggfddinbkaaGreatDoor
end

section
namespace Go.Proofs.YtjmaggfddinbkaaGreatDoor
open Go.RowKit
theorem ex_put {w : World} {b h : Nat} {n E : Int} {x y : Value} (hb : w.heap[b]? = some (.cells #[x, y] 53 (0, 0))) (hI : IntB w h n) (hne : h ≠ b) :
    ((w.setCell ⟨b, 0, none⟩ (.pointer (some ⟨h, 0, none⟩))).setCell ⟨b, 1, none⟩ (.int .i64 E)).heap[b]? = some (.cells #[.pointer (some ⟨h, 0, none⟩), .int .i64 E] 53 (0, 0)) ∧ IntB ((w.setCell ⟨b, 0, none⟩ (.pointer (some ⟨h, 0, none⟩))).setCell ⟨b, 1, none⟩ (.int .i64 E)) h n :=
  ⟨by simp [World.setCell, Array.getElem?_modify, hb], (ex_set hb hI hne).2.2⟩
theorem ex_cells' {w : World} {b : Nat} {x y : Value} (hb : w.heap[b]? = some (.cells #[x, y] 53 (0, 0))) : w.cell? ⟨b, 0, none⟩ = some x ∧ w.cell? ⟨b, 1, none⟩ = some y ∧ ∀ o, w.frozen? ⟨b, o, none⟩ = false :=
  ⟨by unfold World.cell?; rw [hb]; rfl, by unfold World.cell?; rw [hb]; rfl, fun o => by simp [World.frozen?, hb]⟩
set_option maxRecDepth 100000 in
set_option maxHeartbeats 600000 in
theorem Xzero (w : World) : Calls Tryz.prog 102 #[] w (ExR w 0 0) := by
  have hI := IntB.made (w.alloc (.cells #[.pointer (some ⟨(w.heap.size + 1), 0, none⟩), .int .i64 0] 53))
  have hs : (w.alloc (.cells #[.pointer (some ⟨(w.heap.size + 1), 0, none⟩), .int .i64 0] 53)).heap.size = w.heap.size + 1 := by simp
  rw [hs] at hI
  have HI := Lib.hid hI; clear hI hs
  go_enter Tryz.func102, Tryz.ntmps102
  go_wp2
  refine bodyPost_ret (v := .agg #[.pointer (some ⟨(w.heap.size + 1), 0, none⟩), .int .i64 0]) (by simp [results, Tryz.results102, go_sem]) rfl ⟨_, rfl, HI.out, by omega, (by repeat (first | with_reducible exact Within.refl _ | with_reducible assumption | with_reducible refine Within.alloc ?_ _ | with_reducible refine Within.drew ?_ | with_reducible refine Within.drewN ?_ _ | with_reducible refine Within.setCell ?_ (by first | (simp; done) | (simp; omega)) _ | with_reducible refine Within.trans ?_ (by assumption)))⟩
theorem sum_bound {B : Nat} : ∀ l : List Int, (∀ z ∈ l, z.natAbs ≤ B) → l.sum.natAbs ≤ l.length * B
  | [], _ => by simp
  | z :: l, h => by
    have h1 := h z (List.mem_cons_self ..)
    have h2 := sum_bound l fun y hy => h y (List.mem_cons_of_mem _ hy)
    rw [List.sum_cons, List.length_cons, Nat.add_mul, Nat.one_mul]
    omega
def e38 : Nat := 2238
theorem un_lim {x : Nat} (hx : x < 18446744073709551616) (h : x % 9223372036854775808 < 9218868437227405312) : (Fp.un Ieee.double x).natAbs ≤ 2 ^ e38 := by
  rw [← whole_un hx h]
  refine Nat.le_of_lt (Nat.lt_of_lt_of_le (P64.wholeI_lt x) (Nat.pow_le_pow_right (by decide) ?_))
  have := (P64.pExpD_range x).2
  unfold e38
  omega
theorem pow_64 (e : Nat) : (64 : Nat) * 2 ^ e < 2 ^ (e + 8) := by
  rw [Nat.pow_add]
  have hp := Nat.two_pow_pos e
  generalize 2 ^ e = P at *
  have : (2 : Nat) ^ 8 = 256 := by decide
  rw [this]
  omega
theorem unL_mem {es : List Nat} {z : Int} (h : z ∈ unL es) : ∃ x ∈ es, z = Fp.un Ieee.double x := by
  unfold unL at h
  obtain ⟨x, h1, h2⟩ := List.mem_map.1 h
  exact ⟨x, h1, h2.symm⟩
theorem sum_len {es : List Nat} (hw : Words64 es) (hf : ∀ x ∈ es, x % 9223372036854775808 < 9218868437227405312) (hl : es.length ≤ 64) (k : Nat) : (dg (((unL es).take k).sum).natAbs).length ≤ 80 := by
  refine dg_len_of (e := e38 + 8) (Nat.lt_of_le_of_lt (sum_bound (B := 2 ^ e38) _ fun z hz => ?_) (Nat.lt_of_le_of_lt (Nat.mul_le_mul_right _ ?_) (pow_64 e38))) (by decide)
  · obtain ⟨x, h1, rfl⟩ := unL_mem (List.mem_of_mem_take hz)
    exact un_lim (hw x h1) (hf x h1)
  · rw [List.length_take, unL_len]; exact Nat.le_trans (Nat.min_le_right _ _) hl
theorem sum_take {es : List Nat} {k : Nat} (h : k < es.length) : ((unL es).take (k + 1)).sum = ((unL es).take k).sum + Fp.un Ieee.double (es.getD k 0) := by
  have hl : k < (unL es).length := by rw [unL_len]; exact h
  rw [List.take_add_one, List.sum_append, List.getElem?_eq_getElem hl]
  have e := unL_at es h
  rw [List.getD, List.getElem?_eq_getElem hl] at e
  show _ + [(unL es)[k]].sum = _
  rw [List.sum_cons, List.sum_nil, Int.add_zero]
  congr 1
set_option maxRecDepth 100000 in
set_option maxHeartbeats 600000 in
theorem Xsuml (A : Option Addr) (c : Nat) (es : List Nat) (hw : Words64 es) (hf : ∀ x ∈ es, x % 9223372036854775808 < 9218868437227405312) (hl : es.length ≤ 64) (w : World) (hr : SlAt w A (f64v es)) : Calls Tryz.prog 47 #[.slice A es.length c] w (ExW 1074 1100 (unL es).sum w) := by
  have HW := Lib.hid hw; have HF := Lib.hid hf; have HR := Lib.hid hr; clear hw hf hr
  go_enter Tryz.func47, Tryz.ntmps47
  go_wp2_with fail
  refine (Xzero _).mono ?_; rintro e1 w1 ⟨h1, rfl, hI1, hg1, hb1⟩
  have hs : (w.alloc (.cells #[.pointer none, .int .i64 0] 53)).heap.size = w.heap.size + 1 := by simp
  rw [hs] at hg1
  have hwz : w1.heap[w.heap.size]? = some (.cells #[.pointer none, .int .i64 0] 53 (0, 0)) := (hb1.block _ (by simp)).trans (heap_alloc_new w _)
  have hlz : w.heap.size < w1.heap.size := by have h := hb1.size; rw [hs] at h; omega
  have hin1 : Within w w1 := ((Within.refl w).alloc _).trans hb1
  have HR1 := Lib.hid (HR.out.of hin1)
  have hz3 : (w1.alloc (.cells #[.pointer (some ⟨h1, 0, none⟩), .int .i64 0] 53)).heap[w1.heap.size]? = some (.cells #[.pointer (some ⟨h1, 0, none⟩), .int .i64 0] 53 (0, 0)) := heap_alloc_new w1 _
  have hI1' := Lib.hid (hI1.of ((Within.refl w1).alloc (.cells #[.pointer (some ⟨h1, 0, none⟩), .int .i64 0] 53)))
  have HZ3 := Lib.hid hz3; have HWZ := Lib.hid hwz; clear hz3 hwz hI1 hs
  go_wp2
  go_loopw [9] (fun iv wq => ∃ (k g : Nat) (n E : Int), k ≤ es.length ∧ iv = .int .i64 (k : Int) ∧ wq.heap[w1.heap.size]? = some (.cells #[.pointer (some ⟨g, 0, none⟩), .int .i64 E] 53 (0, 0)) ∧ IntB wq g n ∧ -(1074 : Int) ≤ E ∧ E ≤ 1100 ∧ valE n E 1074 = ((unL es).take k).sum ∧ Within w1 wq) (fun iv _ => es.length - (intOf iv).toNat)
  case atStart => exact ⟨0, h1, 0, 0, Nat.zero_le _, rfl, HZ3.out, hI1'.out, by decide, by decide, by rw [val_zero]; rfl, (by repeat (first | with_reducible exact Within.refl _ | with_reducible assumption | with_reducible refine Within.alloc ?_ _ | with_reducible refine Within.drew ?_ | with_reducible refine Within.drewN ?_ _ | with_reducible refine Within.setCell ?_ (by first | (simp; done) | (simp; omega)) _ | with_reducible refine Within.trans ?_ (by assumption)))⟩
  case round =>
    obtain ⟨k, g, n, E, hk, rfl, hz3, hI, eb1, eb2, hv, hin⟩ := hrel
    have EB := Lib.hid (And.intro eb1 eb2); have HV := Lib.hid hv; clear eb1 eb2 hv
    have ln : (dg n.natAbs).length ≤ 80 := Nat.le_trans (val_len n E 1074) (by rw [HV.out]; exact sum_len HW.out HF.out hl k)
    have LN := Lib.hid ln; clear ln
    obtain ⟨c0, c1, cf⟩ := ex_cells' hz3
    have hlb : w1.heap.size < wr.heap.size := World.block_lt_of_cell? _ _ c0
    by_cases hlt : k < es.length
    · obtain ⟨ad, rfl, hblk, hc⟩ := (HR1.out.of hin).at hlt
      have hx64 := HW.out.at hlt
      have fx : es.getD k 0 % 9223372036854775808 < 9218868437227405312 := HF.out _ (by rw [List.getD, List.getElem?_eq_getElem hlt]; exact List.getElem_mem hlt)
      have hst := sum_take hlt
      obtain ⟨x, hx⟩ : ∃ x, x = es.getD k 0 := ⟨_, rfl⟩
      rw [← hx] at hc hx64 fx hst
      rw [← whole_un hx64 fx] at hst
      have ST := Lib.hid hst; have CO := Lib.hid (fun w => XofW x hx64 w); clear hst hx hx64 fx cf
      go_wp2
      refine wp_region_schG (fun W => W.cell? ⟨w1.heap.size, 0, none⟩ = some (.pointer (some ⟨g, 0, none⟩)) ∧ W.cell? ⟨w1.heap.size, 1, none⟩ = some (.int .i64 E) ∧ W.heap[w1.heap.size]? = some (.cells #[.pointer (some ⟨g, 0, none⟩), .int .i64 E] 53 (0, 0)) ∧ IntB W g n ∧ w1.heap.size < W.heap.size ∧ Within w1 W) 4 (.firm 0 (.firm 1 (.one 2 (.one 3 (.one 4 .nil))))) (by kernel_rfl) (by kernel_rfl) ⟨c0, c1, hz3, hI, hlb, hin⟩ ?_
      rintro w0 ⟨c0, c1, hz, hI, lb, hw0⟩
      try simp only [Act.put, List.setIfInBounds_toArray, List.set_cons_zero, List.set_cons_succ]
      apply sch_firm rfl rfl (by repeat (first | with_reducible exact Within.refl _ | with_reducible assumption | with_reducible refine Within.alloc ?_ _ | with_reducible refine Within.drew ?_ | with_reducible refine Within.drewN ?_ _ | with_reducible refine Within.setCell ?_ (by first | (simp; done) | (simp; omega)) _ | with_reducible refine Within.trans ?_ (by assumption)))
      · intro wq hq
        have hcq := hq.cells
        clear hq
        go_simp
        first | rfl | (trace_state; fail)
      try simp only [Act.put, List.setIfInBounds_toArray, List.set_cons_zero, List.set_cons_succ]
      apply sch_firm rfl rfl (by repeat (first | with_reducible exact Within.refl _ | with_reducible assumption | with_reducible refine Within.alloc ?_ _ | with_reducible refine Within.drew ?_ | with_reducible refine Within.drewN ?_ _ | with_reducible refine Within.setCell ?_ (by first | (simp; done) | (simp; omega)) _ | with_reducible refine Within.trans ?_ (by assumption)))
      · intro wq hq
        have hcq := hq.cells
        clear hq
        go_simp
        first | rfl | (trace_state; fail)
      try simp only [Act.put, List.setIfInBounds_toArray, List.set_cons_zero, List.set_cons_succ]
      refine sch_one rfl rfl (fun K hK => ?_)
      go_simp
      refine (CO.out _).mono ?_; rintro f2 w2 ⟨g2, n2, E2, rfl, hI2, a1, a2, hv2, jb2⟩
      have l2 : (dg n2.natAbs).length ≤ 900 := Nat.le_trans (val_len n2 E2 1074) (by rw [hv2]; exact Nat.le_trans (whole_len x) (by decide))
      refine hK _ _ (fun _ => (by repeat (first | with_reducible exact Within.refl _ | with_reducible assumption | with_reducible refine Within.alloc ?_ _ | with_reducible refine Within.drew ?_ | with_reducible refine Within.drewN ?_ _ | with_reducible refine Within.setCell ?_ (by first | (simp; done) | (simp; omega)) _ | with_reducible refine Within.trans ?_ (by assumption)))) ?_
      clear hK K
      try simp only [Act.put, List.setIfInBounds_toArray, List.set_cons_zero, List.set_cons_succ]
      refine sch_one rfl rfl (fun K hK => ?_)
      go_simp
      refine (Xadd n n2 E E2 g g2 1074 1100 (by decide) (by decide) EB.out.1 EB.out.2 a1 a2 (Nat.le_trans LN.out (by decide)) l2 _ (IntB.of hI (by repeat (first | with_reducible exact Within.refl _ | with_reducible assumption | with_reducible refine Within.alloc ?_ _ | with_reducible refine Within.drew ?_ | with_reducible refine Within.drewN ?_ _ | with_reducible refine Within.setCell ?_ (by first | (simp; done) | (simp; omega)) _ | with_reducible refine Within.trans ?_ (by assumption)))) (IntB.of hI2 (by repeat (first | with_reducible exact Within.refl _ | with_reducible assumption | with_reducible refine Within.alloc ?_ _ | with_reducible refine Within.drew ?_ | with_reducible refine Within.drewN ?_ _ | with_reducible refine Within.setCell ?_ (by first | (simp; done) | (simp; omega)) _ | with_reducible refine Within.trans ?_ (by assumption))))).mono ?_; rintro f3 w3 ⟨h, m, F, rfl, hI3, c1, c2, hv3, jb3⟩
      have hv5 : Within w0 w3 := (((Within.refl w0).drew).trans jb2).trans jb3
      have hz5 := (hv5.block _ lb).trans hz
      obtain ⟨y0, y1, yf⟩ := ex_cells' hz5
      have yl : w1.heap.size < w3.heap.size := World.block_lt_of_cell? _ _ y0
      refine hK _ _ (fun _ => (by repeat (first | with_reducible exact Within.refl _ | with_reducible assumption | with_reducible refine Within.alloc ?_ _ | with_reducible refine Within.drew ?_ | with_reducible refine Within.drewN ?_ _ | with_reducible refine Within.setCell ?_ (by first | (simp; done) | (simp; omega)) _ | with_reducible refine Within.trans ?_ (by assumption)))) ?_
      clear hK K
      try simp only [Act.put, List.setIfInBounds_toArray, List.set_cons_zero, List.set_cons_succ]
      refine sch_one rfl rfl (fun K hK => ?_)
      go_simp
      refine hK _ _ (fun h => absurd h (by decide)) ?_
      clear hK K
      try simp only [Act.put, List.setIfInBounds_toArray, List.set_cons_zero, List.set_cons_succ]
      refine sch_nil ?_
      have hne := ne_ex hI3 hz5
      obtain ⟨p1, p2⟩ := ex_put (E := F) hz5 hI3 hne
      have hin5 : Within w1 ((w3.setCell ⟨w1.heap.size, 0, none⟩ (.pointer (some ⟨h, 0, none⟩))).setCell ⟨w1.heap.size, 1, none⟩ (.int .i64 F)) := ((hw0.trans hv5).setCell (by show _ ≤ w1.heap.size; omega) _).setCell (by show _ ≤ w1.heap.size; omega) _
      have hval : valE m F 1074 = ((unL es).take (k + 1)).sum := by rw [hv3, hv2, HV.out, ST.out]
      obtain ⟨V, hV⟩ : ∃ V, V = (w3.setCell ⟨w1.heap.size, 0, none⟩ (.pointer (some ⟨h, 0, none⟩))).setCell ⟨w1.heap.size, 1, none⟩ (.int .i64 F) := ⟨_, rfl⟩
      rw [← hV] at p1 p2 hin5 ⊢
      have P1 := Lib.hid p1; have P2 := Lib.hid p2; have HV2 := Lib.hid hval; clear p1 p2 hval hV hv3 hv2
      go_wp2
      go_roundw
      case rel => exact ⟨k + 1, h, m, F, hlt, by go_num, P1.out, P2.out, c1, c2, HV2.out, hin5⟩
      case measure => first | (simp [intOf]; done) | (simp [intOf]; omega)
    · obtain rfl : k = es.length := by omega
      have htk : ((unL es).take es.length).sum = (unL es).sum := by rw [List.take_of_length_le (by rw [unL_len]; exact Nat.le_refl _)]
      have hv := HV.out
      rw [htk] at hv
      have HV2 := Lib.hid hv; clear hv htk HV
      have hzz := (hin.block _ hlz).trans HWZ.out
      obtain ⟨y0, y1, yf⟩ := ex_cells hzz
      have yl : w.heap.size < wr.heap.size := World.block_lt_of_cell? _ _ y0
      have hne := ne_ex hI hzz
      obtain ⟨r0, r1, rI⟩ := ex_set (E := E) hzz hI hne
      have RI := Lib.hid rI; clear rI hzz hz3
      go_wp2
      refine bodyPost_ret (v := .agg #[.pointer (some ⟨g, 0, none⟩), .int .i64 E]) (by simp [results, Tryz.results47, go_sem, r0, r1, yl]) rfl ⟨g, n, E, rfl, RI.out, EB.out.1, EB.out.2, HV2.out, ?_⟩
      exact ((hin1.trans hin).setCell (by show _ ≤ w.heap.size; omega) _).setCell (by show _ ≤ w.heap.size; omega) _
end Go.Proofs.YtjmaggfddinbkaaGreatDoor
end

section
namespace Go.Proofs.YtjmaggfddinbkaaGreatDoor
open Go.RowKit
theorem zero_un : Fp.un Ieee.double 0 = 0 := un_zero.2 rfl
set_option maxRecDepth 100000 in
set_option maxHeartbeats 600000 in
theorem esign_any (x : Nat) (h : x % 9223372036854775808 < 9218868437227405312) (w : World) : Calls Tryz.prog 93 #[.float .f64 x] w fun e w' => e = .returned (.int .i64 (Fp.un Ieee.double x).sign) ∧ w = w' := by
  have h1 : (FloatKind.f64.format.order x 0 == some .lt) = decide (Fp.un Ieee.double x < 0) := by rw [c_lt (by omega) (by decide), zero_un]
  have h2 : (FloatKind.f64.format.order x 0 == some .gt) = decide (0 < Fp.un Ieee.double x) := by rw [c_gt (by omega) (by decide), zero_un]
  obtain ⟨z, hz⟩ : ∃ z, z = Fp.un Ieee.double x := ⟨_, rfl⟩
  rw [← hz] at h1 h2 ⊢
  clear hz h
  rcases Int.lt_trichotomy z 0 with g | g | g
  · rw [decide_eq_true g] at h1
    rw [Int.sign_eq_neg_one_of_neg g]
    clear g h2
    go_enter Tryz.func93, Tryz.ntmps93
    go_wp2
    go_ret
    exact ⟨rfl, rfl⟩
  · subst g
    rw [decide_eq_false (by omega)] at h1 h2
    go_enter Tryz.func93, Tryz.ntmps93
    go_wp2
    go_ret
    exact ⟨rfl, rfl⟩
  · rw [decide_eq_false (by omega)] at h1
    rw [decide_eq_true g] at h2
    rw [Int.sign_eq_one_of_pos g]
    clear g
    go_enter Tryz.func93, Tryz.ntmps93
    go_wp2
    go_ret
    exact ⟨rfl, rfl⟩
set_option maxRecDepth 100000 in
set_option maxHeartbeats 600000 in
theorem eSign_bad (A : Option Addr) (c : Nat) (es : List Nat) (hw : Words64 es) (hl : es.length ≤ 1152921504606846976) (v : Int) (hv : chkE es = v) (h0 : (v != 0) = true) (w : World) (hT : Tab w) (hr : SlAt w A (f64v es)) : Calls Tryz.prog 38 #[.slice A es.length c] w fun e w' => e = .returned (.tuple #[.int .i64 0, .int .i64 (v)]) ∧ Within w w' := by
  have HW := Lib.hid hw; have HR := Lib.hid hr; clear hr
  have HT := Lib.hid hT; clear hT
  have CE := Lib.hid (fun w hT hr => echeck_any A c es hw hl w hT hr)
  rw [hv] at CE
  clear hv hw
  go_enter Tryz.func38, Tryz.ntmps38
  go_wp2_with fail
  refine (CE.out _ HT.out HR.out).mono ?_; rintro e1 w1 ⟨rfl, hb1⟩
  go_wp2
  go_ret2
  exact ⟨rfl, hb1⟩
set_option maxRecDepth 100000 in
set_option maxHeartbeats 600000 in
theorem eSign_main (A : Option Addr) (c : Nat) (es : List Nat) (hw : Words64 es) (hl : es.length ≤ 1152921504606846976) (h1 : chkE es = 0) (w : World) (hT : Tab w) (hr : SlAt w A (f64v es)) : Calls Tryz.prog 38 #[.slice A es.length c] w fun e w' => e = .returned (.tuple #[.int .i64 (signR es).1, .int .i64 (0)]) ∧ Within w w' := by
  have hf := isB_fins hw (chkE_zero.1 h1)
  have hsg : (signR es).1 = (Fp.un Ieee.double (es.getD (es.length - 1) 0)).sign := by unfold signR; rw [if_pos h1]
  have L64 := Lib.hid (chk_len h1)
  have HW := Lib.hid hw; have HR := Lib.hid hr; clear hr
  have HT := Lib.hid hT; clear hT
  have CE := Lib.hid (fun w hT hr => echeck_any A c es hw hl w hT hr)
  rw [h1] at CE
  clear h1 hw
  by_cases h0 : es.length = 0
  · have g1 : ((es.length : Int) == 0) = true := by rw [h0]; rfl
    have e : (signR es).1 = 0 := by rw [hsg, List.eq_nil_of_length_eq_zero h0]; decide +kernel
    rw [e]
    clear e hsg hf h0
    go_enter Tryz.func38, Tryz.ntmps38
    go_wp2_with fail
    refine (CE.out _ HT.out HR.out).mono ?_; rintro e1 w1 ⟨rfl, hb1⟩
    go_wp2
    go_ret2
    exact ⟨rfl, hb1⟩
  · have g1 : ((es.length : Int) == 0) = false := by rw [beq_eq_false_iff_ne]; omega
    obtain ⟨ad, hA, hblk, hc⟩ := HR.out.at (k := es.length - 1) (by omega)
    have fx := hf (es.getD (es.length - 1) 0) (by rw [List.getD, List.getElem?_eq_getElem (by omega)]; exact List.getElem_mem _)
    obtain ⟨x, hx⟩ : ∃ x, x = es.getD (es.length - 1) 0 := ⟨_, rfl⟩
    rw [← hx] at hc fx hsg
    rw [hsg]
    have CS := Lib.hid (fun w => esign_any x fx w)
    obtain ⟨v, hv⟩ : ∃ v, v = (Fp.un Ieee.double x).sign := ⟨_, rfl⟩
    rw [← hv] at CS ⊢
    clear hv hsg hx fx hf
    have gl1 : IntKind.i64.wrap ((es.length : Int) - 1) = ((es.length - 1 : Nat) : Int) := by rw [IntWalk.i64_in _ ⟨by omega, by have := L64.out; omega⟩]; omega
    obtain ⟨n1, hn1⟩ : ∃ n1, n1 = es.length - 1 := ⟨_, rfl⟩
    have gn : n1 < es.length := by omega
    rw [← hn1] at gl1 hc
    clear hn1
    subst hA
    go_enter Tryz.func38, Tryz.ntmps38
    go_wp2_with fail
    refine (CE.out _ HT.out HR.out).mono ?_; rintro e1 w1 ⟨rfl, hb1⟩
    have hc1 := (hb1.cell (p := ad.add n1) (by rw [add_block]; exact hblk)).trans hc
    have hblk1 := Nat.lt_of_lt_of_le hblk hb1.size
    go_wp2_with fail
    refine (CS.out _).mono ?_; rintro e2 w2 ⟨rfl, rfl⟩
    go_wp2
    go_ret2
    exact ⟨rfl, hb1⟩
theorem eSign_any (A : Option Addr) (c : Nat) (es : List Nat) (hw : Words64 es) (hl : es.length ≤ 1152921504606846976) (w : World) (hT : Tab w) (hr : SlAt w A (f64v es)) : Calls Tryz.prog 38 #[.slice A es.length c] w fun e w' => e = .returned (.tuple #[.int .i64 (signR es).1, .int .i64 ((signR es).2)]) ∧ Within w w' := by
  by_cases h1 : chkE es = 0
  · have e : (signR es).2 = 0 := by unfold signR; rw [if_pos h1]
    rw [e]
    exact eSign_main A c es hw hl h1 w hT hr
  · unfold signR; rw [if_neg h1]; exact eSign_bad A c es hw hl _ rfl (by simpa using h1) w hT hr
end Go.Proofs.YtjmaggfddinbkaaGreatDoor
end

section
namespace Go.Proofs.YtjmaggfddinbkaaGreatDoor
open Go.RowKit
@[go_sem] theorem mx_bits64 (a : Nat) (w : World) : (callFunc 63 #[.float .f64 a]).run Tryz.prog w = .ok (.value (.int .u64 a)) w := by kernel_rfl
@[go_sem] theorem mx_from64 (a : Int) (w : World) : (callFunc 68 #[.int .u64 a]).run Tryz.prog w = .ok (.value (.float .f64 a.toNat)) w := by kernel_rfl
theorem key_pos {r : Nat} (h : r < 9223372036854775808) : Fp.key64 r = r := by unfold Fp.key64; rw [if_neg (by omega), Nat.mod_eq_of_lt h]
theorem notnan {r : Nat} (h : r % 9223372036854775808 ≤ 9218868437227405312) : Fp.isNaN64 r = false := decide_eq_false (by omega)
theorem lt_small {r : Nat} (h : r < 9218868437227405312) : (FloatKind.f64.format.order r 4503599627370496 == some .lt) = decide (r < 4503599627370496) := by
  show (Ieee.double.order r 4503599627370496 == some .lt) = _
  rw [Fp.lt64 _ _ (notnan (by omega)) (notnan (by decide)), key_pos (by omega), key_pos (by decide)]
  exact decide_eq_decide.2 (by omega)
theorem eq_zero {r : Nat} (h : r % 9223372036854775808 ≤ 9218868437227405312) : (FloatKind.f64.format.order r 0 == some .eq) = decide (r % 9223372036854775808 = 0) := by
  show (Ieee.double.order r 0 == some .eq) = _
  rw [Fp.eq64 _ _ (notnan h) (notnan (by decide))]
  unfold Fp.key64
  refine decide_eq_decide.2 ?_
  split <;> omega
theorem gt_max {r : Nat} (h : r < 9223372036854775808) : (FloatKind.f64.format.order r 9218868437227405311 == some .gt) = decide (r = 9218868437227405312) := by
  show (Ieee.double.order r 9218868437227405311 == some .gt) = _
  by_cases hn : r ≤ 9218868437227405312
  · rw [Fp.gt64 _ _ (notnan (by omega)) (notnan (by decide)), key_pos h, key_pos (by decide)]
    exact decide_eq_decide.2 (by omega)
  · rw [Fp.order64_nan _ _ (.inl (decide_eq_true (by omega))), decide_eq_false (by omega)]; rfl
theorem ne_self {a : Nat} : (FloatKind.f64.format.order a a != some .eq) = decide (9218868437227405312 < a % 9223372036854775808) := by
  show (!(Ieee.double.order a a == some .eq)) = _
  rw [Fp.order64_self]; unfold Fp.isNaN64; simp
set_option maxRecDepth 100000 in
set_option maxHeartbeats 600000 in
theorem m_abs (a : Nat) (ha : a < 18446744073709551616) (w : World) : Calls Tryz.prog 31 #[.float .f64 a] w fun e w' => e = .returned (.float .f64 (a % 9223372036854775808)) ∧ w = w' := by
  have h := u64_unsign a ha
  generalize a % 9223372036854775808 = m at *
  clear ha
  go_enter Tryz.func31, Tryz.ntmps31
  go_wp2
  go_ret
  exact ⟨rfl, rfl⟩
set_option maxRecDepth 100000 in
set_option maxHeartbeats 600000 in
theorem m_isinf (a : Nat) (ha : a < 18446744073709551616) (w : World) : Calls Tryz.prog 86 #[.float .f64 a, .int .i64 0] w fun e w' => e = .returned (.bool (decide (a % 9223372036854775808 = 9218868437227405312))) ∧ w = w' := by
  have HA := Lib.hid (fun w => m_abs a ha w)
  have h := gt_max (r := a % 9223372036854775808) (by omega)
  rw [← h]
  generalize a % 9223372036854775808 = m at *
  clear ha h
  go_enter Tryz.func86, Tryz.ntmps86
  go_wp2_with fail
  refine (HA.out _).mono ?_; rintro e1 w1 ⟨rfl, rfl⟩
  go_wp2
  go_ret
  exact ⟨rfl, rfl⟩
set_option maxRecDepth 100000 in
set_option maxHeartbeats 600000 in
theorem m_isnan (a : Nat) (w : World) : Calls Tryz.prog 139 #[.float .f64 a] w fun e w' => e = .returned (.bool (decide (9218868437227405312 < a % 9223372036854775808))) ∧ w = w' := by
  have h := ne_self (a := a)
  rw [← h]
  clear h
  go_enter Tryz.func139, Tryz.ntmps139
  go_wp2
  go_ret
  exact ⟨rfl, rfl⟩
set_option maxRecDepth 100000 in
set_option maxHeartbeats 600000 in
theorem m_norm_high (r : Nat) (h : 4503599627370496 ≤ r) (h2 : r < 9218868437227405312) (w : World) : Calls Tryz.prog 158 #[.float .f64 r] w fun e w' => e = .returned (.tuple #[.float .f64 r, .int .i64 0]) ∧ w = w' := by
  have HA := Lib.hid (fun w => m_abs r (by omega) w)
  rw [Nat.mod_eq_of_lt (show r < 9223372036854775808 by omega)] at HA
  have hl := lt_small h2
  rw [decide_eq_false (by omega)] at hl
  clear h h2
  go_enter Tryz.func158, Tryz.ntmps158
  go_wp2_with fail
  refine (HA.out _).mono ?_; rintro e1 w1 ⟨rfl, rfl⟩
  go_wp2
  go_ret2
  exact ⟨rfl, rfl⟩
theorem field_of_i (z : Nat) (h : z < 9218868437227405312) : bits .and .i64 ((z / 4503599627370496 : Nat) : Int) 2047 = ((z / 4503599627370496 : Nat) : Int) := by
  obtain ⟨q, hq⟩ : ∃ q, z / 4503599627370496 = q := ⟨_, rfl⟩
  have hl : q < 2048 := by omega
  rw [hq]
  have : ∀ n : Fin 2048, bits .and .i64 ((n.val : Nat) : Int) 2047 = ((n.val : Nat) : Int) := by decide +kernel
  exact this ⟨q, hl⟩
theorem frac_of (z : Nat) (h : z < 9218868437227405312) : bits .andNot .u64 (z : Int) 9218868437227405312 = ((z % 4503599627370496 : Nat) : Int) := by
  rw [show (9218868437227405312 : Int) = ((9218868437227405312 : Nat) : Int) from rfl, u64_andNot_nat z 9218868437227405312 (by omega) (by decide)]
  congr 1
  apply Nat.eq_of_testBit_eq
  intro i
  rw [show 18446744073709551615 - 9218868437227405312 = 2 ^ 63 + (2 ^ 52 - 1) by decide, show (4503599627370496 : Nat) = 2 ^ 52 by decide, Nat.testBit_and, Nat.testBit_mod_two_pow]
  by_cases h1 : i < 63
  · have k : ∀ j, j < 63 → Nat.testBit (2 ^ 63 + (2 ^ 52 - 1)) j = decide (j < 52) := by decide +kernel
    rw [k i h1, Bool.and_comm]
  · have : z.testBit i = false := Nat.testBit_lt_two_pow (Nat.lt_of_lt_of_le h (Nat.le_trans (show 9218868437227405312 ≤ 2 ^ 63 by decide) (Nat.pow_le_pow_right (by decide) (by omega))))
    rw [this]; simp
theorem join_of (q x : Nat) (hq : q < 2048) (hx : x < 4503599627370496) : bits .or .u64 (x : Int) ((q * 4503599627370496 : Nat) : Int) = ((q * 4503599627370496 + x : Nat) : Int) := by
  rw [u64_or_nat x (q * 4503599627370496) (by omega) (by omega), Nat.or_comm, nat_join 52 (q * 4503599627370496) x (by omega) hx]
end Go.Proofs.YtjmaggfddinbkaaGreatDoor
end

section
namespace Go.Proofs.YtjmaggfddinbkaaGreatDoor
open Go.RowKit
set_option maxRecDepth 100000 in
set_option maxHeartbeats 600000 in
theorem m_ldexp_norm (z n : Nat) (k : Int) (h : 4503599627370496 ≤ z) (hz : z < 9218868437227405312) (hn : (n : Int) = k + (z / 4503599627370496 : Nat)) (h1 : 1 ≤ n) (h2 : n ≤ 2046) (hm : Ieee.double.mul 4607182418800017408 (n * 4503599627370496 + z % 4503599627370496) = some (n * 4503599627370496 + z % 4503599627370496)) (w : World) : Calls Tryz.prog 126 #[.float .f64 z, .int .i64 k] w fun e w' => e = .returned (.float .f64 (n * 4503599627370496 + z % 4503599627370496)) ∧ w = w' := by
  have HI := Lib.hid (fun w => m_isinf z (by omega) w)
  have HN := Lib.hid (fun w => m_isnan z w)
  rw [decide_eq_false (by omega)] at HI HN
  have hz0 := eq_zero (r := z) (by omega)
  rw [decide_eq_false (by omega)] at hz0
  have NO := Lib.hid (fun w => m_norm_high z h hz w)
  have f1 := field_of_i z hz
  have f2 := frac_of z hz
  have f3 := join_of n (z % 4503599627370496) (by omega) (Nat.mod_lt _ (by decide))
  have s1 : ((z : Int) / 4503599627370496) = ((z / 4503599627370496 : Nat) : Int) := by omega
  have tq : z / 4503599627370496 < 2047 := by omega
  have lq : 0 < z / 4503599627370496 := by omega
  generalize z / 4503599627370496 = q at *
  have kl : -3000 ≤ k := by omega
  have ku : k ≤ 3000 := by omega
  obtain ⟨y, hy⟩ : ∃ y, n * 4503599627370496 + z % 4503599627370496 = y := ⟨_, rfl⟩
  have hnl : n < 2047 := by omega
  have gs : IntKind.u64.wrap ((n : Int) * 4503599627370496) = ((n * 4503599627370496 : Nat) : Int) := by rw [IntKind.wrap_u64]; omega
  have gn : IntKind.u64.wrap (n : Int) = (n : Int) := by rw [IntKind.wrap_u64]; omega
  have d1 : decide (k + ((q : Int) - 1023) < -1075) = false := decide_eq_false (by omega)
  have d2 : decide (k + ((q : Int) - 1023) > 1023) = false := decide_eq_false (by omega)
  have d3 : decide (k + ((q : Int) - 1023) < -1022) = false := decide_eq_false (by omega)
  have g5 : k + ((q : Int) - 1023) + 1023 = (n : Int) := by omega
  rw [hy]
  rw [hy] at f3 hm
  generalize z % 4503599627370496 = x at *
  generalize n * 4503599627370496 = nb at *
  have hf := fun t P w => run_float_arith (P := P) w .mul t .f64 _ _ _ hm
  clear hm hy hn h1 h2 h hz
  go_enter Tryz.func126, Tryz.ntmps126
  go_wp2_with fail
  refine (HI.out _).mono ?_; rintro e1 w1 ⟨rfl, rfl⟩
  go_wp2_with fail
  refine (HN.out _).mono ?_; rintro e2 w2 ⟨rfl, rfl⟩
  go_wp2_with fail
  refine (NO.out _).mono ?_; rintro e3 w3 ⟨rfl, rfl⟩
  go_wp2
  go_ret
  exact ⟨rfl, rfl⟩
theorem m_ldexp {z k : _} {r : Nat} (H : ∀ w, Calls Tryz.prog 126 #[.float .f64 z, .int .i64 k] w fun e w' => e = .returned (.float .f64 r) ∧ w = w') (w : World) : Calls Tryz.prog 83 #[.float .f64 z, .int .i64 k] w fun e w' => e = .returned (.float .f64 r) ∧ w = w' := by
  have HH := Lib.hid H
  clear H
  go_enter Tryz.func83, Tryz.ntmps83
  go_wp2_with fail
  refine (HH.out _).mono ?_; rintro e1 w1 ⟨rfl, rfl⟩
  go_wp2
  go_ret
  exact ⟨rfl, rfl⟩
/-! in amounts -/
theorem is_pos {r n : Nat} (h : r < 9218868437227405312) (hm : Fp.mag Ieee.double r = n) : Fp.Is Ieee.double r false n := by
  have hr : Fp.rg Ieee.double r = r := by rw [Fp.rg64, Nat.mod_eq_of_lt (by omega)]
  refine ⟨Nat.lt_trans h (by decide), by rw [hr, Fp.dI]; exact h, ?_, by rw [hr, hm]⟩
  rw [Fp.sg64, Nat.div_eq_of_lt (by omega)]; rfl
theorem num_pos {n : Nat} : Fp.num Ieee.double false n = Fp.grid Ieee.double n 0 := rfl
theorem pos_rung {r n : Nat} (hm : Fp.mag Ieee.double r = n) : Fp.num Ieee.double false n = r := by
  rw [num_pos, ← hm, Fp.grid_of_mag Ieee.double Fp.dF]
theorem one_is : Fp.mag Ieee.double 4607182418800017408 = 2 ^ Fp.deep Ieee.double := by decide +kernel
theorem mul_pos {a b p r : Nat} (ha : a < 9218868437227405312) (hb : b < 9218868437227405312) (hr : r < 9218868437227405312) (hp : Fp.mag Ieee.double r = p) (h : Fp.mag Ieee.double a * Fp.mag Ieee.double b = p * 2 ^ Fp.deep Ieee.double) : Ieee.double.mul a b = some r := by
  have h1 := Fp.mul_is Ieee.double Fp.dL0 (is_pos ha rfl) (is_pos hb rfl) h (hp ▸ Fp.rep_mag Ieee.double Fp.dF (by rw [Fp.dI]; exact hr))
  rw [h1]
  exact congrArg some (pos_rung hp)
theorem one_mul {r : Nat} (h : r < 9218868437227405312) : Ieee.double.mul 4607182418800017408 r = some r :=
  mul_pos (by decide) h h rfl (by rw [one_is, Nat.mul_comm])
end Go.Proofs.YtjmaggfddinbkaaGreatDoor
end

section
namespace Go.Proofs.YtjmaggfddinbkaaGreatDoor
open Go.RowKit
theorem pow_rung {n : Nat} (h1 : 1 ≤ n) (h2 : n ≤ 2046) : n * 4503599627370496 < 9218868437227405312 ∧ Fp.mag Ieee.double (n * 4503599627370496) = 2 ^ (n + 51) := by
  refine ⟨by omega, ?_⟩
  unfold Fp.mag
  rw [Fp.dB, if_neg (by omega), Nat.mul_mod_left, Nat.add_zero, Nat.mul_div_cancel _ (by decide), ← pow52, ← Nat.pow_add, show 52 + (n - 1) = n + 51 by omega]
theorem ldexp_one (k : Nat) (h : k ≤ 1023) (w : World) : Calls Tryz.prog 83 #[.float .f64 4607182418800017408, .int .i64 (k : Int)] w fun e w' => e = .returned (.float .f64 ((k + 1023) * 4503599627370496)) ∧ w = w' := by
  have h0 := pow_rung (n := k + 1023) (by omega) (by omega)
  have := m_ldexp (fun w => m_ldexp_norm 4607182418800017408 (k + 1023) (k : Int) (by decide) (by decide) (by omega) (by omega) (by omega) (by rw [show 4607182418800017408 % 4503599627370496 = 0 by decide, Nat.add_zero]; exact one_mul h0.1) w) w
  rwa [show 4607182418800017408 % 4503599627370496 = 0 by decide, Nat.add_zero] at this
end Go.Proofs.YtjmaggfddinbkaaGreatDoor
end

section
namespace Go.Proofs.YtjmaggfddinbkaaGreatDoor
open Go.RowKit
def stepRD (m : Nat) : Nat := if m / 4503599627370496 ≤ 52 then 2 ^ (m / 4503599627370496 - 1) else (m / 4503599627370496 - 52) * 4503599627370496
theorem mag_stepRD (m : Nat) : Fp.mag Ieee.double (stepRD m) = Fp.step Ieee.double m := by
  unfold Fp.mag Fp.step stepRD
  rw [Fp.dB]
  generalize m / 4503599627370496 = q
  by_cases h : q ≤ 52
  · have hlt : 2 ^ (q - 1) < 4503599627370496 := by
      rw [show 4503599627370496 = 2 ^ 52 from rfl]
      exact Nat.pow_lt_pow_right (by decide) (by omega)
    rw [if_pos h, if_pos hlt]
  · rw [if_neg h]
    obtain ⟨j, rfl⟩ : ∃ j, q = j + 53 := ⟨q - 53, by omega⟩
    rw [show j + 53 - 52 = j + 1 by omega, if_neg (by omega), show (j + 1) * 4503599627370496 % 4503599627370496 = 0 by omega, show (j + 1) * 4503599627370496 / 4503599627370496 = j + 1 by omega, show j + 1 - 1 = j by omega, show j + 53 - 1 = 52 + j by omega, Nat.pow_add]
theorem stepRD_le (m : Nat) (h : m < 9218868437227405312) : stepRD m < 9218868437227405312 := by
  unfold stepRD
  have hq : m / 4503599627370496 < 2047 := by omega
  generalize m / 4503599627370496 = q at *
  by_cases h : q ≤ 52
  · have hlt : 2 ^ (q - 1) < 4503599627370496 := by
      rw [show 4503599627370496 = 2 ^ 52 from rfl]
      exact Nat.pow_lt_pow_right (by decide) (by omega)
    rw [if_pos h]; omega
  · rw [if_neg h]; omega
theorem sub_nextD (m : Nat) (h : m + 1 < 9218868437227405312) : Ieee.double.sub (m + 1) m = some (stepRD m) := by
  have e1 : Fp.rg Ieee.double (m + 1) = m + 1 := by rw [Fp.rg64]; omega
  have e2 : Fp.rg Ieee.double m = m := by rw [Fp.rg64]; omega
  have s1 : Fp.sg Ieee.double (m + 1) = false := by rw [Fp.sg64, show (m + 1) / 9223372036854775808 = 0 by omega]; rfl
  have s2 : Fp.sg Ieee.double m = false := by rw [Fp.sg64, show m / 9223372036854775808 = 0 by omega]; rfl
  rw [Fp.sub_fin Ieee.double (m + 1) m (by rw [e1, Fp.dI]; exact h) (by rw [e2, Fp.dI]; omega)]
  have u : Fp.un Ieee.double (m + 1) - Fp.un Ieee.double m = (Fp.mag Ieee.double (stepRD m) : Nat) := by
    unfold Fp.un
    rw [s1, s2, e1, e2, mag_stepRD, Fp.mag_succ]
    simp only [Bool.false_eq_true, if_false]
    omega
  have hp : 0 < Fp.mag Ieee.double (stepRD m) := by rw [mag_stepRD]; exact Fp.step_pos Ieee.double m
  have hle := stepRD_le m (by omega)
  rw [u, if_neg (by omega), decide_eq_false (by omega), Int.natAbs_natCast, Fp.rung_mag Ieee.double Fp.dF _ (by rw [Fp.dI]; omega)]
  rfl
theorem zero_un' : Fp.un Ieee.double 0 = 0 := un_zero.2 rfl
theorem un_stepRD {m : Nat} (h : m < 9218868437227405312) : stepRD m < 9218868437227405312 ∧ Fp.un Ieee.double (stepRD m) = (2 ^ (m / 4503599627370496 - 1) : Nat) := by
  have hl := stepRD_le m h
  refine ⟨hl, ?_⟩
  rw [un_pos (by omega), mag_stepRD]
  unfold Fp.step
  rw [Fp.dB]
theorem step_ge {m k : Nat} (h : k ≠ 0 → 4503599627370496 * 2 ^ k ≤ Fp.mag Ieee.double m) : 2 ^ k ≤ 2 ^ (m / 4503599627370496 - 1) := by
  refine Nat.pow_le_pow_right (by decide) ?_
  rcases Nat.eq_zero_or_pos k with h0 | h0
  · omega
  · have h1 := h (by omega)
    unfold Fp.mag at h1
    rw [Fp.dB] at h1
    have hp := Nat.two_pow_pos k
    by_cases hb : m < 4503599627370496
    · rw [if_pos hb] at h1; omega
    · rw [if_neg hb] at h1
      have h2 : (4503599627370496 + m % 4503599627370496) * 2 ^ (m / 4503599627370496 - 1) < 9007199254740992 * 2 ^ (m / 4503599627370496 - 1) := Nat.mul_lt_mul_of_pos_right (by omega) (Nat.two_pow_pos _)
      have h3 : 2 ^ k < 2 ^ (m / 4503599627370496 - 1 + 1) := by rw [Nat.pow_succ]; omega
      have := (Nat.pow_lt_pow_iff_right (show 1 < 2 by decide)).1 h3
      omega
set_option maxRecDepth 100000 in
set_option maxHeartbeats 600000 in
theorem m_inf_up (w : World) : Calls Tryz.prog 108 #[.int .i64 1] w fun e w' => e = .returned (.float .f64 9218868437227405312) ∧ w = w' := by
  go_enter Tryz.func108, Tryz.ntmps108
  go_wp2
  go_ret
  exact ⟨rfl, rfl⟩
set_option maxRecDepth 100000 in
set_option maxHeartbeats 600000 in
theorem m_next_up (r : Nat) (h0 : 0 < r) (h : r < 9218868437227405311) (w : World) : Calls Tryz.prog 107 #[.float .f64 r, .float .f64 9218868437227405312] w fun e w' => e = .returned (.float .f64 (r + 1)) ∧ w = w' := by
  have CN := Lib.hid (fun w => m_isnan r w)
  rw [decide_eq_false (by omega)] at CN
  have CI := Lib.hid (fun w => m_isnan 9218868437227405312 w)
  rw [decide_eq_false (by decide)] at CI
  have c1 : (FloatKind.f64.format.order r 9218868437227405312 == some .eq) = false := by
    show (Ieee.double.order r _ == some .eq) = false
    rw [Fp.eq64 _ _ (c_nn (by omega)) (c_nn (by decide))]
    refine decide_eq_false ?_
    unfold Fp.key64
    rw [if_neg (by omega), if_neg (by omega)]
    omega
  have c2 : (FloatKind.f64.format.order r 0 == some .eq) = false := by rw [c_zero, decide_eq_false (by omega)]
  have c3 : (FloatKind.f64.format.order 9218868437227405312 r == some .gt) = true := by
    show (Ieee.double.order _ r == some .gt) = true
    rw [Fp.gt64 _ _ (c_nn (by decide)) (c_nn (by omega))]
    refine decide_eq_true ?_
    unfold Fp.key64
    rw [if_neg (by omega), if_neg (by omega)]
    omega
  have c4 : (FloatKind.f64.format.order r 0 == some .gt) = true := by rw [c_gt (by omega) (by decide), zero_un']; refine decide_eq_true ?_; rw [un_pos (by omega)]; have := Fp.mag_lt_iff Ieee.double (r := 0) (r' := r); rw [Fp.mag_zero] at this; have := this.2 h0; omega
  have w1 : IntKind.u64.wrap ((r : Int) + 1) = ((r + 1 : Nat) : Int) := by rw [IntKind.wrap_u64]; omega
  have w2 : ((r : Int) + 1).toNat = r + 1 := by omega
  clear h0 h
  go_enter Tryz.func107, Tryz.ntmps107
  go_wp2_with fail
  refine (CN.out _).mono ?_; rintro e1 w1 ⟨rfl, rfl⟩
  go_wp2_with fail
  refine (CI.out _).mono ?_; rintro e2 w2 ⟨rfl, rfl⟩
  go_wp2
  go_ret
  exact ⟨rfl, rfl⟩
set_option maxRecDepth 100000 in
set_option maxHeartbeats 600000 in
theorem ulp_any (x : Nat) (hx : x < 18446744073709551616) (hf : x % 9223372036854775808 < 9218868437227405312) (h0 : x % 9223372036854775808 ≠ 0) (w : World) : Calls Tryz.prog 52 #[.float .f64 x] w fun e w' => e = .returned (.float .f64 (stepRD (x % 9223372036854775808))) ∧ Within w w' := by
  have CA := Lib.hid (fun w => m_abs x hx w)
  obtain ⟨r, hr⟩ : ∃ r, r = x % 9223372036854775808 := ⟨_, rfl⟩
  rw [← hr] at CA hf h0 ⊢
  clear hr hx
  by_cases hm : r < 9218868437227405311
  · have c1 : (FloatKind.f64.format.order r 9218868437227405311 == some .gt || FloatKind.f64.format.order r 9218868437227405311 == some .eq) = false := by
      rw [c_ge (by omega) (by decide), un_pos (r := r) (by omega), un_pos (r := 9218868437227405311) (by decide)]
      refine decide_eq_false ?_
      have := Fp.mag_lt_iff Ieee.double (r := r) (r' := 9218868437227405311)
      have := this.2 hm
      omega
    have NX := Lib.hid (fun w => m_next_up r (by omega) hm w)
    have hsub := fun (t : TypeId) w => run_float_arith (P := Tryz.prog) w .sub t .f64 (r + 1) r (stepRD r) (sub_nextD r (by omega))
    obtain ⟨s, hs⟩ : ∃ s, s = stepRD r := ⟨_, rfl⟩
    obtain ⟨r1, hr1⟩ : ∃ r1, r1 = r + 1 := ⟨_, rfl⟩
    rw [← hs, ← hr1] at hsub
    rw [← hr1] at NX
    rw [← hs]
    clear hs hr1 hm hf h0
    go_enter Tryz.func52, Tryz.ntmps52
    go_wp2_with fail
    refine (CA.out _).mono ?_; rintro e1 w1 ⟨rfl, rfl⟩
    go_wp2_with fail
    refine (m_inf_up _).mono ?_; rintro e2 w2 ⟨rfl, rfl⟩
    go_wp2_with fail
    refine (NX.out _).mono ?_; rintro e3 w3 ⟨rfl, rfl⟩
    go_wp2
    go_ret
    exact ⟨rfl, (by repeat (first | with_reducible exact Within.refl _ | with_reducible assumption | with_reducible refine arW_within ?_ _ _ _ | with_reducible refine Within.alloc ?_ _ | with_reducible refine Within.drew ?_ | with_reducible refine Within.trans ?_ (by assumption)))⟩
  · obtain rfl : r = 9218868437227405311 := by omega
    have e : stepRD 9218868437227405311 = (971 + 1023) * 4503599627370496 := by decide
    rw [e]
    have c1 : (FloatKind.f64.format.order 9218868437227405311 9218868437227405311 == some .gt || FloatKind.f64.format.order 9218868437227405311 9218868437227405311 == some .eq) = true := by rw [c_ge (by decide) (by decide)]; exact decide_eq_true (Int.le_refl _)
    have CL := Lib.hid (fun w => ldexp_one 971 (by decide) w)
    obtain ⟨s, hs⟩ : ∃ s, s = (971 + 1023) * 4503599627370496 := ⟨_, rfl⟩
    rw [← hs] at CL ⊢
    clear hs e hm hf h0
    go_enter Tryz.func52, Tryz.ntmps52
    go_wp2_with fail
    refine (CA.out _).mono ?_; rintro e1 w1 ⟨rfl, rfl⟩
    go_wp2_with fail
    refine (CL.out _).mono ?_; rintro e2 w2 ⟨rfl, rfl⟩
    go_wp2
    go_ret
    exact ⟨rfl, (by repeat (first | with_reducible exact Within.refl _ | with_reducible assumption | with_reducible refine arW_within ?_ _ _ _ | with_reducible refine Within.alloc ?_ _ | with_reducible refine Within.drew ?_ | with_reducible refine Within.trans ?_ (by assumption)))⟩
end Go.Proofs.YtjmaggfddinbkaaGreatDoor
end

section
namespace Go.Proofs.YtjmaggfddinbkaaGreatDoor
theorem mem_fin {es : List Nat} (hw : Words64 es) (h : isB es = true) {x : Nat} (hx : x ∈ es) : x % 9223372036854775808 < 9218868437227405312 := isB_fins hw h x hx
theorem isB_nil : isB [] = true := by decide
/-! Compress -/
theorem unL_rev (es : List Nat) : unL es.reverse = (unL es).reverse := List.map_reverse ..
theorem unL_dwn {es : List Nat} (h0 : es.length ≠ 0) : (Fp.un Ieee.double (es.getD (es.length - 1) 0) :: unL (dwn es)).reverse = unL es := by
  conv => rhs; rw [last_split h0]
  unfold dwn
  rw [List.reverse_cons, ← unL_rev, List.reverse_reverse]
  unfold unL
  rw [List.map_append]; rfl
theorem compR_zero {es : List Nat} (h : (compR es).2 = 0) : isB es = true ∧ (es = [] ∧ compR es = ([], 0) ∨ es.length ≠ 0 ∧ (compSt es).err = 0 ∧ compR es = ((compSt es).all, 0)) := by
  unfold compR at h ⊢
  by_cases h1 : chkE es = 0
  · rw [if_pos h1] at h ⊢
    refine ⟨chkE_zero.1 h1, ?_⟩
    by_cases h2 : es.length = 0
    · rw [if_pos h2]; exact .inl ⟨List.eq_nil_of_length_eq_zero h2, rfl⟩
    · rw [if_neg h2] at h ⊢
      have h5 : (compSt es).err = 0 := h
      refine .inr ⟨h2, h5, ?_⟩
      unfold Lay.out
      rw [if_pos h5, h5]
  · rw [if_neg h1] at h; exact absurd h h1
theorem comp_fz {es : List Nat} (hw : Words64 es) (hE : isB es = true) (h0 : es.length ≠ 0) (ho : (compSt es).ov = false) :
    ∃ Z, FzL (compSt es).all Z ∧ Expn Z ∧ Z.sum = (unL es).sum ∧ ∃ (ini : List Int) (last : Int) (k : Nat), Z = ini ++ [last] ∧ last ≠ 0 ∧ RepZ last ∧ ((unL es).sum - last).natAbs < 2 ^ k ∧ Mu k last ∧ (k ≠ 0 → 4503599627370496 * 2 ^ k ≤ last.natAbs) := by
  obtain ⟨k1, k2, k3⟩ := isB_words hw hE
  have hlast : es.getD (es.length - 1) 0 ∈ es := by rw [List.getD, List.getElem?_eq_getElem (by omega)]; exact List.getElem_mem _
  have hq : Fz (fv (es.getD (es.length - 1) 0)) (Fp.un Ieee.double (es.getD (es.length - 1) 0)) := fz_of (mem_fin hw hE hlast)
  have hdm : ∀ x ∈ dwn es, x ∈ es := fun x hx => List.dropLast_subset _ (List.mem_reverse.1 hx)
  have hd : FzL ((dwn es).map fv) (unL (dwn es)) := fzL_words fun x hx => mem_fin hw hE (hdm x hx)
  have hrev := unL_dwn h0
  have hE2 : Expn (Fp.un Ieee.double (es.getD (es.length - 1) 0) :: unL (dwn es)).reverse := by rw [hrev]; exact k2
  have hR2 : ∀ x ∈ Fp.un Ieee.double (es.getD (es.length - 1) 0) :: unL (dwn es), RepZ x := fun x hx => k3 x (by rw [← hrev]; exact List.mem_reverse.2 hx)
  obtain ⟨c1, c2, c3, c4, c5, c6⟩ := comp_all hE2 hR2
  have hl := comp_link hq hd ho
  rw [c3, c4] at hl
  have hsum : (Fp.un Ieee.double (es.getD (es.length - 1) 0) :: unL (dwn es)).sum = (unL es).sum := by rw [← hrev, rev_sum]
  rw [hsum] at c5 c6
  exact ⟨_, hl, c1, c5, c6⟩
theorem comp_res {es ls : List Nat} (hw : Words64 es) (h0 : (compR es).2 = 0) (hws : Words64 ls) (hm : ls.map fv = (compR es).1) :
    FzL (ls.map fv) (unL ls) ∧ isB ls = true ∧ (unL ls).sum = (unL es).sum ∧ (ls.length = 0 ↔ es.length = 0) ∧ (es.length ≠ 0 → ∃ k : Nat, ((unL es).sum - Fp.un Ieee.double (ls.getD (ls.length - 1) 0)).natAbs < 2 ^ k ∧ Mu k (Fp.un Ieee.double (ls.getD (ls.length - 1) 0)) ∧ (k ≠ 0 → 4503599627370496 * 2 ^ k ≤ (Fp.un Ieee.double (ls.getD (ls.length - 1) 0)).natAbs)) := by
  obtain ⟨h1, ⟨rfl, h3⟩ | ⟨h2, h3, h4⟩⟩ := compR_zero h0
  · rw [h3] at hm
    rw [fv_nil hm]
    exact ⟨trivial, isB_nil, rfl, Iff.rfl, fun h => absurd rfl h⟩
  · obtain ⟨e1, e2⟩ := err_zero h3
    obtain ⟨Z, z1, z2, z3, ini, last, k, z4, z5, _, z7, z8, z9⟩ := comp_fz hw h1 h2 e1
    rw [h4] at hm
    have hm' : ls.map fv = (compSt es).all := hm
    rw [← hm'] at z1 e2
    rw [List.length_map] at e2
    obtain ⟨r1, r2⟩ := isB_res hws z1 e2 z2
    rw [← r2] at z1 z3 z4
    have hlen : ls.length ≠ 0 := by
      intro h
      have := congrArg List.length z4
      rw [unL_len, h, List.length_append] at this
      simp at this
    refine ⟨z1, r1, z3, ⟨fun h => absurd h hlen, fun h => absurd h h2⟩, fun _ => ⟨k, ?_⟩⟩
    have hl : Fp.un Ieee.double (ls.getD (ls.length - 1) 0) = last := by
      rw [← unL_at ls (show ls.length - 1 < ls.length by omega), ← unL_len ls, z4, List.getD, List.length_append, List.length_cons, List.length_nil, Nat.add_sub_cancel, List.getElem?_append_right (Nat.le_refl _), Nat.sub_self]
      rfl
    rw [hl]
    exact ⟨z7, z8, z9⟩
end Go.Proofs.YtjmaggfddinbkaaGreatDoor
end

section
namespace Go.Proofs.YtjmaggfddinbkaaGreatDoor
open Go.RowKit
theorem sum_len' {es : List Nat} (hw : Words64 es) (hf : ∀ x ∈ es, x % 9223372036854775808 < 9218868437227405312) (hl : es.length ≤ 64) : (dg ((unL es).sum).natAbs).length ≤ 80 := by
  have := sum_len hw hf hl es.length
  rwa [List.take_of_length_le (by rw [unL_len]; exact Nat.le_refl _)] at this
theorem sum_bound' {es : List Nat} (hw : Words64 es) (hf : ∀ x ∈ es, x % 9223372036854775808 < 9218868437227405312) (hl : es.length ≤ 64) : ((unL es).sum).natAbs < 2 ^ (e38 + 8) := by
  refine Nat.lt_of_le_of_lt (sum_bound (B := 2 ^ e38) _ fun z hz => ?_) (Nat.lt_of_le_of_lt (Nat.mul_le_mul_right _ (by rw [unL_len]; exact hl)) (pow_64 e38))
  obtain ⟨x, h1, rfl⟩ := unL_mem hz
  exact un_lim (hw x h1) (hf x h1)
theorem diff_len {S : Int} {t : Nat} (hS : S.natAbs < 2 ^ (e38 + 8)) (ht : t < 18446744073709551616) (ft : t % 9223372036854775808 < 9218868437227405312) : (dg (S - P64.wholeI t).natAbs).length ≤ 80 := by
  refine dg_len_of (e := e38 + 9) ?_ (by decide)
  have h1 := un_lim ht ft
  rw [whole_un ht ft]
  rw [show e38 + 9 = e38 + 8 + 1 by omega, Nat.pow_succ]
  have h2 := pow_64 e38
  generalize 2 ^ (e38 + 8) = X at *
  generalize 2 ^ e38 = Y at *
  omega
theorem comp_len (es : List Nat) (h : es.length ≤ 64) (h0 : es.length ≠ 0) : (compSt es).all.length ≤ 64 := by
  unfold compSt Lay.all
  obtain ⟨D, hD⟩ : ∃ D, D = downSt (fv (es.getD (es.length - 1) 0)) ((dwn es).map fv) := ⟨_, rfl⟩
  rw [← hD]
  have h1 := ds_len (es.getD (es.length - 1) 0) (dwn es) (dwn es).length (Nat.le_refl _)
  rw [ds_all, ← hD, dwn_len] at h1
  have h2 := us_len D D.l.length (Nat.le_refl _)
  rw [us_all] at h2
  have h3 := layV_len (upSt D).l (upSt D).q
  omega
theorem comp_err {es : List Nat} (h1 : isB es = true) (h : (compR es).2 ≠ 0) : (compR es).2 = 5 := by
  unfold compR at h ⊢
  rw [if_pos (chkE_zero.2 h1)] at h ⊢
  by_cases h0 : es.length = 0
  · rw [if_pos h0] at h; exact absurd rfl h
  · rw [if_neg h0] at h ⊢
    have hl := comp_len es (isB_len h1) h0
    have h5 : (compSt es).err ≠ 0 := h
    show (compSt es).err = 5
    unfold Lay.err at h5 ⊢
    cases ho : (compSt es).ov
    · rw [ho, if_neg Bool.false_ne_true, if_neg (by omega)] at h5; exact absurd rfl h5
    · rw [if_pos rfl]
theorem signR_err (es : List Nat) : (signR es).2 = chkE es := by
  unfold signR
  by_cases h : chkE es = 0
  · rw [if_pos h, h]
  · rw [if_neg h]
theorem far_less {S : Int} {t k : Nat} (ht : t < 18446744073709551616) (ft : t % 9223372036854775808 < 9218868437227405312) (h1 : (S - Fp.un Ieee.double t).natAbs < 2 ^ k) (h2 : k ≠ 0 → 4503599627370496 * 2 ^ k ≤ (Fp.un Ieee.double t).natAbs) :
    (((S - P64.wholeI t).natAbs : Int) - P64.wholeI (stepRD (t % 9223372036854775808))).sign = -1 := by
  obtain ⟨l1, l2⟩ := un_stepRD ft
  rw [whole_un ht ft, whole_un (by omega) (by omega), l2]
  have h3 := step_ge (m := t % 9223372036854775808) (k := k) (by rw [← Fp.rg64, ← un_abs]; exact h2)
  refine Int.sign_eq_neg_one_of_neg ?_
  generalize 2 ^ (t % 9223372036854775808 / 4503599627370496 - 1) = X at *
  generalize 2 ^ k = Y at *
  omega
set_option maxRecDepth 100000 in
set_option maxHeartbeats 600000 in
theorem great_bad (A : Option Addr) (c : Nat) (x : List Nat) (hwx : Words64 x) (hlx : x.length * 8 ≤ 140737488355328) (h1 : isB x = false) (w : World) (hT : Tab w) (hrx : SlAt w A (u64v x)) : Calls Tryz.prog 9 #[.slice A x.length c] w fun e w' => e = .returned (.bool true) ∧ Within w w' := by
  have hck : chkE x ≠ 0 := fun h => by rw [chkE_zero.1 h] at h1; cases h1
  have hcr : (compR x).2 = chkE x := by unfold compR; rw [if_neg hck]
  have RX := Lib.hid hrx; have WX := Lib.hid hwx; have HT := Lib.hid hT; clear hrx hwx hT
  have hlx2 : x.length ≤ 1152921504606846976 := by omega
  have AW := Lib.hid (fun w hT => awake_true w hT)
  have IX := Lib.hid (fun A c w hT hr => eis_any A c x WX.out hlx2 w hT hr)
  have CX := Lib.hid (fun A c w hT hr => eComp_any A c x WX.out hlx2 w hT hr)
  have GX := Lib.hid (fun A c w hT hr => eSign_any A c x WX.out hlx2 w hT hr)
  rw [signR_err] at GX
  rw [h1] at IX
  rw [hcr] at CX
  obtain ⟨ck, hk⟩ : ∃ ck, ck = chkE x := ⟨_, rfl⟩
  rw [← hk] at CX GX hck
  have g1 : (ck != 0) = true := by rw [bne_iff_ne]; exact hck
  clear hk hck hcr h1
  go_enter Tryz.func9, Tryz.ntmps9
  go_wp2_with fail
  refine (AW.out _ HT.out).mono ?_; rintro e0 w0' ⟨rfl, hb0⟩
  have L1 := Lib.hid (fun w hr => l_any A c x WX.out (by assumption) w hr)
  go_wp2_with fail
  refine (L1.out _ (RX.out.of (by repeat (first | with_reducible exact Within.refl _ | with_reducible assumption | with_reducible refine arW_within ?_ _ _ _ | with_reducible refine Within.alloc ?_ _ | with_reducible refine Within.drew ?_ | with_reducible refine Within.trans ?_ (by assumption))))).mono ?_; rintro e1 w1 ⟨v1, rfl, hO1, hb1⟩
  obtain ⟨A1, c1, rfl, _, hs1, _⟩ := hO1.form
  have HS1 := Lib.hid hs1; clear hs1 hO1 L1
  go_wp2_with fail
  refine (CX.out A1 c1 _ (HT.out.of (by repeat (first | with_reducible exact Within.refl _ | with_reducible assumption | with_reducible refine arW_within ?_ _ _ _ | with_reducible refine Within.alloc ?_ _ | with_reducible refine Within.drew ?_ | with_reducible refine Within.trans ?_ (by assumption)))) (HS1.out.of (by repeat (first | with_reducible exact Within.refl _ | with_reducible assumption | with_reducible refine arW_within ?_ _ _ _ | with_reducible refine Within.alloc ?_ _ | with_reducible refine Within.drew ?_ | with_reducible refine Within.trans ?_ (by assumption))))).mono ?_; rintro e2 w2 ⟨v2, l2, rfl, hO2, hw2, hm2, hb2⟩
  obtain ⟨A2, c2, rfl, _, hs2, _⟩ := hO2.form
  have HS2 := Lib.hid hs2; have HM2 := Lib.hid hm2; have HW2 := Lib.hid hw2; clear hs2 hO2 hm2 hw2
  go_wp2_with fail
  refine (GX.out A1 c1 _ (HT.out.of (by repeat (first | with_reducible exact Within.refl _ | with_reducible assumption | with_reducible refine arW_within ?_ _ _ _ | with_reducible refine Within.alloc ?_ _ | with_reducible refine Within.drew ?_ | with_reducible refine Within.trans ?_ (by assumption)))) (HS1.out.of (by repeat (first | with_reducible exact Within.refl _ | with_reducible assumption | with_reducible refine arW_within ?_ _ _ _ | with_reducible refine Within.alloc ?_ _ | with_reducible refine Within.drew ?_ | with_reducible refine Within.trans ?_ (by assumption))))).mono ?_; rintro e3 w3 ⟨rfl, hb3⟩
  go_wp2_with fail
  refine (IX.out A1 c1 _ (HT.out.of (by repeat (first | with_reducible exact Within.refl _ | with_reducible assumption | with_reducible refine arW_within ?_ _ _ _ | with_reducible refine Within.alloc ?_ _ | with_reducible refine Within.drew ?_ | with_reducible refine Within.trans ?_ (by assumption)))) (HS1.out.of (by repeat (first | with_reducible exact Within.refl _ | with_reducible assumption | with_reducible refine arW_within ?_ _ _ _ | with_reducible refine Within.alloc ?_ _ | with_reducible refine Within.drew ?_ | with_reducible refine Within.trans ?_ (by assumption))))).mono ?_; rintro e4 w4 ⟨rfl, hb4⟩
  go_wp2
  go_ret
  exact ⟨rfl, (by repeat (first | with_reducible exact Within.refl _ | with_reducible assumption | with_reducible refine arW_within ?_ _ _ _ | with_reducible refine Within.alloc ?_ _ | with_reducible refine Within.drew ?_ | with_reducible refine Within.trans ?_ (by assumption)))⟩
set_option maxRecDepth 100000 in
set_option maxHeartbeats 600000 in
theorem great_over (A : Option Addr) (c : Nat) (x : List Nat) (hwx : Words64 x) (hlx : x.length * 8 ≤ 140737488355328) (h1 : isB x = true) (h2 : (compR x).2 ≠ 0) (w : World) (hT : Tab w) (hrx : SlAt w A (u64v x)) : Calls Tryz.prog 9 #[.slice A x.length c] w fun e w' => e = .returned (.bool true) ∧ Within w w' := by
  have hck : chkE x = 0 := chkE_zero.2 h1
  have hcr := comp_err h1 h2
  have RX := Lib.hid hrx; have WX := Lib.hid hwx; have HT := Lib.hid hT; clear hrx hwx hT
  have hlx2 : x.length ≤ 1152921504606846976 := by omega
  have AW := Lib.hid (fun w hT => awake_true w hT)
  have IX := Lib.hid (fun A c w hT hr => eis_any A c x WX.out hlx2 w hT hr)
  have CX := Lib.hid (fun A c w hT hr => eComp_any A c x WX.out hlx2 w hT hr)
  have GX := Lib.hid (fun A c w hT hr => eSign_any A c x WX.out hlx2 w hT hr)
  rw [signR_err] at GX
  rw [h1] at IX
  rw [hcr] at CX
  rw [hck] at GX
  clear hck hcr h1 h2
  go_enter Tryz.func9, Tryz.ntmps9
  go_wp2_with fail
  refine (AW.out _ HT.out).mono ?_; rintro e0 w0' ⟨rfl, hb0⟩
  have L1 := Lib.hid (fun w hr => l_any A c x WX.out (by assumption) w hr)
  go_wp2_with fail
  refine (L1.out _ (RX.out.of (by repeat (first | with_reducible exact Within.refl _ | with_reducible assumption | with_reducible refine arW_within ?_ _ _ _ | with_reducible refine Within.alloc ?_ _ | with_reducible refine Within.drew ?_ | with_reducible refine Within.trans ?_ (by assumption))))).mono ?_; rintro e1 w1 ⟨v1, rfl, hO1, hb1⟩
  obtain ⟨A1, c1, rfl, _, hs1, _⟩ := hO1.form
  have HS1 := Lib.hid hs1; clear hs1 hO1 L1
  go_wp2_with fail
  refine (CX.out A1 c1 _ (HT.out.of (by repeat (first | with_reducible exact Within.refl _ | with_reducible assumption | with_reducible refine arW_within ?_ _ _ _ | with_reducible refine Within.alloc ?_ _ | with_reducible refine Within.drew ?_ | with_reducible refine Within.trans ?_ (by assumption)))) (HS1.out.of (by repeat (first | with_reducible exact Within.refl _ | with_reducible assumption | with_reducible refine arW_within ?_ _ _ _ | with_reducible refine Within.alloc ?_ _ | with_reducible refine Within.drew ?_ | with_reducible refine Within.trans ?_ (by assumption))))).mono ?_; rintro e2 w2 ⟨v2, l2, rfl, hO2, hw2, hm2, hb2⟩
  obtain ⟨A2, c2, rfl, _, hs2, _⟩ := hO2.form
  have HS2 := Lib.hid hs2; have HM2 := Lib.hid hm2; have HW2 := Lib.hid hw2; clear hs2 hO2 hm2 hw2
  go_wp2_with fail
  refine (GX.out A1 c1 _ (HT.out.of (by repeat (first | with_reducible exact Within.refl _ | with_reducible assumption | with_reducible refine arW_within ?_ _ _ _ | with_reducible refine Within.alloc ?_ _ | with_reducible refine Within.drew ?_ | with_reducible refine Within.trans ?_ (by assumption)))) (HS1.out.of (by repeat (first | with_reducible exact Within.refl _ | with_reducible assumption | with_reducible refine arW_within ?_ _ _ _ | with_reducible refine Within.alloc ?_ _ | with_reducible refine Within.drew ?_ | with_reducible refine Within.trans ?_ (by assumption))))).mono ?_; rintro e3 w3 ⟨rfl, hb3⟩
  go_wp2_with fail
  refine (IX.out A1 c1 _ (HT.out.of (by repeat (first | with_reducible exact Within.refl _ | with_reducible assumption | with_reducible refine arW_within ?_ _ _ _ | with_reducible refine Within.alloc ?_ _ | with_reducible refine Within.drew ?_ | with_reducible refine Within.trans ?_ (by assumption)))) (HS1.out.of (by repeat (first | with_reducible exact Within.refl _ | with_reducible assumption | with_reducible refine arW_within ?_ _ _ _ | with_reducible refine Within.alloc ?_ _ | with_reducible refine Within.drew ?_ | with_reducible refine Within.trans ?_ (by assumption))))).mono ?_; rintro e4 w4 ⟨rfl, hb4⟩
  go_wp2
  go_ret
  exact ⟨rfl, (by repeat (first | with_reducible exact Within.refl _ | with_reducible assumption | with_reducible refine arW_within ?_ _ _ _ | with_reducible refine Within.alloc ?_ _ | with_reducible refine Within.drew ?_ | with_reducible refine Within.trans ?_ (by assumption)))⟩
set_option maxRecDepth 100000 in
set_option maxHeartbeats 600000 in
theorem great_nil (A : Option Addr) (c : Nat) (x : List Nat) (hwx : Words64 x) (hlx : x.length * 8 ≤ 140737488355328) (h1 : isB x = true) (h2 : (compR x).2 = 0) (h3 : x.length = 0) (w : World) (hT : Tab w) (hrx : SlAt w A (u64v x)) : Calls Tryz.prog 9 #[.slice A x.length c] w fun e w' => e = .returned (.bool true) ∧ Within w w' := by
  have hck : chkE x = 0 := chkE_zero.2 h1
  have hsv : (signR x).1 = 0 := by rw [List.eq_nil_of_length_eq_zero h3]; decide +kernel
  have GR := Lib.hid (fun (ls : List Nat) (hw : Words64 ls) (hm : ls.map fv = (compR x).1) => (show ls.length = 0 from (comp_res hwx h2 hw hm).2.2.2.1.2 h3))
  have RX := Lib.hid hrx; have WX := Lib.hid hwx; have HT := Lib.hid hT; clear hrx hwx hT
  have hlx2 : x.length ≤ 1152921504606846976 := by omega
  have AW := Lib.hid (fun w hT => awake_true w hT)
  have IX := Lib.hid (fun A c w hT hr => eis_any A c x WX.out hlx2 w hT hr)
  have CX := Lib.hid (fun A c w hT hr => eComp_any A c x WX.out hlx2 w hT hr)
  have GX := Lib.hid (fun A c w hT hr => eSign_any A c x WX.out hlx2 w hT hr)
  rw [signR_err] at GX
  rw [h2] at CX
  rw [hck, hsv] at GX
  have g1 : ((x.length : Int) == 0) = true := by rw [h3]; rfl
  clear hck hsv h1 h2 h3
  go_enter Tryz.func9, Tryz.ntmps9
  go_wp2_with fail
  refine (AW.out _ HT.out).mono ?_; rintro e0 w0' ⟨rfl, hb0⟩
  have L1 := Lib.hid (fun w hr => l_any A c x WX.out (by assumption) w hr)
  go_wp2_with fail
  refine (L1.out _ (RX.out.of (by repeat (first | with_reducible exact Within.refl _ | with_reducible assumption | with_reducible refine arW_within ?_ _ _ _ | with_reducible refine Within.alloc ?_ _ | with_reducible refine Within.drew ?_ | with_reducible refine Within.trans ?_ (by assumption))))).mono ?_; rintro e1 w1 ⟨v1, rfl, hO1, hb1⟩
  obtain ⟨A1, c1, rfl, _, hs1, _⟩ := hO1.form
  have HS1 := Lib.hid hs1; clear hs1 hO1 L1
  go_wp2_with fail
  refine (CX.out A1 c1 _ (HT.out.of (by repeat (first | with_reducible exact Within.refl _ | with_reducible assumption | with_reducible refine arW_within ?_ _ _ _ | with_reducible refine Within.alloc ?_ _ | with_reducible refine Within.drew ?_ | with_reducible refine Within.trans ?_ (by assumption)))) (HS1.out.of (by repeat (first | with_reducible exact Within.refl _ | with_reducible assumption | with_reducible refine arW_within ?_ _ _ _ | with_reducible refine Within.alloc ?_ _ | with_reducible refine Within.drew ?_ | with_reducible refine Within.trans ?_ (by assumption))))).mono ?_; rintro e2 w2 ⟨v2, l2, rfl, hO2, hw2, hm2, hb2⟩
  obtain ⟨A2, c2, rfl, _, hs2, _⟩ := hO2.form
  have HS2 := Lib.hid hs2; have HM2 := Lib.hid hm2; have HW2 := Lib.hid hw2; clear hs2 hO2 hm2 hw2
  go_wp2_with fail
  refine (GX.out A1 c1 _ (HT.out.of (by repeat (first | with_reducible exact Within.refl _ | with_reducible assumption | with_reducible refine arW_within ?_ _ _ _ | with_reducible refine Within.alloc ?_ _ | with_reducible refine Within.drew ?_ | with_reducible refine Within.trans ?_ (by assumption)))) (HS1.out.of (by repeat (first | with_reducible exact Within.refl _ | with_reducible assumption | with_reducible refine arW_within ?_ _ _ _ | with_reducible refine Within.alloc ?_ _ | with_reducible refine Within.drew ?_ | with_reducible refine Within.trans ?_ (by assumption))))).mono ?_; rintro e3 w3 ⟨rfl, hb3⟩
  have hl0 := GR.out l2 HW2.out HM2.out
  have g2 : ((l2.length : Int) == 0) = true := by rw [hl0]; rfl
  clear hl0
  go_wp2
  go_ret
  exact ⟨rfl, (by repeat (first | with_reducible exact Within.refl _ | with_reducible assumption | with_reducible refine arW_within ?_ _ _ _ | with_reducible refine Within.alloc ?_ _ | with_reducible refine Within.drew ?_ | with_reducible refine Within.trans ?_ (by assumption)))⟩
set_option maxRecDepth 100000 in
set_option maxHeartbeats 4000000 in
theorem great_main (A : Option Addr) (c : Nat) (x : List Nat) (hwx : Words64 x) (hlx : x.length * 8 ≤ 140737488355328) (h1 : isB x = true) (h2 : (compR x).2 = 0) (h3 : x.length ≠ 0) (w : World) (hT : Tab w) (hrx : SlAt w A (u64v x)) : Calls Tryz.prog 9 #[.slice A x.length c] w fun e w' => e = .returned (.bool true) ∧ Within w w' := by
  have hck : chkE x = 0 := chkE_zero.2 h1
  have GR := Lib.hid (fun (ls : List Nat) (hw : Words64 ls) (hm : ls.map fv = (compR x).1) => (show isB ls = true ∧ ls.length ≠ 0 ∧ (unL ls).sum = (unL x).sum ∧ ∃ k : Nat, ((unL x).sum - Fp.un Ieee.double (ls.getD (ls.length - 1) 0)).natAbs < 2 ^ k ∧ (k ≠ 0 → 4503599627370496 * 2 ^ k ≤ (Fp.un Ieee.double (ls.getD (ls.length - 1) 0)).natAbs) from by
    obtain ⟨_, r1, r2, r3, r4⟩ := comp_res hwx h2 hw hm
    obtain ⟨k, k1, _, k3⟩ := r4 h3
    exact ⟨r1, fun h => h3 (r3.1 h), r2, k, k1, k3⟩))
  have hsg := sum_sign hwx h1
  have SX := Lib.hid (fun A c w hr => Xsuml A c x hwx (isB_fins hwx h1) (isB_len h1) w hr)
  have LX := Lib.hid (sum_len' hwx (isB_fins hwx h1) (isB_len h1))
  have BX := Lib.hid (sum_bound' hwx (isB_fins hwx h1) (isB_len h1))
  have RX := Lib.hid hrx; have WX := Lib.hid hwx; have HT := Lib.hid hT; clear hrx hwx hT
  have hlx2 : x.length ≤ 1152921504606846976 := by omega
  have AW := Lib.hid (fun w hT => awake_true w hT)
  have IX := Lib.hid (fun A c w hT hr => eis_any A c x WX.out hlx2 w hT hr)
  have CX := Lib.hid (fun A c w hT hr => eComp_any A c x WX.out hlx2 w hT hr)
  have GX := Lib.hid (fun A c w hT hr => eSign_any A c x WX.out hlx2 w hT hr)
  rw [signR_err] at GX
  rw [h2] at CX
  rw [hck] at GX
  obtain ⟨gv, hgv⟩ : ∃ gv, gv = (signR x).1 := ⟨_, rfl⟩
  rw [← hgv] at GX hsg
  have HSG := Lib.hid hsg; clear hgv hsg hck h1 h2 h3
  go_enter Tryz.func9, Tryz.ntmps9
  go_wp2_with fail
  refine (AW.out _ HT.out).mono ?_; rintro e0 w0' ⟨rfl, hb0⟩
  have L1 := Lib.hid (fun w hr => l_any A c x WX.out (by assumption) w hr)
  go_wp2_with fail
  refine (L1.out _ (RX.out.of (by repeat (first | with_reducible exact Within.refl _ | with_reducible assumption | with_reducible refine arW_within ?_ _ _ _ | with_reducible refine Within.alloc ?_ _ | with_reducible refine Within.drew ?_ | with_reducible refine Within.trans ?_ (by assumption))))).mono ?_; rintro e1 w1 ⟨v1, rfl, hO1, hb1⟩
  obtain ⟨A1, c1, rfl, _, hs1, _⟩ := hO1.form
  have HS1 := Lib.hid hs1; clear hs1 hO1 L1
  go_wp2_with fail
  refine (CX.out A1 c1 _ (HT.out.of (by repeat (first | with_reducible exact Within.refl _ | with_reducible assumption | with_reducible refine arW_within ?_ _ _ _ | with_reducible refine Within.alloc ?_ _ | with_reducible refine Within.drew ?_ | with_reducible refine Within.trans ?_ (by assumption)))) (HS1.out.of (by repeat (first | with_reducible exact Within.refl _ | with_reducible assumption | with_reducible refine arW_within ?_ _ _ _ | with_reducible refine Within.alloc ?_ _ | with_reducible refine Within.drew ?_ | with_reducible refine Within.trans ?_ (by assumption))))).mono ?_; rintro e2 w2 ⟨v2, l2, rfl, hO2, hw2, hm2, hb2⟩
  obtain ⟨A2, c2, rfl, _, hs2, _⟩ := hO2.form
  have HS2 := Lib.hid hs2; have HM2 := Lib.hid hm2; have HW2 := Lib.hid hw2; clear hs2 hO2 hm2 hw2
  go_wp2_with fail
  refine (GX.out A1 c1 _ (HT.out.of (by repeat (first | with_reducible exact Within.refl _ | with_reducible assumption | with_reducible refine arW_within ?_ _ _ _ | with_reducible refine Within.alloc ?_ _ | with_reducible refine Within.drew ?_ | with_reducible refine Within.trans ?_ (by assumption)))) (HS1.out.of (by repeat (first | with_reducible exact Within.refl _ | with_reducible assumption | with_reducible refine arW_within ?_ _ _ _ | with_reducible refine Within.alloc ?_ _ | with_reducible refine Within.drew ?_ | with_reducible refine Within.trans ?_ (by assumption))))).mono ?_; rintro e3 w3 ⟨rfl, hb3⟩
  obtain ⟨r1, r2, r3, kk, r4, r5⟩ := GR.out l2 HW2.out HM2.out
  have g2 : ((l2.length : Int) == 0) = false := by rw [beq_eq_false_iff_ne]; omega
  have hl64 := isB_len r1
  obtain ⟨ad, hA, hblk, hc⟩ := (HS2.out.of (show Within w2 w3 from (by repeat (first | with_reducible exact Within.refl _ | with_reducible assumption | with_reducible refine arW_within ?_ _ _ _ | with_reducible refine Within.alloc ?_ _ | with_reducible refine Within.drew ?_ | with_reducible refine Within.trans ?_ (by assumption))))).at (k := l2.length - 1) (by omega)
  have hss := sum_sign HW2.out r1
  rw [r3, HSG.out] at hss
  have hsv : (signR l2).1 = (Fp.un Ieee.double (l2.getD (l2.length - 1) 0)).sign := by unfold signR; rw [if_pos (chkE_zero.2 r1)]
  rw [hsv] at hss
  clear hsv
  have ht64 := HW2.out.at (k := l2.length - 1) (by omega)
  have hmem : l2.getD (l2.length - 1) 0 ∈ l2 := by rw [List.getD, List.getElem?_eq_getElem (by omega)]; exact List.getElem_mem _
  have ft := isB_fins HW2.out r1 _ hmem
  have nt : l2.getD (l2.length - 1) 0 % 9223372036854775808 ≠ 0 := fun h0 => by
    have hok := r1
    unfold isB at hok
    rw [Bool.and_eq_true, List.all_eq_true] at hok
    have := hok.2 (l2.length - 1) (List.mem_range.2 (by omega))
    unfold okAt at this
    rw [Bool.and_eq_true, decide_eq_true_iff] at this
    exact this.1 h0
  have gl1 : IntKind.i64.wrap ((l2.length : Int) - 1) = ((l2.length - 1 : Nat) : Int) := by rw [IntWalk.i64_in _ ⟨by omega, by omega⟩]; omega
  obtain ⟨t, ht⟩ : ∃ t, t = l2.getD (l2.length - 1) 0 := ⟨_, rfl⟩
  rw [← ht] at hc hss ht64 ft nt r4 r5
  clear hmem ht
  obtain ⟨n1, hn1⟩ : ∃ n1, n1 = l2.length - 1 := ⟨_, rfl⟩
  have gn : n1 < l2.length := by omega
  rw [← hn1] at gl1 hc
  clear hn1 hl64 r1 r2
  subst hA
  obtain ⟨b1, hb1'⟩ : ∃ b1, b1 = decide (0 < Fp.un Ieee.double t) := ⟨_, rfl⟩
  have k1 : decide (gv > 0) = b1 := by rw [hb1', hss]; refine decide_eq_decide.2 ?_; rcases Int.lt_trichotomy (Fp.un Ieee.double t) 0 with g | g | g; rw [Int.sign_eq_neg_one_of_neg g]; omega; rw [g]; decide; rw [Int.sign_eq_one_of_pos g]; omega
  have k2 : (FloatKind.f64.format.order t 0 == some .gt) = b1 := by rw [hb1', c_gt (by omega) (by decide), zero_un']
  have k3 : (gv != 0) = true := by rw [bne_iff_ne, hss]; intro h; exact nt (un_zero.1 (Int.sign_eq_zero_iff_zero.1 h))
  have k4 : (b1 == b1) = true := beq_self_eq_true _
  have DL := Lib.hid (diff_len BX.out ht64 ft)
  have FAR := Lib.hid (far_less ht64 ft r4 r5)
  have OT := Lib.hid (fun w => XofW t ht64 w)
  have UX := Lib.hid (fun w => ulp_any t ht64 ft nt w)
  have OU := Lib.hid (fun w => XofW (stepRD (t % 9223372036854775808)) (by have := (un_stepRD ft).1; omega) w)
  obtain ⟨u, hu⟩ : ∃ u, u = stepRD (t % 9223372036854775808) := ⟨_, rfl⟩
  rw [← hu] at UX OU FAR
  clear hu hss hb1' ht64 ft nt r3 r4 r5
  go_wp2_with fail
  refine (SX.out A1 c1 _ (HS1.out.of (by repeat (first | with_reducible exact Within.refl _ | with_reducible assumption | with_reducible refine arW_within ?_ _ _ _ | with_reducible refine Within.alloc ?_ _ | with_reducible refine Within.drew ?_ | with_reducible refine Within.trans ?_ (by assumption))))).mono ?_; rintro e4 w4 ⟨g4, n4, E4, rfl, hI4, a4, b4, hv4, hb4⟩
  have l4 : (dg n4.natAbs).length ≤ 80 := Nat.le_trans (val_len n4 E4 1074) (by rw [hv4]; exact LX.out)
  have HV4 := Lib.hid hv4; clear hv4
  go_wp2_with fail
  refine (OT.out _).mono ?_; rintro e5 w5 ⟨g5, n5, E5, rfl, hI5, a5, b5, hv5, hb5⟩
  have l5 : (dg n5.natAbs).length ≤ 80 := Nat.le_trans (val_len n5 E5 1074) (by rw [hv5]; exact whole_len t)
  have HV5 := Lib.hid hv5; clear hv5
  go_wp2_with fail
  refine (Xneg n5 E5 g5 (Nat.le_trans l5 (by decide)) _ hI5).mono ?_; rintro e6 w6 ⟨g6, rfl, hI6, _, hb6⟩
  have CA := Lib.hid (Xadd n4 (-n5) E4 E5 g4 g6 1074 1100 (by decide) (by decide) a4 b4 a5 b5 (Nat.le_trans l4 (by decide)) (by rw [Int.natAbs_neg]; exact Nat.le_trans l5 (by decide)) w6 (hI4.of (hb5.trans hb6)) hI6)
  rw [val_neg, HV4.out, HV5.out, ← Int.sub_eq_add_neg] at CA
  go_wp2_with fail
  refine CA.out.mono ?_; rintro e7 w7 ⟨g7, n7, E7, rfl, hI7, a7, b7, hv7, hb7⟩
  have l7 : (dg n7.natAbs).length ≤ 80 := Nat.le_trans (val_len n7 E7 1074) (by rw [hv7]; exact DL.out)
  have hv8 : valE (n7.natAbs : Int) E7 1074 = (((unL x).sum - P64.wholeI t).natAbs : Int) := by rw [← hv7]; unfold valE; rw [Int.natAbs_mul, Int.natAbs_pow, Int.natCast_mul, Int.natCast_pow]; rfl
  have HV8 := Lib.hid hv8; have L7 := Lib.hid (show (dg ((n7.natAbs : Int)).natAbs).length ≤ 80 from l7); clear hv7 hv8
  go_wp2_with fail
  refine (Xabs n7 E7 g7 (Nat.le_trans l7 (by decide)) _ hI7).mono ?_; rintro e8 w8 ⟨g8, rfl, hI8, _, hb8⟩
  have p0 : (w8.alloc (.cells #[.pointer (some ⟨g8, 0, none⟩), .int .i64 E7] 53)).cell? ⟨w8.heap.size, 0, none⟩ = some (.pointer (some ⟨g8, 0, none⟩)) := by go_simp
  have p1 : (w8.alloc (.cells #[.pointer (some ⟨g8, 0, none⟩), .int .i64 E7] 53)).cell? ⟨w8.heap.size, 1, none⟩ = some (.int .i64 E7) := by go_simp
  have hJ8 := hI8.of ((Within.refl w8).alloc (.cells #[.pointer (some ⟨g8, 0, none⟩), .int .i64 E7] 53))
  have hW8 : Within w w8 := (by repeat (first | with_reducible exact Within.refl _ | with_reducible assumption | with_reducible refine arW_within ?_ _ _ _ | with_reducible refine Within.alloc ?_ _ | with_reducible refine Within.drew ?_ | with_reducible refine Within.trans ?_ (by assumption)))
  clear l7 l4 l5 hI4 hI5 hI6 hI7 hI8 a4 b4 a5 b5 hb0 hb1 hb2 hb3 hb4 hb5 hb6 hb7 hb8
  go_upto_region 12 with fail
  refine wp_region_schG (fun W => W.cell? ⟨w8.heap.size, 0, none⟩ = some (.pointer (some ⟨g8, 0, none⟩)) ∧ W.cell? ⟨w8.heap.size, 1, none⟩ = some (.int .i64 E7) ∧ w8.heap.size < W.heap.size ∧ IntB W g8 (n7.natAbs : Int) ∧ Within w8 W) 17 (.firm 0 (.firm 1 (.one 2 (.one 3 (.one 4 (.firm 5 (.firm 6 (.firm 7 (.firm 8 (.firm 9 (.firm 10 (.firm 11 (.firm 12 (.firm 13 (.firm 14 (.firm 15 (.firm 16 (.one 17 .nil)))))))))))))))))) (by kernel_rfl) (by kernel_rfl) ⟨p0, p1, by simp, hJ8, (by repeat (first | with_reducible exact Within.refl _ | with_reducible assumption | with_reducible refine Within.alloc ?_ _ | with_reducible refine Within.drew ?_ | with_reducible refine Within.drewN ?_ _ | with_reducible refine Within.setCell ?_ (by first | (simp; done) | (simp; omega)) _ | with_reducible refine Within.trans ?_ (by assumption)))⟩ ?_
  rintro w0 ⟨c0, c1, lb, hI, hw0⟩
  try simp only [Act.put, List.setIfInBounds_toArray, List.set_cons_zero, List.set_cons_succ]
  apply sch_firm rfl rfl (by repeat (first | with_reducible exact Within.refl _ | with_reducible assumption | with_reducible refine Within.alloc ?_ _ | with_reducible refine Within.drew ?_ | with_reducible refine Within.drewN ?_ _ | with_reducible refine Within.setCell ?_ (by first | (simp; done) | (simp; omega)) _ | with_reducible refine Within.trans ?_ (by assumption)))
  · intro wq hq
    have hcq := hq.cells
    clear hq
    go_simp
    first | rfl | (trace_state; fail)
  try simp only [Act.put, List.setIfInBounds_toArray, List.set_cons_zero, List.set_cons_succ]
  apply sch_firm rfl rfl (by repeat (first | with_reducible exact Within.refl _ | with_reducible assumption | with_reducible refine Within.alloc ?_ _ | with_reducible refine Within.drew ?_ | with_reducible refine Within.drewN ?_ _ | with_reducible refine Within.setCell ?_ (by first | (simp; done) | (simp; omega)) _ | with_reducible refine Within.trans ?_ (by assumption)))
  · intro wq hq
    have hcq := hq.cells
    clear hq
    go_simp
    first | rfl | (trace_state; fail)
  try simp only [Act.put, List.setIfInBounds_toArray, List.set_cons_zero, List.set_cons_succ]
  refine sch_one rfl rfl (fun K hK => ?_)
  go_simp
  refine (UX.out _).mono ?_; rintro f1 u1 ⟨rfl, jb1⟩
  refine hK _ _ (fun _ => (by repeat (first | with_reducible exact Within.refl _ | with_reducible assumption | with_reducible refine Within.alloc ?_ _ | with_reducible refine Within.drew ?_ | with_reducible refine Within.drewN ?_ _ | with_reducible refine Within.setCell ?_ (by first | (simp; done) | (simp; omega)) _ | with_reducible refine Within.trans ?_ (by assumption)))) ?_
  clear hK K
  try simp only [Act.put, List.setIfInBounds_toArray, List.set_cons_zero, List.set_cons_succ]
  refine sch_one rfl rfl (fun K hK => ?_)
  go_simp
  refine (OU.out _).mono ?_; rintro f2 u2 ⟨g9, n9, E9, rfl, hI9, a9, b9, hv9, jb2⟩
  have l9 : (dg n9.natAbs).length ≤ 80 := Nat.le_trans (val_len n9 E9 1074) (by rw [hv9]; exact whole_len _)
  refine hK _ _ (fun _ => (by repeat (first | with_reducible exact Within.refl _ | with_reducible assumption | with_reducible refine Within.alloc ?_ _ | with_reducible refine Within.drew ?_ | with_reducible refine Within.drewN ?_ _ | with_reducible refine Within.setCell ?_ (by first | (simp; done) | (simp; omega)) _ | with_reducible refine Within.trans ?_ (by assumption)))) ?_
  clear hK K
  try simp only [Act.put, List.setIfInBounds_toArray, List.set_cons_zero, List.set_cons_succ]
  refine sch_one rfl rfl (fun K hK => ?_)
  go_simp
  have CM := Lib.hid (fun w k1 k2 => Xcmp (n7.natAbs : Int) n9 E7 E9 g8 g9 1074 1100 (by decide) (by decide) a7 b7 a9 b9 (Nat.le_trans L7.out (by decide)) (Nat.le_trans l9 (by decide)) w k1 k2)
  rw [hv9, HV8.out, FAR.out] at CM
  refine (CM.out _ (IntB.of hI (by repeat (first | with_reducible exact Within.refl _ | with_reducible assumption | with_reducible refine Within.alloc ?_ _ | with_reducible refine Within.drew ?_ | with_reducible refine Within.drewN ?_ _ | with_reducible refine Within.setCell ?_ (by first | (simp; done) | (simp; omega)) _ | with_reducible refine Within.trans ?_ (by assumption)))) (IntB.of hI9 (by repeat (first | with_reducible exact Within.refl _ | with_reducible assumption | with_reducible refine Within.alloc ?_ _ | with_reducible refine Within.drew ?_ | with_reducible refine Within.drewN ?_ _ | with_reducible refine Within.setCell ?_ (by first | (simp; done) | (simp; omega)) _ | with_reducible refine Within.trans ?_ (by assumption))))).mono ?_; rintro f3 u3 ⟨rfl, jb3⟩
  refine hK _ _ (fun _ => (by repeat (first | with_reducible exact Within.refl _ | with_reducible assumption | with_reducible refine Within.alloc ?_ _ | with_reducible refine Within.drew ?_ | with_reducible refine Within.drewN ?_ _ | with_reducible refine Within.setCell ?_ (by first | (simp; done) | (simp; omega)) _ | with_reducible refine Within.trans ?_ (by assumption)))) ?_
  clear hK K
  try simp only [Act.put, List.setIfInBounds_toArray, List.set_cons_zero, List.set_cons_succ]
  apply sch_firm rfl rfl (by repeat (first | with_reducible exact Within.refl _ | with_reducible assumption | with_reducible refine Within.alloc ?_ _ | with_reducible refine Within.drew ?_ | with_reducible refine Within.drewN ?_ _ | with_reducible refine Within.setCell ?_ (by first | (simp; done) | (simp; omega)) _ | with_reducible refine Within.trans ?_ (by assumption)))
  · intro wq hq
    have hcq := hq.cells
    clear hq
    go_simp
    first | rfl | (trace_state; fail)
  try simp only [Act.put, List.setIfInBounds_toArray, List.set_cons_zero, List.set_cons_succ]
  apply sch_firm rfl rfl (by repeat (first | with_reducible exact Within.refl _ | with_reducible assumption | with_reducible refine Within.alloc ?_ _ | with_reducible refine Within.drew ?_ | with_reducible refine Within.drewN ?_ _ | with_reducible refine Within.setCell ?_ (by first | (simp; done) | (simp; omega)) _ | with_reducible refine Within.trans ?_ (by assumption)))
  · intro wq hq
    have hcq := hq.cells
    clear hq
    go_simp
    first | rfl | (trace_state; fail)
  try simp only [Act.put, List.setIfInBounds_toArray, List.set_cons_zero, List.set_cons_succ]
  apply sch_want rfl (by first | rfl | decide | (simp [Region.wanted, yielded]; done) | (simp [Region.wanted, yielded]; assumption)) (by repeat (first | with_reducible exact Within.refl _ | with_reducible assumption | with_reducible refine Within.alloc ?_ _ | with_reducible refine Within.drew ?_ | with_reducible refine Within.drewN ?_ _ | with_reducible refine Within.setCell ?_ (by first | (simp; done) | (simp; omega)) _ | with_reducible refine Within.trans ?_ (by assumption)))
  · intro wq hq
    have hcq := hq.cells
    clear hq
    go_simp
    first | rfl | (trace_state; fail)
  try simp only [Act.put, List.setIfInBounds_toArray, List.set_cons_zero, List.set_cons_succ]
  apply sch_want rfl (by first | rfl | decide | (simp [Region.wanted, yielded]; done) | (simp [Region.wanted, yielded]; assumption)) (by repeat (first | with_reducible exact Within.refl _ | with_reducible assumption | with_reducible refine Within.alloc ?_ _ | with_reducible refine Within.drew ?_ | with_reducible refine Within.drewN ?_ _ | with_reducible refine Within.setCell ?_ (by first | (simp; done) | (simp; omega)) _ | with_reducible refine Within.trans ?_ (by assumption)))
  · intro wq hq
    have hcq := hq.cells
    clear hq
    go_simp
    first | rfl | (trace_state; fail)
  try simp only [Act.put, List.setIfInBounds_toArray, List.set_cons_zero, List.set_cons_succ]
  apply sch_want rfl (by first | rfl | decide | (simp [Region.wanted, yielded]; done) | (simp [Region.wanted, yielded]; assumption)) (by repeat (first | with_reducible exact Within.refl _ | with_reducible assumption | with_reducible refine Within.alloc ?_ _ | with_reducible refine Within.drew ?_ | with_reducible refine Within.drewN ?_ _ | with_reducible refine Within.setCell ?_ (by first | (simp; done) | (simp; omega)) _ | with_reducible refine Within.trans ?_ (by assumption)))
  · intro wq hq
    have hcq := hq.cells
    clear hq
    go_simp
    first | rfl | (trace_state; fail)
  try simp only [Act.put, List.setIfInBounds_toArray, List.set_cons_zero, List.set_cons_succ]
  apply sch_want rfl (by first | rfl | decide | (simp [Region.wanted, yielded]; done) | (simp [Region.wanted, yielded]; assumption)) (by repeat (first | with_reducible exact Within.refl _ | with_reducible assumption | with_reducible refine Within.alloc ?_ _ | with_reducible refine Within.drew ?_ | with_reducible refine Within.drewN ?_ _ | with_reducible refine Within.setCell ?_ (by first | (simp; done) | (simp; omega)) _ | with_reducible refine Within.trans ?_ (by assumption)))
  · intro wq hq
    have hcq := hq.cells
    clear hq
    go_simp
    first | rfl | (trace_state; fail)
  try simp only [Act.put, List.setIfInBounds_toArray, List.set_cons_zero, List.set_cons_succ]
  apply sch_want rfl (by first | rfl | decide | (simp [Region.wanted, yielded]; done) | (simp [Region.wanted, yielded]; assumption)) (by repeat (first | with_reducible exact Within.refl _ | with_reducible assumption | with_reducible refine Within.alloc ?_ _ | with_reducible refine Within.drew ?_ | with_reducible refine Within.drewN ?_ _ | with_reducible refine Within.setCell ?_ (by first | (simp; done) | (simp; omega)) _ | with_reducible refine Within.trans ?_ (by assumption)))
  · intro wq hq
    have hcq := hq.cells
    clear hq
    go_simp
    first | rfl | (trace_state; fail)
  try simp only [Act.put, List.setIfInBounds_toArray, List.set_cons_zero, List.set_cons_succ]
  apply sch_firm rfl rfl (by repeat (first | with_reducible exact Within.refl _ | with_reducible assumption | with_reducible refine Within.alloc ?_ _ | with_reducible refine Within.drew ?_ | with_reducible refine Within.drewN ?_ _ | with_reducible refine Within.setCell ?_ (by first | (simp; done) | (simp; omega)) _ | with_reducible refine Within.trans ?_ (by assumption)))
  · intro wq hq
    have hcq := hq.cells
    clear hq
    go_simp
    first | rfl | (trace_state; fail)
  try simp only [Act.put, List.setIfInBounds_toArray, List.set_cons_zero, List.set_cons_succ]
  apply sch_firm rfl rfl (by repeat (first | with_reducible exact Within.refl _ | with_reducible assumption | with_reducible refine Within.alloc ?_ _ | with_reducible refine Within.drew ?_ | with_reducible refine Within.drewN ?_ _ | with_reducible refine Within.setCell ?_ (by first | (simp; done) | (simp; omega)) _ | with_reducible refine Within.trans ?_ (by assumption)))
  · intro wq hq
    have hcq := hq.cells
    clear hq
    go_simp
    first | rfl | (trace_state; fail)
  try simp only [Act.put, List.setIfInBounds_toArray, List.set_cons_zero, List.set_cons_succ]
  apply sch_want rfl (by first | rfl | decide | (simp [Region.wanted, yielded]; done) | (simp [Region.wanted, yielded]; assumption)) (by repeat (first | with_reducible exact Within.refl _ | with_reducible assumption | with_reducible refine Within.alloc ?_ _ | with_reducible refine Within.drew ?_ | with_reducible refine Within.drewN ?_ _ | with_reducible refine Within.setCell ?_ (by first | (simp; done) | (simp; omega)) _ | with_reducible refine Within.trans ?_ (by assumption)))
  · intro wq hq
    have hcq := hq.cells
    clear hq
    go_simp
    first | rfl | (trace_state; fail)
  try simp only [Act.put, List.setIfInBounds_toArray, List.set_cons_zero, List.set_cons_succ]
  apply sch_want rfl (by first | rfl | decide | (simp [Region.wanted, yielded]; done) | (simp [Region.wanted, yielded]; assumption)) (by repeat (first | with_reducible exact Within.refl _ | with_reducible assumption | with_reducible refine Within.alloc ?_ _ | with_reducible refine Within.drew ?_ | with_reducible refine Within.drewN ?_ _ | with_reducible refine Within.setCell ?_ (by first | (simp; done) | (simp; omega)) _ | with_reducible refine Within.trans ?_ (by assumption)))
  · intro wq hq
    have hcq := hq.cells
    clear hq
    go_simp
    first | rfl | (trace_state; fail)
  try simp only [Act.put, List.setIfInBounds_toArray, List.set_cons_zero, List.set_cons_succ]
  apply sch_firm rfl rfl (by repeat (first | with_reducible exact Within.refl _ | with_reducible assumption | with_reducible refine Within.alloc ?_ _ | with_reducible refine Within.drew ?_ | with_reducible refine Within.drewN ?_ _ | with_reducible refine Within.setCell ?_ (by first | (simp; done) | (simp; omega)) _ | with_reducible refine Within.trans ?_ (by assumption)))
  · intro wq hq
    have hcq := hq.cells
    clear hq
    go_simp
    first | rfl | (trace_state; fail)
  try simp only [Act.put, List.setIfInBounds_toArray, List.set_cons_zero, List.set_cons_succ]
  refine sch_one rfl rfl (fun K hK => ?_)
  go_simp
  refine hK _ _ (fun h => absurd h (by decide)) ?_
  clear hK K
  try simp only [Act.put, List.setIfInBounds_toArray, List.set_cons_zero, List.set_cons_succ]
  refine sch_nil ?_
  go_wp2
  go_ret
  exact ⟨rfl, Within.trans hW8 (Within.trans hw0 (by repeat (first | with_reducible exact Within.refl _ | with_reducible assumption | with_reducible refine Within.alloc ?_ _ | with_reducible refine Within.drew ?_ | with_reducible refine Within.drewN ?_ _ | with_reducible refine Within.setCell ?_ (by first | (simp; done) | (simp; omega)) _ | with_reducible refine Within.trans ?_ (by assumption))))⟩
theorem great_walk (A : Option Addr) (c : Nat) (x : List Nat) (hwx : Words64 x) (hlx : x.length * 8 ≤ 140737488355328) (w : World) (hT : Tab w) (hrx : SlAt w A (u64v x)) : Calls Tryz.prog 9 #[.slice A x.length c] w fun e w' => e = .returned (.bool true) ∧ Within w w' := by
  cases h1 : isB x
  · exact great_bad A c x hwx hlx h1 w hT hrx
  · by_cases h2 : (compR x).2 = 0
    · by_cases h3 : x.length = 0
      · exact great_nil A c x hwx hlx h1 h2 h3 w hT hrx
      · exact great_main A c x hwx hlx h1 h2 h3 w hT hrx
    · exact great_over A c x hwx hlx h1 h2 w hT hrx
end Go.Proofs.YtjmaggfddinbkaaGreatDoor
end

section
namespace Go.Proofs.YtjmaggfddinbkaaGreatDoor.Base
open Go.ChangeShapes Go.WideShapes Go.ChangeAt Go.RowKit
theorem own : ownKnob Tryz.prog.godebug = none := by kernel_rfl
theorem gTab : Tryz.prog.globalNamed "math/bits.deBruijn64tab" = some 2 := by kernel_rfl
theorem gTabType : (Tryz.prog.globals[2]?).map (·.type) = some 174 := by kernel_rfl
theorem cellsT : Tryz.prog.cellsOf 174 = 64 := by kernel_rfl
theorem cellsB : Tryz.prog.cellsOf 5 = 1 := by kernel_rfl
theorem tab {W : World} (h : laidMetH Tryz.prog [("math/bits.deBruijn64tab", Rows.laid_math_bits_deBruijn64tab)] W) : Tab W := fun j hj => by
  have e := (Lib.tabIs_of_head (zs := Lib.deBruijn64tab.map Int.ofNat) (rest := []) gTab gTabType Tryz.underlying174 Tryz.underlying5 cellsB cellsT h).cell gTab j (by simpa [Lib.deBruijn64tab] using hj)
  rw [e]
  congr 2
  have hl : j < Lib.deBruijn64tab.length := hj
  simp [List.getD, List.getElem?_map, List.getElem?_eq_getElem hl]
noncomputable def laidWorld (os : Os) : World :=
  { World.holding Tryz.prog os ⟨#[], #[], []⟩ with heap := (World.holding Tryz.prog os ⟨#[], #[], []⟩).heap.modify 2 fun
      | .cells _ t frozen => .cells #[.int .u8 0, .int .u8 1, .int .u8 56, .int .u8 2, .int .u8 57, .int .u8 49, .int .u8 28, .int .u8 3, .int .u8 61, .int .u8 58, .int .u8 42, .int .u8 50, .int .u8 38, .int .u8 29, .int .u8 17, .int .u8 4, .int .u8 62, .int .u8 47, .int .u8 59, .int .u8 36, .int .u8 45, .int .u8 43, .int .u8 51, .int .u8 22, .int .u8 53, .int .u8 39, .int .u8 33, .int .u8 30, .int .u8 24, .int .u8 18, .int .u8 12, .int .u8 5, .int .u8 63, .int .u8 55, .int .u8 48, .int .u8 27, .int .u8 60, .int .u8 41, .int .u8 37, .int .u8 16, .int .u8 46, .int .u8 35, .int .u8 44, .int .u8 21, .int .u8 52, .int .u8 32, .int .u8 23, .int .u8 11, .int .u8 54, .int .u8 26, .int .u8 40, .int .u8 15, .int .u8 34, .int .u8 20, .int .u8 31, .int .u8 10, .int .u8 25, .int .u8 14, .int .u8 19, .int .u8 9, .int .u8 13, .int .u8 8, .int .u8 7, .int .u8 6] t frozen
      | o => o }
end Go.Proofs.YtjmaggfddinbkaaGreatDoor.Base
end

section
namespace Go.Proofs.YtjmaggfddinbkaaGreatDoor.Base
open Go.ChangeShapes Go.WideShapes Go.ChangeAt Go.RowKit
theorem laidOut : laidOutB Tryz.prog = true := by kernel_rfl
section
variable {H : Type} {enc : TypeId × Value → H} {W : World}
theorem open_ns {t e : TypeId} {k : IntKind} {y : Nat} (ht : Tryz.prog.underlying t = some (.slice e)) (he : Tryz.prog.underlying e = some (.int k)) (hc : Tryz.prog.cellsOf e = 1) (hy : Tryz.prog.bytesOf e = y) {fuel : Nat} {v : Value} {x : DataW H × List MemPlace}
    (h : DataW.trod enc Tryz.prog W 0 (fun _ => true) true fuel t [v] = some x) (hz : ∀ n ∈ x.1.weights Tryz.prog t, n ≤ reachBytes) :
    ∃ (a0 : Option Addr) (cap : Nat) (zs : List Int), v = .slice a0 zs.length cap ∧ zs.length ≤ cap ∧ zs.length * y ≤ reachBytes ∧ (∀ n ∈ zs, (Lit.int k n).wf = true) ∧ SlAt W a0 (zs.map (Value.int k)) := by
  rcases open_ints ht he hc h with ⟨hcs, hx⟩ | ⟨a, len, cap, zs, hcs, _, hl, hm, hzl, hx, hcell, hwz⟩
  · simp at hcs
    exact ⟨none, 0, [], hcs, Nat.le_refl _, by simp, (fun n hn => absurd hn (by simp)), SlAt.nil⟩
  · simp at hcs
    simp only [if_true] at hzl
    subst hx
    have hlen : (zs.take len).length = len := by rw [List.length_take]; omega
    refine ⟨some a, cap, zs.take len, by rw [hlen]; exact hcs, by rw [hlen]; exact hl, ?_, fun n hn => hwz n (List.mem_of_mem_take hn), fun hn => ?_⟩
    · have hw := hz (cap * y) (by
        rw [DataW.weights, ht]
        refine List.mem_cons.2 (.inl ?_)
        rw [hy, show (lits (H := H) k (zs.take len)).length + (lits (H := H) k (zs.drop len)).length = cap by
          unfold lits; rw [List.length_map, List.length_map, List.length_take, List.length_drop]; omega])
      rw [hlen]
      exact Nat.le_trans (Nat.mul_le_mul_right _ hl) hw
    · rw [List.length_map, hlen] at hn
      have h0 := hcell 0 (by omega)
      refine ⟨a, rfl, by have := World.block_lt_of_cell? _ _ h0; rwa [add_block] at this, fun j u hu => ?_⟩
      rw [List.getElem?_map, Option.map_eq_some_iff] at hu
      obtain ⟨z, hz1, rfl⟩ := hu
      obtain ⟨hj, hz2⟩ := List.getElem?_eq_some_iff.1 hz1
      rw [hlen] at hj
      rw [hcell j (by omega)]
      rw [List.getElem_take] at hz2
      simp [List.getD, List.getElem?_eq_getElem (show j < zs.length by omega), hz2]
theorem nats_of {k : IntKind} {m : Nat} (hk : ∀ n : Int, (Lit.int k n).wf = true → 0 ≤ n ∧ n < m) {zs : List Int} (h : ∀ n ∈ zs, (Lit.int k n).wf = true) : ∃ l : List Nat, zs = l.map (fun (x : Nat) => (x : Int)) ∧ ∀ x ∈ l, x < m := by
  refine ⟨zs.map Int.toNat, ?_, fun x hx => ?_⟩
  · rw [List.map_map]
    conv => lhs; rw [← List.map_id zs]
    refine List.map_congr_left fun n hn => ?_
    have := (hk n (h n hn)).1
    simp only [id, Function.comp]; omega
  · obtain ⟨n, hn, rfl⟩ := List.mem_map.1 hx
    have := hk n (h n hn)
    omega
theorem wf_u64 (n : Int) (h : (Lit.int .u64 n).wf = true) : 0 ≤ n ∧ n < (18446744073709551616 : Nat) := by
  simp only [Lit.wf, Bool.and_eq_true, decide_eq_true_eq] at h
  have h1 : (0 : Int) ≤ n := h.1
  have h2 : n ≤ 18446744073709551615 := h.2
  omega
set_option maxRecDepth 100000 in
theorem open_u64 {fuel : Nat} {v : Value} {x : DataW H × List MemPlace} (h : DataW.trod enc Tryz.prog W 0 (fun _ => true) true fuel 22 [v] = some x) (hz : ∀ n ∈ x.1.weights Tryz.prog 22, n ≤ reachBytes) :
    ∃ (a0 : Option Addr) (cap : Nat) (l : List Nat), v = .slice a0 l.length cap ∧ l.length ≤ cap ∧ l.length * 8 ≤ 140737488355328 ∧ (∀ x ∈ l, x < 18446744073709551616) ∧ SlAt W a0 (u64v l) := by
  obtain ⟨a0, cap, zs, h1, h2, h3, h4, h5⟩ := open_ns (y := 8) Tryz.underlying22 Tryz.underlying23 (by kernel_rfl) (by kernel_rfl) h hz
  obtain ⟨l, rfl, hl⟩ := nats_of wf_u64 h4
  rw [List.length_map] at h1 h2 h3
  refine ⟨a0, cap, l, h1, h2, ?_, hl, ?_⟩
  · have : reachBytes = 140737488351232 := rfl
    omega
  · unfold u64v; rw [List.map_map] at h5; exact h5
set_option maxRecDepth 100000 in
theorem open_words {r : Reach} {b0 : Nat} {v : Value} {d : DataW H} {p : List MemPlace} (hv : Value.okWide Tryz.prog W r b0 22 v) (h : DataW.Trod enc Tryz.prog W 0 (fun _ => true) true 22 v d p) (hz : ∀ n ∈ d.weights Tryz.prog 22, n ≤ reachBytes) :
    ∃ (a0 : Option Addr) (cap : Nat) (l : List Nat), v = .slice a0 l.length cap ∧ l.length ≤ cap ∧ l.length * 8 ≤ 140737488355328 ∧ Words64 l ∧ SlAt W a0 (u64v l) := by
  obtain ⟨a, len, cap, rfl⟩ := okWide_slice Tryz.underlying22 hv
  obtain ⟨fuel, hf⟩ := h
  exact open_u64 (x := (d, p)) (by simpa [Value.cells] using hf) hz
theorem wt_of {ts : List TypeId} {ds : List (DataW H)} (h : (DataW.weightsEach Tryz.prog ts ds).all (· ≤ reachBytes) = true) {j : Nat} {t : TypeId} {d : DataW H} (ht : ts[j]? = some t) (hd : ds[j]? = some d) : ∀ n ∈ d.weights Tryz.prog t, n ≤ reachBytes :=
  fun n hn => of_decide_eq_true (List.all_eq_true.1 h n (DataW.weights_mem_each ht hd n hn))
end
end Go.Proofs.YtjmaggfddinbkaaGreatDoor.Base
end

section
namespace Go.Proofs.YtjmaggfddinbkaaGreatDoor.eftGreatest
open Go.ChangeShapes Go.WideShapes Go.ChangeAt Go.RowKit
set_option maxRecDepth 100000 in
theorem contract (H : Type) (enc : TypeId × Value → H) (W : World) (base : Nat) (args : Array Value) (ds gs : List (DataW H)) (before : List MemPlace)
    (hval : ∀ (j : Nat) t v, Tryz.f9.params[j]? = some t → args[j]? = some v → Value.okWide Tryz.prog W .any base t v)
    (hW : DataW.Whole enc Tryz.prog Tryz.f9.params.toList Rows.eftGreatestSpec.vars false W args.toList ds gs before)
    (hsz : (DataW.weightsEach Tryz.prog (Tryz.f9.params.toList ++ (OpenSpec.ofChange Rows.eftGreatestSpec).bare.plain.varTypes Tryz.prog) (ds ++ gs)).all (· ≤ reachBytes) = true) (hL : laidMetH Tryz.prog Rows.eftGreatestRow.laid W) :
    Calls Tryz.prog 9 args W fun e W' => ∃ v, e = .returned v ∧ Rows.eftGreatestSpec.post enc Tryz.prog Tryz.f9 false true false false W args v W' := by
  have hW' := hW
  obtain ⟨p, q, hA0, hV, rfl, hfz, hnd⟩ := hW
  have hA : DataW.TrodAll enc Tryz.prog W 0 (fun _ => true) true Tryz.f9.params.toList args.toList ds p := hA0
  rw [Tryz.params9] at hA hval hsz
  obtain ⟨v0, vs0, d0, ds0, p0, q0, hargs, rfl, rfl, h0, r0⟩ := trodAll_cons hA
  obtain ⟨rfl, rfl, rfl⟩ := trodAll_nil r0
  obtain rfl : args = #[v0] := by cases args; simp_all
  obtain ⟨rfl, rfl⟩ := trodVars_none hV
  obtain ⟨A0, c0, l0, rfl, hc0, hn0, hb0, hm0⟩ := Base.open_words (hval 0 22 v0 rfl rfl) h0 (Base.wt_of hsz (j := 0) rfl rfl)
  clear hA0
  simp only [List.append_nil] at hW'
  have hlt : ∀ x, x ∈ p0 → x.block < W.heap.size := fun x hx => hW'.lt x (by simpa using hx)
  refine (great_walk A0 c0 l0 hb0 hn0 W (Base.tab hL) hm0).mono fun e W' ⟨he, bel⟩ => ?_
  subst he
  exact ⟨_, rfl, _, _, _, [], _, [], hW', trodAll_mk1 (shut_bool Tryz.underlying4 _), (trodAll_cons_mk (Below.trod Base.laidOut (by kernel_rfl) (of_decide_eq_true (by kernel_rfl)) h0 bel (fun x hx => hlt x hx)) trodAll_mk0), rfl, Below.frame bel _, fun h => by cases h⟩
theorem laid_met (os : Os) : laidMet Tryz.prog Rows.eftGreatestRow.laid ((Base.laidWorld os).forCall (fun _ _ => 0) ⟨#[], #[Value.slice none 0 0], []⟩).memory :=
  laidMet_of_run' 8 (by kernel_rfl) (by kernel_rfl)
theorem reads (os : Os) {H : Type} (enc : TypeId × Value → H) : ∃ places, DataW.whole enc Tryz.prog ((Base.laidWorld os).forCall (fun _ _ => 0) ⟨#[], #[Value.slice none 0 0], []⟩).memory Tryz.f9.params.toList Rows.eftGreatestSpec.vars false (#[Value.slice none 0 0] : Array Value).toList 8 = some ([.nil], [], places) :=
  ⟨[], by kernel_rfl⟩
set_option maxRecDepth 100000 in
theorem lifted (os : Os) (started : os.Started) (H : Type) (enc : TypeId × Value → H) (F : Stop.Interp) :
    ReturnsInHanded {} Tryz.checked os 9 .any ((OpenSpec.ofChange Rows.eftGreatestSpec).preRow enc Tryz.prog Tryz.f9 Rows.eftGreatestRow.domain false Rows.eftGreatestRow.laid) (((OpenSpec.ofChange Rows.eftGreatestSpec).at F).post enc Tryz.prog Tryz.f9 false true false false) := by
  obtain ⟨places, hx⟩ := reads os enc
  refine returnsInHanded_of_row (C := Tryz.checked) (s := OpenSpec.ofChange Rows.eftGreatestSpec) Base.own started (by kernel_rfl) Tryz.func9
    (witness_row_at (enc := enc) (C := Tryz.checked) false (Base.laidWorld os) #[Value.slice none 0 0] rfl (by kernel_rfl) (by kernel_rfl) (by kernel_rfl)
      (OpenSpec.preRow_of_cond 8 hx (by kernel_rfl) (fun k hk => by cases hk) (by kernel_rfl) (laid_met os))) ?_
  intro W base args ds gs before hval hW _ _ hsz hL _ _
  exact contract H enc W base args ds gs before hval hW hsz hL
theorem said : Rows.EftGreatestSaid :=
  OpenClaim.holds_of_cond 9 Tryz.f9 rfl rfl rfl rfl rfl rfl rfl ⟨rfl, rfl, rfl, rfl, rfl⟩ rfl rfl rfl rfl rfl (by kernel_rfl) Tryz.func9 (by kernel_rfl)
    (of_decide_eq_true (by kernel_rfl)) (by unfold Func.isWrapper; first | (rw [if_pos (by decide +kernel)]; kernel_rfl) | (rw [if_neg (by decide +kernel)]; exact ⟨rfl, rfl⟩))
    (fun os started H enc _ F => by rw [OpenClaim.pre_eq_preRow]; exact lifted os started H enc F)
theorem plain (f : FuncId) (fn : Func) (hf : Tryz.pinned.checked.prog.funcNamed "binnacle/binnaclelaw04.EftGreatest" = some f) (hfn : Tryz.pinned.checked.prog.funcs[f]? = some fn) :
    false = Tryz.pinned.checked.prog.looks [] ∧ ∀ (j : Nat) t, fn.params[j]? = some t → Tryz.pinned.checked.prog.wantsStandIn t = false := by
  obtain rfl : f = 9 := Option.some.inj ((show Tryz.prog.funcNamed "binnacle/binnaclelaw04.EftGreatest" = some 9 by kernel_rfl).symm.trans hf) |>.symm
  obtain rfl : fn = Tryz.f9 := (Option.some.inj (Tryz.func9.symm.trans hfn)).symm
  refine ⟨by kernel_rfl, fun j t ht => ?_⟩
  rw [Tryz.params9] at ht
  have hm := Array.mem_of_getElem? ht
  have hm' : t = 22 := by simpa using hm
  subst hm'
  exact (show Tryz.prog.wantsStandIn 22 = false by kernel_rfl)
theorem card : Rows.EftGreatestCardSaid :=
  Claim7.holds_tied_plain_at .later [] _ _ _ _ said (fun _ h => by cases h) (by kernel_rfl) (fun _ h => by cases h) eftGreatest_row_tie rfl ⟨rfl, rfl⟩ (by kernel_rfl) rfl plain (by kernel_rfl)
#print axioms card
end Go.Proofs.YtjmaggfddinbkaaGreatDoor.eftGreatest
end
