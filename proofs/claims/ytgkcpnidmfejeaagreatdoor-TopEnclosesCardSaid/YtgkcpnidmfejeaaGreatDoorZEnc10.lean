/- What the law's walk rests on, part 10: contracts of functions and plain facts. -/
import Derived.Test.YtgkcpnidmfejeaaGreatDoorZEnc9
set_option linter.unusedVariables false
set_option linter.unusedSimpArgs false
set_option maxRecDepth 100000
set_option maxHeartbeats 4000000
namespace Go.Proofs.YtgkcpnidmfejeaaGreatDoor
open Go.RowKit
theorem zz18 {p : Prop} (h : p := by
 try simp only [pu]
 refine sch_one rfl rfl (fun K hK => ?_)
 first
  | (obtain ⟨V, hV, hvw⟩ : ∃ V, V = arW .quo xa xb v9 ∧ Within w0 V := ⟨_, rfl, arW_within hv9 _ _ _⟩; rw [← hV]; obtain ⟨x7, hx7⟩ : ∃ x, x = arF .quo xa xb v9 := ⟨_, rfl⟩; rw [← hx7]; have HX := Hh (show x7 < 18446744073709551616 ∧ (fi = true → Fp.un Ieee.double xb ≠ 0 → Fi x7 → FineP x7 l7 h7) from ⟨by rw [hx7]; exact (fv_ar _ _ _ _).2, fun e n g => by rw [hx7] at g ⊢; exact fine_quo (HFI.out e).1 (HFI.out e).2 n HI.out.2 g⟩); clear hx7 hV)
  | (obtain ⟨V, hV, hvw⟩ : ∃ V, V = v9 ∧ Within w0 V := ⟨_, rfl, hv9⟩; rw [← hV]; obtain ⟨x7, hx7⟩ : ∃ x, x = arF .quo xa xb w0.drew := ⟨_, rfl⟩; rw [← hx7]; have HX := Hh (show x7 < 18446744073709551616 ∧ (fi = true → Fp.un Ieee.double xb ≠ 0 → Fi x7 → FineP x7 l7 h7) from ⟨by rw [hx7]; exact (fv_ar _ _ _ _).2, fun e n g => by rw [hx7] at g ⊢; exact fine_quo (HFI.out e).1 (HFI.out e).2 n HI.out.2 g⟩); clear hx7 hV)
 have HS1 := Hh (HS0.out.of hvw)
 obtain ⟨-, -, -, -, -, u7_, -, -⟩ := HS1.out
 obtain ⟨k70, -, -, -, -, -, kf7⟩ := six_cells u7_
 have kf70 := kf7 0
 clear u7_ kf7
 go_simp
 refine hK _ _ ab ?_
 clear hK K
 try simp only [pu]
 refine sch_one rfl rfl (fun K hK => ?_)
 go_simp
 refine hK _ _ ab ?_
 clear hK K
 try simp only [pu]
 refine sch_one rfl rfl (fun K hK => ?_)
 have HS2 := Hh (HS1.out.set0 (.float .f64 x7))
 obtain ⟨-, -, -, -, -, u7_, -, -⟩ := HS2.out
 obtain ⟨-, k71, -, -, -, -, kf7⟩ := six_cells u7_
 obtain ⟨-, -, k72, -, -, -, kg7⟩ := six_cells (six_set1 u7_ (.float .f64 l7))
 have kf71 := kf7 1; have kg72 := kg7 2
 clear u7_ kf7 kg7 k70 kf70
 go_simp
 refine hK _ _ ab ?_
 clear hK K
 try simp only [pu]
 refine sch_nil ?_
 go_wp2_with fail
 go_meet
 exact ⟨x7, l7, h7, ⟨HX.out.1, HI.out.1, HI.out.2, HX.out.2⟩, (HS2.out.set1 _).set2 _⟩) : p := h
theorem val_k4 (c : Code) (hc : bodyTl 6 = c) (w wx : World) (b2 b4 b5 b6 bz b7 : Nat) (xa la ha : Nat) (ra : Option Addr) (ka fa : Bool) (xb lb hb : Nat) (rb : Option Addr) (kb fb : Bool) (kn fi : Bool) (EA : Hid (Ent w xa la ha (.pointer ra) ka fa eB)) (EB : Hid (Ent w xb lb hb (.pointer rb) kb fb eB)) (HKN : Hid (kn = true → ka = true ∧ kb = true ∧ KnownP w (.pointer ra) la ha eM ∧ KnownP w (.pointer rb) lb hb eM)) (HFI : Hid (fi = true → FineP xa la ha ∧ FineP xb lb hb)) (HT : Hid (Tab w)) (HT2 : Hid (Tab32 w)) (hS : StW w wx b2 b4 b5 b6 bz b7 4 xa la ha ra ka fa xb lb hb rb kb fb (.float .f64 0) (.float .f64 0) (.float .f64 0) (.pointer (some ⟨bz, 0, none⟩)) (.bool kn) (.bool fi)) (T : Nat → Value) : Code.wp Tryz.prog c (bodyPost Tryz.prog Tryz.f7 (StP w)) (TMt T b2 b4 b5 b6 b7) wx := by
 obtain ⟨F7, hF7⟩ : ∃ F, F = Tryz.f7 := ⟨_, rfl⟩
 rw [← hF7]
 subst hc
 simp only [bodyTl, Nat.repeat, Tryz.f7, cTl, Option.getD]
 subst hF7
 unfold TMt
 have HS := Hh hS; clear hS
 have hquo := fun t x y w => run_ar .quo (.inr (.inr (.inr rfl))) t x y Tryz.prog w
 have IC := Hh (fun w hT => iDiv la ha lb hb EA.out.2.1 EB.out.2.1 w hT)
 obtain ⟨u2_, u4_, u5_, u6_, uz_, u7_, uw, un_⟩ := HS.out
 have s5 := heap_lt u5_; have s6 := heap_lt u6_; have s7 := heap_lt u7_; have s2 := World.block_lt_of_cell? _ _ u2_; have s4 := heap_lt u4_
 clear u4_ u5_ u6_ u7_ uz_ un_
 go_upto_block 0 with fail
 go_cut [] from 94 to 242 (fun wx => R35 w wx b2 b4 b5 b6 bz b7 4 xa la ha ra ka fa xb lb hb rb kb fb)
 case first =>
  go_upto_region 26 with fail
  clear s2 s4 s5 s6 s7 u2_ uw
  go_cut [] from 186 to 197 (fun wx => ∃ x7 l7 h7, (x7 < 18446744073709551616 ∧ Iv l7 h7 ∧ (∀ e, DivS la ha lb hb e → Holds l7 h7 e) ∧ (fi = true → Fp.un Ieee.double xb ≠ 0 → Fi x7 → FineP x7 l7 h7)) ∧ StW w wx b2 b4 b5 b6 bz b7 4 xa la ha ra ka fa xb lb hb rb kb fb (.float .f64 x7) (.float .f64 l7) (.float .f64 h7) (.pointer (some ⟨bz, 0, none⟩)) (.bool kn) (.bool fi))
  case first =>
   refine wp_region_schG (fun W => StW w W b2 b4 b5 b6 bz b7 4 xa la ha ra ka fa xb lb hb rb kb fb (.float .f64 0) (.float .f64 0) (.float .f64 0) (.pointer (some ⟨bz, 0, none⟩)) (.bool kn) (.bool fi)) 11 (.firm 0 (.firm 1 (.firm 2 (.firm 3 (.firm 5 (.firm 6 (.firm 7 (.firm 8 (.two 4 (.firm 10 (.one 9 (.one 11 (.one 12 (.one 13 .nil))))) 9 (.one 4 (.firm 10 (.one 11 (.one 12 (.one 13 .nil)))))))))))))) kr kr HS.out ?_
   rintro w0 hS0
   have HS0 := Hh hS0
   obtain ⟨u2_, u4_, u5_, u6_, uz_, u7_, uw, un_⟩ := hS0
   obtain ⟨t50, t51, t52, -, -, -, tf5⟩ := six_cells u5_
   obtain ⟨t60, t61, t62, -, -, -, tf6⟩ := six_cells u6_
   have s5 := heap_lt u5_; have s6 := heap_lt u6_; have s7 := heap_lt u7_; have s2 := World.block_lt_of_cell? _ _ u2_; have s4 := heap_lt u4_
   clear u2_ tf5 tf6 s2 s4
   clear u4_ u5_ u6_ u7_ uz_ un_
   try simp only [pu]
   iterate 8
    apply sch_firm rfl rfl wa
    ·intro wq hq
     have hcq := hq.cells
     clear hq
     go_simp
     rfl
    try simp only [pu]
   refine sch_two rfl rfl rfl rfl (fun K hK => ?_) (fun K hK => ?_)
   ·go_simp
    refine hK _ _ wa ?_
    clear hK K
    try simp only [pu]
    apply sch_firm rfl rfl wa
    ·intro wq hq
     have hcq := hq.cells
     clear hq
     go_simp
     rfl
    try simp only [pu]
    refine sch_one rfl rfl (fun K hK => ?_)
    go_simp
    refine (IC.out _ (HT.out.of wa)).mono ?_; rintro r9 v9 ⟨l7, h7, rfl, hi7, hh7, hb9⟩
    have hv9 : Within w0 v9 := Within.trans wa hb9
    have HI := Hh (And.intro hi7 hh7)
    clear hi7 hh7
    refine hK _ _ (fun _ => wa) ?_
    clear hK K
    exact zz18
   ·go_simp
    refine (IC.out _ (HT.out.of wa)).mono ?_; rintro r9 v9 ⟨l7, h7, rfl, hi7, hh7, hb9⟩
    have hv9 : Within w0 v9 := Within.trans wa hb9
    have HI := Hh (And.intro hi7 hh7)
    clear hi7 hh7
    refine hK _ _ wa ?_
    clear hK K
    try simp only [pu]
    refine sch_one rfl rfl (fun K hK => ?_)
    go_simp
    refine hK _ _ (fun _ => wa) ?_
    clear hK K
    try simp only [pu]
    apply sch_firm rfl rfl wa
    ·intro wq hq
     have hcq := hq.cells
     clear hq
     go_simp
     rfl
    exact zz18
  case rest =>
  obtain ⟨x7, l7, h7, hX, hS1⟩ := hcut
  have HX := Hh hX; have HS1 := Hh hS1
  clear hX hS1 HS hquo IC
  go_upto_region 27 with fail
  go_cut [] from 198 to 205 (fun wx => ∃ f2, (f2 = true → fi = true ∧ Fp.un Ieee.double xb ≠ 0) ∧ StW w wx b2 b4 b5 b6 bz b7 4 xa la ha ra ka fa xb lb hb rb kb fb (.float .f64 x7) (.float .f64 l7) (.float .f64 h7) (.pointer (some ⟨bz, 0, none⟩)) (.bool kn) (.bool f2))
  case first =>
   obtain ⟨-, -, -, u6_, -, u7_, -, -⟩ := HS1.out
   obtain ⟨t60, -, -, -, -, -, tf6⟩ := six_cells u6_
   obtain ⟨-, -, -, -, -, t75, tf7⟩ := six_cells u7_
   have tf75 := tf7 5
   have s6 := heap_lt u6_; have s7 := heap_lt u7_
   clear u6_ u7_ tf6 tf7
   cases fi
   ·go_wp2_with fail
    go_meet
    exact ⟨false, fun h => (by cases h), HS1.out.set5 _⟩
   ·have fb := (HFI.out (by trivial)).2.1
    have c1 := c_eq fb.sane.2 (show 0 % 9223372036854775808 ≤ 9218868437227405312 by decide)
    rw [un_zero] at c1
    by_cases h0 : Fp.un Ieee.double xb = 0
    ·have dn : (FloatKind.f64.format.order xb 0 != some .eq) = false := by unfold bne; rw [c1, decide_eq_true h0]; rfl
     clear c1 h0 fb
     go_wp2_with fail
     go_meet
     exact ⟨false, fun h => (by cases h), HS1.out.set5 _⟩
    ·have dn : (FloatKind.f64.format.order xb 0 != some .eq) = true := by unfold bne; rw [c1, decide_eq_false h0]; rfl
     have H0 := Hh h0
     clear c1 h0 fb
     go_wp2_with fail
     go_meet
     exact ⟨true, fun _ => ⟨by trivial, H0.out⟩, HS1.out.set5 _⟩
  case rest =>
  obtain ⟨f2, hf2, hS2⟩ := hcut
  have HF2 := Hh hf2; have HS2 := Hh hS2
  clear hf2 hS2 HS1
  go_upto_region 28 with fail
  go_cut [] from 206 to 214 (fun wx => ∃ k2, (k2 = true → KnownP w (.pointer ra) la ha eM ∧ KnownN w rb lb hb eM) ∧ StW w wx b2 b4 b5 b6 bz b7 4 xa la ha ra ka fa xb lb hb rb kb fb (.float .f64 x7) (.float .f64 l7) (.float .f64 h7) (.pointer (some ⟨bz, 0, none⟩)) (.bool k2) (.bool f2))
  case first =>
   obtain ⟨-, -, -, u6_, -, u7_, uw, -⟩ := HS2.out
   obtain ⟨-, -, -, t63, -, -, tf6⟩ := six_cells u6_
   obtain ⟨-, -, -, -, t74, -, tf7⟩ := six_cells u7_
   have tf74 := tf7 4
   have s6 := heap_lt u6_; have s7 := heap_lt u7_
   clear u6_ u7_ tf6 tf7
   cases kn
   ·go_wp2_with fail
    go_meet
    exact ⟨false, fun h => (by cases h), HS2.out.set4 _⟩
   ·obtain ⟨hka, hkb, hka2, ⟨zb, mb, db, ezb, hdb, hrb, hhb, bmb, bdb⟩⟩ := HKN.out (by trivial)
    injection ezb with ezb
    have HKA := Hh hka2
    have SG := Hh (fun w hx => Rsign zb mb db w hx)
    have HRB := Hh hrb
    have HB := Hh (And.intro ezb (And.intro hdb (And.intro hhb (And.intro bmb bdb))))
    rw [ezb] at t63
    clear hka hkb hka2 hrb hhb bmb bdb hdb ezb
    by_cases h0 : mb = 0
    ·have dn : (mb.sign != 0) = false := by rw [h0]; rfl
     clear h0
     generalize mb.sign = sg at *
     go_wp2_with fail
     refine (SG.out _ (HRB.out.of uw)).mono ?_; rintro r1 w1 ⟨rfl, rfl⟩
     go_wp2_with fail
     go_meet
     exact ⟨false, fun h => (by cases h), HS2.out.set4 _⟩
    ·have dn : (mb.sign != 0) = true := by rw [bne_iff_ne]; intro e; exact h0 (Int.sign_eq_zero_iff_zero.1 e)
     have H0 := Hh h0
     clear h0
     generalize mb.sign = sg at *
     go_wp2_with fail
     refine (SG.out _ (HRB.out.of uw)).mono ?_; rintro r1 w1 ⟨rfl, rfl⟩
     go_wp2_with fail
     go_meet
     exact ⟨true, fun _ => ⟨HKA.out, ⟨zb, mb, db, HB.out.1, HB.out.2.1, HRB.out, HB.out.2.2.1, HB.out.2.2.2.1, HB.out.2.2.2.2, H0.out⟩⟩, HS2.out.set4 _⟩
  case rest =>
  obtain ⟨k2, hk2, hS3⟩ := hcut
  have HK2 := Hh hk2; have HSW := Hh hS3
  clear hk2 hS3 HS2
  cases k2
  ·obtain ⟨u2_, u4_, u5_, u6_, uz_, u7_, uw, un_⟩ := HSW.out
   obtain ⟨-, -, -, t73, t74, -, tf7⟩ := six_cells u7_
   obtain ⟨-, -, -, t53, -, -, tf5⟩ := six_cells u5_
   obtain ⟨-, -, -, t63, -, -, tf6⟩ := six_cells u6_
   have s5 := heap_lt u5_; have s6 := heap_lt u6_; have s7 := heap_lt u7_
   clear u2_ u4_ u5_ u6_ uz_ u7_ un_ tf5 tf6 tf7 t53 t63
   go_wp2_with fail
   go_meet
   exact ⟨x7, l7, h7, false, f2, HX.out.1, HX.out.2.1, fun e g => HX.out.2.2.2 (HF2.out e).1 (HF2.out e).2 g, fun e => (by cases e), HSW.out⟩
  ·obtain ⟨⟨za, ma, da, eza, hda, hra, hha, bma, bda⟩, ⟨zb, mb, db, ezb, hdb, hrb, hhb, bmb, bdb, hmb⟩⟩ := HK2.out (by trivial)
   injection eza with eza
   replace eza := Hh eza; replace ezb := Hh ezb
   have ela : eM ≤ eB := by rw [eM_is, eB_is]; decide
   have lM : 2 * eM + 1 ≤ eB := by rw [eM_is, eB_is]; decide
   have lD : 2 * eM ≤ eB := by rw [eM_is, eB_is]; decide
   have lw : ∀ {n : Nat}, n < 2 ^ eM → (dg n).length ≤ 1000 := fun h => len_5000 (Nat.lt_of_lt_of_le h (Nat.pow_le_pow_right dc ela))
   have RT := Hh (fun w hT hz hx hy => Rquo bz za zb ma da mb db hda hdb (lw bma) (lw bda) (lw bmb) (lw bdb) hmb w hT hz hx hy)
   have RQ := Hh (fun (l7 h7 : Nat) (hS : ∀ e, DivS la ha lb hb e → Holds l7 h7 e) (w0 w' : World) (e : Ending) (hp : RatP w0 bz (frQ ma da / frQ mb db) (ma.natAbs * db) (da * mb.natAbs) e w') => known_of (K := eB) hp (hS _ ⟨_, _, hha, hhb, fun k => hmb ((frQ_eq_zero hdb).1 k), rfl⟩) (two_pow_add bma bdb (Nat.le_refl _) lD) (two_pow_add bda bmb (Nat.le_refl _) lD))
   have HRA := Hh hra; have HRB := Hh hrb
   clear hra hrb hha hhb bma bda bmb bdb ela lM lD lw
   clear hmb hda hdb
   obtain ⟨u2_, u4_, u5_, u6_, uz_, u7_, uw, un_⟩ := HSW.out
   obtain ⟨-, -, -, t73, t74, -, tf7⟩ := six_cells u7_
   obtain ⟨-, -, -, t53, -, -, tf5⟩ := six_cells u5_
   obtain ⟨-, -, -, t63, -, -, tf6⟩ := six_cells u6_
   have s5 := heap_lt u5_; have s6 := heap_lt u6_; have s7 := heap_lt u7_
   rw [eza.out] at t53
   rw [ezb.out] at t63
   have hzB := Hh uz_
   clear u2_ u4_ u5_ u6_ uz_ u7_ un_ tf5 tf6 tf7
   go_upto_region 30 with fail
   go_wp2_with fail
   refine (RT.out _ (HT2.out.of uw) hzB.out (HRA.out.of uw) (HRB.out.of uw)).mono ?_; rintro r16 w16 hp16
   obtain ⟨rfl, hkp, hgr, hty⟩ := RQ.out l7 h7 HX.out.2.2.1 _ _ _ hp16
   have HSX := Hh (HSW.out.grown hty hgr)
   have HKP := Hh hkp
   clear hp16 hkp hgr hty t53 t63 t73 t74 s5 s6 s7 uw
   go_wp2_with fail
   go_meet
   exact ⟨x7, l7, h7, true, f2, HX.out.1, HX.out.2.1, fun e g => HX.out.2.2.2 (HF2.out e).1 (HF2.out e).2 g, fun _ => HKP.out, HSX.out⟩
 case rest =>
 exact zz36
theorem zz88 {p : Prop} (h : p := by
 go_wp2_with fail
 go_meet
 exact ⟨x7, l7, h7, false, false, HX.out.1, HX.out.2.1, fun e => (by cases e), fun e => (by cases e), HS2.out.set5 _⟩) : p := h
theorem val_k5 (c : Code) (hc : bodyTl 6 = c) (w wx : World) (b2 b4 b5 b6 bz b7 : Nat) (xa la ha : Nat) (ra : Option Addr) (ka fa : Bool) (xb lb hb : Nat) (rb : Option Addr) (kb fb : Bool) (kn fi : Bool) (EA : Hid (Ent w xa la ha (.pointer ra) ka fa eB)) (EB : Hid (Ent w xb lb hb (.pointer rb) kb fb eB)) (HKN : Hid (kn = true → ka = true ∧ kb = true ∧ KnownP w (.pointer ra) la ha eM ∧ KnownP w (.pointer rb) lb hb eM)) (HFI : Hid (fi = true → FineP xa la ha ∧ FineP xb lb hb)) (HT : Hid (Tab w)) (HT2 : Hid (Tab32 w)) (hS : StW w wx b2 b4 b5 b6 bz b7 5 xa la ha ra ka fa xb lb hb rb kb fb (.float .f64 0) (.float .f64 0) (.float .f64 0) (.pointer (some ⟨bz, 0, none⟩)) (.bool kn) (.bool fi)) (T : Nat → Value) : Code.wp Tryz.prog c (bodyPost Tryz.prog Tryz.f7 (StP w)) (TMt T b2 b4 b5 b6 b7) wx := by
 obtain ⟨F7, hF7⟩ : ∃ F, F = Tryz.f7 := ⟨_, rfl⟩
 rw [← hF7]
 subst hc
 simp only [bodyTl, Nat.repeat, Tryz.f7, cTl, Option.getD]
 subst hF7
 unfold TMt
 have HS := Hh hS; clear hS
 have SQ := Hh (fun w => m_sqrt_all xa w)
 have IC := Hh (fun w hT => iSqrt la ha EA.out.2.1 w hT)
 obtain ⟨u2_, u4_, u5_, u6_, uz_, u7_, uw, un_⟩ := HS.out
 have s5 := heap_lt u5_; have s6 := heap_lt u6_; have s7 := heap_lt u7_; have s2 := World.block_lt_of_cell? _ _ u2_; have s4 := heap_lt u4_
 clear u4_ u5_ u6_ u7_ uz_ un_
 go_upto_block 0 with fail
 go_cut [] from 94 to 242 (fun wx => R35 w wx b2 b4 b5 b6 bz b7 5 xa la ha ra ka fa xb lb hb rb kb fb)
 case first =>
  go_upto_region 32 with fail
  clear s2 s4 s5 s6 s7 u2_ uw
  go_cut [] from 226 to 233 (fun wx => ∃ x7 l7 h7, (x7 < 18446744073709551616 ∧ Iv l7 h7 ∧ (∀ e, SqS la ha e → Holds l7 h7 e) ∧ (fa = true → 0 ≤ Fp.un Ieee.double xa → Fi x7 → FineP x7 l7 h7)) ∧ StW w wx b2 b4 b5 b6 bz b7 5 xa la ha ra ka fa xb lb hb rb kb fb (.float .f64 x7) (.float .f64 l7) (.float .f64 h7) (.pointer (some ⟨bz, 0, none⟩)) (.bool kn) (.bool fi))
  case first =>
   refine wp_region_schG (fun W => StW w W b2 b4 b5 b6 bz b7 5 xa la ha ra ka fa xb lb hb rb kb fb (.float .f64 0) (.float .f64 0) (.float .f64 0) (.pointer (some ⟨bz, 0, none⟩)) (.bool kn) (.bool fi)) 7 (.firm 0 (.firm 1 (.firm 3 (.firm 4 (.one 2 (.firm 6 (.one 5 (.one 7 (.one 8 (.one 9 .nil)))))))))) kr kr HS.out ?_
   rintro w0 hS0
   have HS0 := Hh hS0
   obtain ⟨u2_, u4_, u5_, u6_, uz_, u7_, uw, un_⟩ := hS0
   obtain ⟨t50, t51, t52, -, -, -, tf5⟩ := six_cells u5_
   have s5 := heap_lt u5_; have s6 := heap_lt u6_; have s7 := heap_lt u7_; have s2 := World.block_lt_of_cell? _ _ u2_; have s4 := heap_lt u4_
   clear u2_ tf5 s2 s4
   clear u4_ u5_ u6_ u7_ uz_ un_
   try simp only [pu]
   iterate 4
    apply sch_firm rfl rfl wi
    ·intro wq hq
     have hcq := hq.cells
     clear hq
     go_simp
     rfl
    try simp only [pu]
   refine sch_one rfl rfl (fun K hK => ?_)
   go_simp
   refine (SQ.out _).mono ?_; rintro r2 v2 ⟨x7, rfl, hx7, hq7, hb2⟩
   have hv2 : Within w0 v2 := (Within.refl w0).drew.trans hb2
   have HXX := Hh (And.intro hx7 hq7)
   clear hx7 hq7
   refine hK _ _ (fun _ => wi) ?_
   clear hK K
   try simp only [pu]
   apply sch_firm rfl rfl wi
   ·intro wq hq
    have hcq := hq.cells
    clear hq
    go_simp
    rfl
   try simp only [pu]
   refine sch_one rfl rfl (fun K hK => ?_)
   go_simp
   refine (IC.out _ (HT.out.of (uw.trans hv2))).mono ?_; rintro r5 V ⟨l7, h7, rfl, hi7, hh7, hb5⟩
   have hvw : Within w0 V := hv2.trans hb5
   have HI := Hh (And.intro hi7 hh7)
   clear hi7 hh7
   refine hK _ _ (fun _ => wi) ?_
   clear hK K
   try simp only [pu]
   refine sch_one rfl rfl (fun K hK => ?_)
   have HS1 := Hh (HS0.out.of hvw)
   obtain ⟨-, -, -, -, -, u7_, -, -⟩ := HS1.out
   obtain ⟨k70, -, -, -, -, -, kf7⟩ := six_cells u7_
   have kf70 := kf7 0
   clear u7_ kf7
   go_simp
   refine hK _ _ ab ?_
   clear hK K
   try simp only [pu]
   refine sch_one rfl rfl (fun K hK => ?_)
   go_simp
   refine hK _ _ ab ?_
   clear hK K
   try simp only [pu]
   refine sch_one rfl rfl (fun K hK => ?_)
   have HS2 := Hh (HS1.out.set0 (.float .f64 x7))
   obtain ⟨-, -, -, -, -, u7_, -, -⟩ := HS2.out
   obtain ⟨-, k71, -, -, -, -, kf7⟩ := six_cells u7_
   obtain ⟨-, -, k72, -, -, -, kg7⟩ := six_cells (six_set1 u7_ (.float .f64 l7))
   have kf71 := kf7 1; have kg72 := kg7 2
   clear u7_ kf7 kg7 k70 kf70
   go_simp
   refine hK _ _ ab ?_
   clear hK K
   try simp only [pu]
   refine sch_nil ?_
   go_wp2_with fail
   go_meet
   exact ⟨x7, l7, h7, ⟨HXX.out.1, HI.out.1, HI.out.2, fun e n g => fine_sqrt (EA.out.2.2.1 e) n HI.out.2 HXX.out.2 g⟩, (HS2.out.set1 _).set2 _⟩
  case rest =>
  obtain ⟨x7, l7, h7, hX, hS1⟩ := hcut
  have HX := Hh hX; have HS1 := Hh hS1
  clear hX hS1 HS SQ IC
  go_upto_region 33 with fail
  have hS2 := HS1.out.set4 (.bool false)
  obtain ⟨-, -, -, -, -, u7_, -, -⟩ := HS1.out
  obtain ⟨-, -, -, -, t74, -, tf7⟩ := six_cells u7_
  have tf74 := tf7 4
  have s7 := heap_lt u7_
  clear u7_ tf7
  obtain ⟨W2, hW2⟩ : ∃ W', W' = wc.setCell ⟨b7, 4, none⟩ (.bool false) := ⟨_, rfl⟩
  rw [← hW2] at hS2
  have HS2 := Hh hS2
  clear hS2
  go_upto_region 34 with fail
  rw [← hW2]
  clear hW2 t74 tf74 s7 HS1
  obtain ⟨-, -, u5_, -, -, u7_, -, -⟩ := HS2.out
  obtain ⟨t50, -, -, -, t54, t55, tf5⟩ := six_cells u5_
  obtain ⟨-, -, -, -, -, t75, tf7⟩ := six_cells u7_
  have tf75 := tf7 5
  have s5 := heap_lt u5_; have s7 := heap_lt u7_
  clear u5_ u7_ tf5 tf7
  cases fa
  ·exact zz88
  ·have fb := (EA.out.2.2.1 (by trivial)).1
   have c1 := c_ge fb.sane.2 (show 0 % 9223372036854775808 ≤ 9218868437227405312 by decide)
   rw [un_zero] at c1
   by_cases h0 : 0 ≤ Fp.un Ieee.double xa
   ·rw [decide_eq_true h0] at c1
    have H0 := Hh h0
    clear h0 fb
    go_wp2_with fail
    go_meet
    exact ⟨x7, l7, h7, false, true, HX.out.1, HX.out.2.1, fun _ g => HX.out.2.2.2 (by trivial) H0.out g, fun e => (by cases e), HS2.out.set5 _⟩
   ·rw [decide_eq_false h0] at c1
    clear h0 fb
    exact zz88
 case rest =>
 exact zz36
theorem val_k6 (c : Code) (hc : bodyTl 6 = c) (w wx : World) (b2 b4 b5 b6 bz b7 : Nat) (xa la ha : Nat) (ra : Option Addr) (ka fa : Bool) (xb lb hb : Nat) (rb : Option Addr) (kb fb : Bool) (kn fi : Bool) (EA : Hid (Ent w xa la ha (.pointer ra) ka fa eB)) (EB : Hid (Ent w xb lb hb (.pointer rb) kb fb eB)) (HKN : Hid (kn = true → ka = true ∧ kb = true ∧ KnownP w (.pointer ra) la ha eM ∧ KnownP w (.pointer rb) lb hb eM)) (HFI : Hid (fi = true → FineP xa la ha ∧ FineP xb lb hb)) (HT : Hid (Tab w)) (HT2 : Hid (Tab32 w)) (hS : StW w wx b2 b4 b5 b6 bz b7 6 xa la ha ra ka fa xb lb hb rb kb fb (.float .f64 0) (.float .f64 0) (.float .f64 0) (.pointer (some ⟨bz, 0, none⟩)) (.bool kn) (.bool fi)) (T : Nat → Value) : Code.wp Tryz.prog c (bodyPost Tryz.prog Tryz.f7 (StP w)) (TMt T b2 b4 b5 b6 b7) wx := by
 obtain ⟨F7, hF7⟩ : ∃ F, F = Tryz.f7 := ⟨_, rfl⟩
 rw [← hF7]
 subst hc
 simp only [bodyTl, Nat.repeat, Tryz.f7, cTl, Option.getD]
 subst hF7
 unfold TMt
 have HS := Hh hS; clear hS
 have SQ := Hh (fun w => m_abs xa EA.out.1 w)
 have IC := Hh (fun w => iAbs la ha EA.out.2.1 w)
 obtain ⟨u2_, u4_, u5_, u6_, uz_, u7_, uw, un_⟩ := HS.out
 have s5 := heap_lt u5_; have s6 := heap_lt u6_; have s7 := heap_lt u7_; have s2 := World.block_lt_of_cell? _ _ u2_; have s4 := heap_lt u4_
 clear u4_ u5_ u6_ u7_ uz_ un_
 go_upto_block 0 with fail
 go_cut [] from 94 to 242 (fun wx => R35 w wx b2 b4 b5 b6 bz b7 6 xa la ha ra ka fa xb lb hb rb kb fb)
 case first =>
  go_upto_region 9 with fail
  clear s2 s4 s5 s6 s7 u2_ uw
  go_cut [] from 94 to 101 (fun wx => ∃ x7 l7 h7, (x7 < 18446744073709551616 ∧ Iv l7 h7 ∧ (∀ e, AbsS la ha e → Holds l7 h7 e) ∧ (fa = true → Fi x7 → FineP x7 l7 h7)) ∧ StW w wx b2 b4 b5 b6 bz b7 6 xa la ha ra ka fa xb lb hb rb kb fb (.float .f64 x7) (.float .f64 l7) (.float .f64 h7) (.pointer (some ⟨bz, 0, none⟩)) (.bool kn) (.bool fi))
  case first =>
   refine wp_region_schG (fun W => StW w W b2 b4 b5 b6 bz b7 6 xa la ha ra ka fa xb lb hb rb kb fb (.float .f64 0) (.float .f64 0) (.float .f64 0) (.pointer (some ⟨bz, 0, none⟩)) (.bool kn) (.bool fi)) 7 (.firm 0 (.firm 1 (.firm 3 (.firm 4 (.one 2 (.firm 6 (.one 5 (.one 7 (.one 8 (.one 9 .nil)))))))))) kr kr HS.out ?_
   rintro w0 hS0
   have HS0 := Hh hS0
   obtain ⟨u2_, u4_, u5_, u6_, uz_, u7_, uw, un_⟩ := hS0
   obtain ⟨t50, t51, t52, -, -, -, tf5⟩ := six_cells u5_
   have s5 := heap_lt u5_; have s6 := heap_lt u6_; have s7 := heap_lt u7_; have s2 := World.block_lt_of_cell? _ _ u2_; have s4 := heap_lt u4_
   clear u2_ tf5 s2 s4
   clear u4_ u5_ u6_ u7_ uz_ un_
   try simp only [pu]
   iterate 4
    apply sch_firm rfl rfl wi
    ·intro wq hq
     have hcq := hq.cells
     clear hq
     go_simp
     rfl
    try simp only [pu]
   refine sch_one rfl rfl (fun K hK => ?_)
   go_simp
   refine (SQ.out _).mono ?_; rintro r2 v2 ⟨rfl, rfl⟩
   have hv2 : Within w0 w0.drew := (Within.refl w0).drew
   obtain ⟨x7, hx7⟩ : ∃ x, x = xa % 9223372036854775808 := ⟨_, rfl⟩
   rw [← hx7]
   have HXX := Hh hx7
   clear hx7
   refine hK _ _ (fun _ => wi) ?_
   clear hK K
   try simp only [pu]
   apply sch_firm rfl rfl wi
   ·intro wq hq
    have hcq := hq.cells
    clear hq
    go_simp
    rfl
   try simp only [pu]
   refine sch_one rfl rfl (fun K hK => ?_)
   go_simp
   refine (IC.out _).mono ?_; rintro r5 V ⟨l7, h7, rfl, hi7, hh7, hb5⟩
   have hvw : Within w0 V := hv2.trans hb5
   have HI := Hh (And.intro hi7 hh7)
   clear hi7 hh7
   refine hK _ _ (fun _ => wi) ?_
   clear hK K
   try simp only [pu]
   refine sch_one rfl rfl (fun K hK => ?_)
   have HS1 := Hh (HS0.out.of hvw)
   obtain ⟨-, -, -, -, -, u7_, -, -⟩ := HS1.out
   obtain ⟨k70, -, -, -, -, -, kf7⟩ := six_cells u7_
   have kf70 := kf7 0
   clear u7_ kf7
   go_simp
   refine hK _ _ ab ?_
   clear hK K
   try simp only [pu]
   refine sch_one rfl rfl (fun K hK => ?_)
   go_simp
   refine hK _ _ ab ?_
   clear hK K
   try simp only [pu]
   refine sch_one rfl rfl (fun K hK => ?_)
   have HS2 := Hh (HS1.out.set0 (.float .f64 x7))
   obtain ⟨-, -, -, -, -, u7_, -, -⟩ := HS2.out
   obtain ⟨-, k71, -, -, -, -, kf7⟩ := six_cells u7_
   obtain ⟨-, -, k72, -, -, -, kg7⟩ := six_cells (six_set1 u7_ (.float .f64 l7))
   have kf71 := kf7 1; have kg72 := kg7 2
   clear u7_ kf7 kg7 k70 kf70
   go_simp
   refine hK _ _ ab ?_
   clear hK K
   try simp only [pu]
   refine sch_nil ?_
   go_wp2_with fail
   go_meet
   exact ⟨x7, l7, h7, ⟨by rw [HXX.out]; omega, HI.out.1, HI.out.2, fun e _ => by rw [HXX.out]; exact fine_abs (EA.out.2.2.1 e) HI.out.2⟩, (HS2.out.set1 _).set2 _⟩
  case rest =>
  obtain ⟨x7, l7, h7, hX, hS1⟩ := hcut
  have HX := Hh hX; have HS1 := Hh hS1
  clear hX hS1 HS SQ IC
  go_upto_region 10 with fail
  go_cut [] from 102 to 107 (fun wx => StW w wx b2 b4 b5 b6 bz b7 6 xa la ha ra ka fa xb lb hb rb kb fb (.float .f64 x7) (.float .f64 l7) (.float .f64 h7) (.pointer (some ⟨bz, 0, none⟩)) (.bool ka) (.bool fa))
  case first =>
   obtain ⟨-, -, u5_, -, -, u7_, -, un_⟩ := HS1.out
   obtain ⟨-, -, -, -, t54, t55, -⟩ := six_cells u5_
   obtain ⟨-, -, -, -, k74, -, kf7⟩ := six_cells u7_
   have kf74 := kf7 4
   have s7 := heap_lt u7_
   have hne : b5 ≠ b7 := Ne.symm un_.2.2.2.2.2.1
   have HS2 := Hh (HS1.out.set4 (.bool ka))
   obtain ⟨-, -, -, -, -, v7_, -, -⟩ := HS2.out
   obtain ⟨-, -, -, -, -, k75, kg7⟩ := six_cells v7_
   have kg75 := kg7 5
   have w54 := (cell_other (w := wc) (i := 4) (v := .bool ka) hne 4).trans t54
   have w55 := (cell_other (w := wc) (i := 4) (v := .bool ka) hne 5).trans t55
   clear u5_ u7_ v7_ kf7 kg7 un_
   refine wp_region_sch (fun W => W.cell? ⟨b5, 4, none⟩ = some (.bool ka) ∧ W.cell? ⟨b5, 5, none⟩ = some (.bool fa)) 7 (.firm 0 (.firm 1 (.firm 2 (.firm 3 (.firm 4 (.one 5 (.firm 6 (.one 7 .nil)))))))) kr kr ⟨t54, t55⟩ ?_
   rintro -
   try simp only [pu]
   iterate 5
    apply sch_firm rfl rfl ⟨t54, t55⟩
    ·intro wq hq
     obtain ⟨q54, q55⟩ := hq
     go_simp
     rfl
    try simp only [pu]
   refine sch_one rfl rfl (fun K hK => ?_)
   go_simp
   refine hK _ _ (fun _ => ⟨w54, w55⟩) ?_
   clear hK K
   try simp only [pu]
   apply sch_firm rfl rfl ⟨w54, w55⟩
   ·intro wq hq
    obtain ⟨q54, q55⟩ := hq
    go_simp
    rfl
   try simp only [pu]
   refine sch_one rfl rfl (fun K hK => ?_)
   go_simp
   refine hK _ _ ab ?_
   clear hK K
   try simp only [pu]
   refine sch_nil ?_
   go_wp2_with fail
   go_meet
   exact (HS2.out.set5 _).of (Within.refl _).drew
  case rest =>
  have HSW := Hh hcut
  clear hcut HS1
  cases ka
  ·obtain ⟨u2_, u4_, u5_, u6_, uz_, u7_, uw, un_⟩ := HSW.out
   obtain ⟨-, -, -, t73, t74, -, tf7⟩ := six_cells u7_
   obtain ⟨-, -, -, t53, -, -, tf5⟩ := six_cells u5_
   have s5 := heap_lt u5_; have s7 := heap_lt u7_
   clear u2_ u4_ u5_ u6_ uz_ u7_ un_ tf5 tf7 t53
   go_wp2_with fail
   go_meet
   exact ⟨x7, l7, h7, false, fa, HX.out.1, HX.out.2.1, fun e g => HX.out.2.2.2 e g, fun e => (by cases e), HSW.out⟩
  ·obtain ⟨za, ma, da, eza, hda, hra, hha, bma, bda⟩ := EA.out.2.2.2 (by trivial)
   injection eza with eza
   replace eza := Hh eza
   have RT := Hh (fun w hz hx => Rabs bz za ma da hda (len_5000 bma) (len_5000 bda) w hz hx)
   have HRA := Hh hra
   have HQ : Hid (∀ (w' : World), RatB w' bz (ma.natAbs : Int) da → KnownP w' (.pointer (some ⟨bz, 0, none⟩)) l7 h7 eB) := Hh (fun w' hr => ⟨bz, _, da, rfl, hda, hr, by rw [frQ_abs hda]; exact HX.out.2.2.1 _ ⟨_, hha, rfl⟩, by rw [Int.natAbs_natCast]; exact bma, bda⟩)
   clear hra hha hda bma bda
   obtain ⟨u2_, u4_, u5_, u6_, uz_, u7_, uw, un_⟩ := HSW.out
   obtain ⟨-, -, -, t73, t74, -, tf7⟩ := six_cells u7_
   obtain ⟨-, -, -, t53, -, -, tf5⟩ := six_cells u5_
   have s5 := heap_lt u5_; have s7 := heap_lt u7_
   rw [eza.out] at t53
   have hzB := Hh uz_
   clear u2_ u4_ u5_ u6_ uz_ u7_ un_ tf5 tf7
   go_upto_region 12 with fail
   go_wp2_with fail
   refine (RT.out _ hzB.out (HRA.out.of uw)).mono ?_; rintro r16 w16 ⟨rfl, hr16, hg16⟩
   have HSX := Hh (HSW.out.grown hr16.ty hg16)
   have HKP := Hh (HQ.out _ hr16)
   clear hr16 hg16 t53 t73 t74 s5 s7 uw
   go_wp2_with fail
   go_meet
   exact ⟨x7, l7, h7, true, fa, HX.out.1, HX.out.2.1, fun e g => HX.out.2.2.2 e g, fun _ => HKP.out, HSX.out⟩
 case rest =>
 exact zz36
theorem val_size (c : Code) (hc : bodyTl 5 = c) (w wx : World) (K : Int) (b2 b4 b5 b6 bz b7 : Nat) (xa la ha : Nat) (ra : Option Addr) (ka fa : Bool) (xb lb hb : Nat) (rb : Option Addr) (kb fb : Bool) (fi : Bool) (EA : Hid (Ent w xa la ha (.pointer ra) ka fa eB)) (EB : Hid (Ent w xb lb hb (.pointer rb) kb fb eB)) (hS : StW w wx b2 b4 b5 b6 bz b7 K xa la ha ra ka fa xb lb hb rb kb fb (.float .f64 0) (.float .f64 0) (.float .f64 0) (.pointer (some ⟨bz, 0, none⟩)) (.bool (ka && kb)) (.bool fi)) (HR : Hid (∀ (kn : Bool) (c6 : Code), bodyTl 6 = c6 → ∀ (wy : World) (T : Nat → Value), (kn = true → ka = true ∧ kb = true ∧ KnownP w (.pointer ra) la ha eM ∧ KnownP w (.pointer rb) lb hb eM) → StW w wy b2 b4 b5 b6 bz b7 K xa la ha ra ka fa xb lb hb rb kb fb (.float .f64 0) (.float .f64 0) (.float .f64 0) (.pointer (some ⟨bz, 0, none⟩)) (.bool kn) (.bool fi) → Code.wp Tryz.prog c6 (bodyPost Tryz.prog Tryz.f7 (StP w)) (TMt T b2 b4 b5 b6 b7) wy)) (T : Nat → Value) : Code.wp Tryz.prog c (bodyPost Tryz.prog Tryz.f7 (StP w)) (TMt T b2 b4 b5 b6 b7) wx := by
 cases hk : (ka && kb) with
 | false =>
  rw [hk] at hS
  exact size_f c hc w wx K b2 b4 b5 b6 bz b7 xa la ha ra ka fa xb lb hb rb kb fb fi  hS (Hh fun c6 h6 wy T hy => HR.out false c6 h6 wy T (fun e => by cases e) hy) T
 | true =>
  rw [hk] at hS
  rw [Bool.and_eq_true] at hk
  obtain ⟨za, ma, da, eza, hda, hra, hha, bma, bda⟩ := EA.out.2.2.2 hk.1
  injection eza with eza
  obtain ⟨zb, mb, db, ezb, hdb, hrb, hhb, bmb, bdb⟩ := EB.out.2.2.2 hk.2
  injection ezb with ezb
  by_cases hg : 2000 < blen ma.natAbs + blen da
  ·exact size_a c hc w wx K b2 b4 b5 b6 bz b7 xa la ha ra ka fa xb lb hb rb kb fb fi za ma da (Hh eza) hda (Hh hra) bma bda hg hS (Hh fun c6 h6 wy T hy => HR.out false c6 h6 wy T (fun e => by cases e) hy) T
  ·by_cases hq : 2000 < blen mb.natAbs + blen db
   ·exact size_b c hc w wx K b2 b4 b5 b6 bz b7 xa la ha ra ka fa xb lb hb rb kb fb fi za ma da (Hh eza) hda (Hh hra) bma bda zb mb db (Hh ezb) hdb (Hh hrb) bmb bdb hg hq hS (Hh fun c6 h6 wy T hy => HR.out false c6 h6 wy T (fun e => by cases e) hy) T
   ·obtain ⟨a1, a2⟩ := small_of (blen_pow ma.natAbs) (blen_pow da) hg
    obtain ⟨c1, c2⟩ := small_of (blen_pow mb.natAbs) (blen_pow db) hq
    exact size_c c hc w wx K b2 b4 b5 b6 bz b7 xa la ha ra ka fa xb lb hb rb kb fb fi za ma da (Hh eza) hda (Hh hra) bma bda zb mb db (Hh ezb) hdb (Hh hrb) bmb bdb hg hq hS (Hh fun c6 h6 wy T hy => HR.out true c6 h6 wy T (fun _ => ⟨hk.1, hk.2, ⟨za, ma, da, by rw [eza], hda, hra, hha, a1, a2⟩, ⟨zb, mb, db, by rw [ezb], hdb, hrb, hhb, c1, c2⟩⟩) hy) T
theorem zz123 {p : Prop} (h : p := by
 rw [hWA]
 have k : Within (w.alloc (.cells #[.int .i64 K, .int .i64 A, .int .i64 B, .int .u64 (X : Int), .int .u64 (Y : Int)] 27)) ((w.alloc (.cells #[.int .i64 K, .int .i64 A, .int .i64 B, .int .u64 (X : Int), .int .u64 (Y : Int)] 27)).alloc (.cells #[.float .f64 0, .float .f64 0, .float .f64 0, .pointer none, .bool false, .bool false] 33)) := (Within.refl _).alloc _
 exact (k.block _ (by simp)).trans (heap_alloc_new w _)) : p := h
theorem zz125 {p : Prop} (h : p := by
 rw [hWA]
 have k := heap_alloc_new (w.alloc (.cells #[.int .i64 K, .int .i64 A, .int .i64 B, .int .u64 (X : Int), .int .u64 (Y : Int)] 27)) (.cells #[.float .f64 0, .float .f64 0, .float .f64 0, .pointer none, .bool false, .bool false] 33)
 rw [show (w.alloc (.cells #[.int .i64 K, .int .i64 A, .int .i64 B, .int .u64 (X : Int), .int .u64 (Y : Int)] 27)).heap.size = w.heap.size + 1 by simp] at k
 exact k) : p := h
theorem val_step (w : World) (K : Int) (dK1 : decide (K < 1) = false) (dK6 : decide (K > 6) = false) (HKD : Hid (K = 1 ∨ K = 2 ∨ K = 3 ∨ K = 4 ∨ K = 5 ∨ K = 6)) (A B : Int) (X Y g n c ia ib : Nat) (xa la ha : Nat) (ra : Option Addr) (ka fa : Bool) (xb lb hb : Nat) (rb : Option Addr) (kb fb : Bool) (z00 : ¬ n = 0) (z0 : ((n : Int) == 0) = false) (hA : (A.tmod (n : Int) + (n : Int)).tmod (n : Int) = (ia : Int)) (wA : IntKind.i64.wrap (A.tmod (n : Int) + (n : Int)) = A.tmod (n : Int) + (n : Int)) (lA : ia < n) (lA' : (ia : Int) < (n : Int)) (hB : (B.tmod (n : Int) + (n : Int)).tmod (n : Int) = (ib : Int)) (wB : IntKind.i64.wrap (B.tmod (n : Int) + (n : Int)) = B.tmod (n : Int) + (n : Int)) (lB : ib < n) (lB' : (ib : Int) < (n : Int)) (EA : Hid (Ent w xa la ha (.pointer ra) ka fa eB)) (EB : Hid (Ent w xb lb hb (.pointer rb) kb fb eB)) (cA : EntAt w g ia xa la ha ra ka fa) (cB : EntAt w g ib xb lb hb rb kb fb) (hT : Tab w) (hT2 : Tab32 w) : Calls Tryz.prog 7 #[.agg #[.int .i64 K, .int .i64 A, .int .i64 B, .int .u64 (X : Int), .int .u64 (Y : Int)], .slice (some ⟨g, 0, none⟩) n c] w (StP w) := by
 have HT := Hh hT; have HT2 := Hh hT2; clear hT hT2
 have n0 : ((n : Int) != 0) = true := by simp [bne, z0]
 go_enter Tryz.func7, Tryz.ntmps7
 go_upto_region 1 with fail
 obtain ⟨WA, hWA⟩ : ∃ W, W = (w.alloc (.cells #[.int .i64 K, .int .i64 A, .int .i64 B, .int .u64 (X : Int), .int .u64 (Y : Int)] 27)).alloc (.cells #[.float .f64 0, .float .f64 0, .float .f64 0, .pointer none, .bool false, .bool false] 33) := ⟨_, rfl⟩
 have hwA : Within w WA := by rw [hWA]; exact ((Within.refl w).alloc _).alloc _
 have hsA : WA.heap.size = w.heap.size + 2 := by rw [hWA]; simp
 have hO : WA.heap[w.heap.size]? = some (.cells #[.int .i64 K, .int .i64 A, .int .i64 B, .int .u64 (X : Int), .int .u64 (Y : Int)] 27 (0, 0)) := by
  exact zz123
 have h4 : WA.heap[w.heap.size + 1]? = some (.cells #[.float .f64 0, .float .f64 0, .float .f64 0, .pointer none, .bool false, .bool false] 33 (0, 0)) := by
  exact zz125
 rw [← hWA]
 clear hWA
 obtain ⟨b4, e4⟩ : ∃ b, b = w.heap.size + 1 := ⟨_, rfl⟩
 rw [← e4] at h4 ⊢
 obtain ⟨b2, e2⟩ : ∃ b, b = w.heap.size := ⟨_, rfl⟩
 rw [← e2] at hO ⊢
 have HE := Hh (And.intro e2 (And.intro e4 hsA))
 clear e2 e4 hsA
 have o0 : WA.cell? ⟨b2, 0, none⟩ = some (.int .i64 K) := by unfold World.cell?; rw [hO]; rfl
 have o1 : WA.cell? ⟨b2, 1, none⟩ = some (.int .i64 A) := by unfold World.cell?; rw [hO]; rfl
 have o2 : WA.cell? ⟨b2, 2, none⟩ = some (.int .i64 B) := by unfold World.cell?; rw [hO]; rfl
 have ol : b2 < WA.heap.size := by have := HE.out; omega
 clear hO
 obtain ⟨p0, p1, p2, p3, p4, p5⟩ := cA.of hwA
 clear cA
 have HCB := Hh cB; clear cB
 go_upto_region 4 with fail
 obtain ⟨WB, hWB⟩ : ∃ W, W = WA.alloc (.cells #[.float .f64 xa, .float .f64 la, .float .f64 ha, .pointer ra, .bool ka, .bool fa] 33) := ⟨_, rfl⟩
 have hAB : Within WA WB := by rw [hWB]; exact (Within.refl _).alloc _
 have h5 : WB.heap[WA.heap.size]? = some (.cells #[.float .f64 xa, .float .f64 la, .float .f64 ha, .pointer ra, .bool ka, .bool fa] 33 (0, 0)) := by rw [hWB]; exact heap_alloc_new WA _
 have hsB : WB.heap.size = WA.heap.size + 1 := by rw [hWB]; simp
 rw [← hWB]
 clear hWB
 obtain ⟨b5, e5⟩ : ∃ b, b = WA.heap.size := ⟨_, rfl⟩
 rw [← e5] at h5 ⊢
 have HE5 := Hh (And.intro e5 hsB)
 clear e5 hsB p0 p1 p2 p3 p4 p5
 replace o0 := (hAB.cells _ _ ol).trans o0; replace o2 := (hAB.cells _ _ ol).trans o2; clear o1
 replace h4 := (hAB.block _ (heap_lt h4)).trans h4
 replace ol := Nat.lt_of_lt_of_le ol hAB.size
 have hwB := hwA.trans hAB
 obtain ⟨p0, p1, p2, p3, p4, p5⟩ := HCB.out.of hwB
 go_upto_region 5 with fail
 obtain ⟨WC, hWC⟩ : ∃ W, W = WB.alloc (.cells #[.float .f64 xb, .float .f64 lb, .float .f64 hb, .pointer rb, .bool kb, .bool fb] 33) := ⟨_, rfl⟩
 have hBC : Within WB WC := by rw [hWC]; exact (Within.refl _).alloc _
 have h6 : WC.heap[WB.heap.size]? = some (.cells #[.float .f64 xb, .float .f64 lb, .float .f64 hb, .pointer rb, .bool kb, .bool fb] 33 (0, 0)) := by rw [hWC]; exact heap_alloc_new WB _
 have hsC : WC.heap.size = WB.heap.size + 1 := by rw [hWC]; simp
 rw [← hWC]
 clear hWC
 obtain ⟨b6, e6⟩ : ∃ b, b = WB.heap.size := ⟨_, rfl⟩
 rw [← e6] at h6 ⊢
 have HE6 := Hh (And.intro e6 hsC)
 clear e6 hsC p0 p1 p2 p3 p4 p5 o2
 replace o0 := (hBC.cells _ _ ol).trans o0
 replace h4 := (hBC.block _ (heap_lt h4)).trans h4
 replace h5 := (hBC.block _ (heap_lt h5)).trans h5
 have hwC := hwB.trans hBC
 have hMK := Hh (fun v0 v1 v2 v4 v5 => StW.make (K := K) (v0 := v0) (v1 := v1) (v2 := v2) (v4 := v4) (v5 := v5) o0 h4 h5 h6 hwC (show w.heap.size ≤ b4 by have := HE.out; omega) (show b2 ≠ b4 ∧ b2 ≠ b5 ∧ b2 ≠ b6 ∧ b4 ≠ b5 ∧ b4 ≠ b6 ∧ b5 ≠ b6 by have := HE.out; have := HE5.out; have := HE6.out; omega))
 obtain ⟨t50, t51, t52, t53, t54, t55, tf5⟩ := six_cells h5
 obtain ⟨t60, t61, t62, t63, t64, t65, tf6⟩ := six_cells h6
 have s5 := heap_lt h5; have s6 := heap_lt h6
 clear t50 t51 t52 t53 tf5 t60 t61 t62 t63 tf6 h4 h5 h6 o0 ol hwA hwB hAB hBC
 go_cut [7] from 8 to 64 (fun s7 wx => ∃ bz b7, s7 = .pointer (some ⟨b7, 0, none⟩) ∧ StW w wx b2 b4 b5 b6 bz b7 K xa la ha ra ka fa xb lb hb rb kb fb (.float .f64 0) (.float .f64 0) (.float .f64 0) (.pointer (some ⟨bz, 0, none⟩)) (.bool (ka && kb)) (.bool (fa && fb)))
 case first =>
  cases ka <;> cases fa <;> (go_wp2_with fail; go_meet; exact ⟨_, _, rfl, hMK.out _ _ _ _ _⟩)
 case rest =>
 obtain ⟨bz, b7, rfl, hS⟩ := hcut
 have HFI : (fa && fb) = true → FineP xa la ha ∧ FineP xb lb hb := fun e => by rw [Bool.and_eq_true] at e; exact ⟨EA.out.2.2.1 e.1, EB.out.2.2.1 e.2⟩
 have HRR : ∀ (kn : Bool) (c6 : Code), bodyTl 6 = c6 → ∀ (wy : World) (T : Nat → Value), (kn = true → ka = true ∧ kb = true ∧ KnownP w (.pointer ra) la ha eM ∧ KnownP w (.pointer rb) lb hb eM) → StW w wy b2 b4 b5 b6 bz b7 K xa la ha ra ka fa xb lb hb rb kb fb (.float .f64 0) (.float .f64 0) (.float .f64 0) (.pointer (some ⟨bz, 0, none⟩)) (.bool kn) (.bool (fa && fb)) → Code.wp Tryz.prog c6 (bodyPost Tryz.prog Tryz.f7 (StP w)) (TMt T b2 b4 b5 b6 b7) wy := by
  intro kn c6 h6 wy T hkn hy
  rcases HKD.out with rfl | rfl | rfl | rfl | rfl | rfl
  ·exact val_k1 c6 h6 w wy b2 b4 b5 b6 bz b7 xa la ha ra ka fa xb lb hb rb kb fb kn (fa && fb) EA EB (Hh hkn) (Hh HFI) HT HT2 hy T
  ·exact val_k2 c6 h6 w wy b2 b4 b5 b6 bz b7 xa la ha ra ka fa xb lb hb rb kb fb kn (fa && fb) EA EB (Hh hkn) (Hh HFI) HT HT2 hy T
  ·exact val_k3 c6 h6 w wy b2 b4 b5 b6 bz b7 xa la ha ra ka fa xb lb hb rb kb fb kn (fa && fb) EA EB (Hh hkn) (Hh HFI) HT HT2 hy T
  ·exact val_k4 c6 h6 w wy b2 b4 b5 b6 bz b7 xa la ha ra ka fa xb lb hb rb kb fb kn (fa && fb) EA EB (Hh hkn) (Hh HFI) HT HT2 hy T
  ·exact val_k5 c6 h6 w wy b2 b4 b5 b6 bz b7 xa la ha ra ka fa xb lb hb rb kb fb kn (fa && fb) EA EB (Hh hkn) (Hh HFI) HT HT2 hy T
  ·exact val_k6 c6 h6 w wy b2 b4 b5 b6 bz b7 xa la ha ra ka fa xb lb hb rb kb fb kn (fa && fb) EA EB (Hh hkn) (Hh HFI) HT HT2 hy T
 first
  | (rename_i hk; exact hk _ _ (tmuse (fun T => val_size _ kr w wc K b2 b4 b5 b6 bz b7 xa la ha ra ka fa xb lb hb rb kb fb (fa && fb) EA EB hS (Hh HRR) T) _ rfl rfl rfl rfl rfl rfl))
  | (rename_i hk _; exact hk _ _ (tmuse (fun T => val_size _ kr w wc K b2 b4 b5 b6 bz b7 xa la ha ra ka fa xb lb hb rb kb fb (fa && fb) EA EB hS (Hh HRR) T) _ rfl rfl rfl rfl rfl rfl))
abbrev VE : Type := Nat × Nat × Nat × Option Addr × Bool × Bool
def cellsE (e : VE) : List Value := [.float .f64 e.1, .float .f64 e.2.1, .float .f64 e.2.2.1, .pointer e.2.2.2.1, .bool e.2.2.2.2.1, .bool e.2.2.2.2.2]
def OwnE (w : World) (base : Nat) (v : Value) (es : List VE) : Prop := w.ownsRow base 33 6 v es.length (es.flatMap cellsE) ∧ ∀ e ∈ es, Ent w e.1 e.2.1 e.2.2.1 (.pointer e.2.2.2.1) e.2.2.2.2.1 e.2.2.2.2.2 eB
theorem cells_get (es : List VE) : ∀ i (h : i < es.length) (j : Nat), j < 6 → (es.flatMap cellsE)[i * 6 + j]? = (cellsE es[i])[j]? := by
 induction es with
 | nil => intro i h; exact absurd h (Nat.not_lt_zero i)
 | cons e es ih =>
  intro i h j hj
  rw [List.flatMap_cons]
  cases i with
  | zero => rw [List.getElem?_append_left (by show _ < 6; omega), Nat.zero_mul, Nat.zero_add]; rfl
  | succ i =>
   rw [List.getElem?_append_right (by show 6 ≤ _; omega), show (cellsE e).length = 6 from rfl, show (i + 1) * 6 + j - 6 = i * 6 + j by omega, ih i (by simpa using h) j hj]; rfl
theorem ownsRow_keep6 {w w' : World} {base : Nat} {e : TypeId} {size : Nat} {v : Value} {n : Nat} {xs : List Value} (h : w.ownsRow base e size v n xs) (k : ∀ j, v.ownBlock = some j → w'.heap[j]? = w.heap[j]?) : w'.ownsRow base e size v n xs := by
 obtain ⟨h1, h2⟩ := h
 refine ⟨h1, ?_⟩
 rcases h2 with h2 | ⟨g, cap, cur, hv, hb, hg, h3⟩
 ·exact .inl h2
 ·exact .inr ⟨g, cap, cur, hv, hb, (k g (by rw [hv]; rfl)).trans hg, h3⟩
theorem OwnE.nil (w : World) (base : Nat) : OwnE w base (.slice none 0 0) [] := ⟨World.ownsRow_nil w base _ _, fun e h => by cases h⟩
theorem OwnE.of {w w' : World} {base : Nat} {v : Value} {es : List VE} (h : OwnE w base v es) (k : Within w w') : OwnE w' base v es :=
 ⟨ownsRow_keep6 h.1 fun j hj => k.block j (h.1.lt j hj).2, fun e he => (h.2 e he).of k⟩
theorem OwnE.form {w : World} {base : Nat} {v : Value} {es : List VE} (h : OwnE w base v es) : (∃ A c, v = .slice A es.length c) := by
 rcases h.1.2 with ⟨rfl, h0⟩ | ⟨g, cap, cur, rfl, _⟩
 ·rw [h0]; exact ⟨_, _, rfl⟩
 ·exact ⟨_, _, rfl⟩
theorem at_add (g k : Nat) : (⟨g, 0, none⟩ : Addr).add k = ⟨g, k, none⟩ := by
 unfold Addr.add
 cases k <;> simp
theorem OwnE.at {w : World} {base : Nat} {v : Value} {es : List VE} (h : OwnE w base v es) (h0 : 0 < es.length) : ∃ g c, v = .slice (some ⟨g, 0, none⟩) es.length c ∧ base ≤ g ∧ ∀ i (hi : i < es.length), EntAt w g i es[i].1 es[i].2.1 es[i].2.2.1 es[i].2.2.2.1 es[i].2.2.2.2.1 es[i].2.2.2.2.2 := by
 have hc := fun g (hg : v.ownBlock = some g) => h.1.cells hg
 rcases h.1.2 with ⟨_, h1⟩ | ⟨g, cap, cur, rfl, hb, _⟩
 ·omega
 ·refine ⟨g, cap, rfl, hb, fun i hi => ?_⟩
  have key : ∀ j u, j < 6 → (cellsE es[i])[j]? = some u → w.cell? ⟨g, i * 6 + j, none⟩ = some u := fun j u hj hu => by
   rw [← at_add]; exact hc g rfl _ _ (by rw [cells_get es i hi j hj]; exact hu)
  exact ⟨key 0 _ dc rfl, key 1 _ dc rfl, key 2 _ dc rfl, key 3 _ dc rfl, key 4 _ dc rfl, key 5 _ dc rfl⟩
theorem RatB.others {w w' : World} {g : Nat} {a : Int} {b : Nat} (h : RatB w g a b) (k : ∀ (j : Nat) (cs : Array Value) (T : TypeId), w.heap[j]? = some (.cells cs T (0, 0)) → T ≠ 33 → w'.heap[j]? = w.heap[j]?) : RatB w' g a b := by
 obtain ⟨A, c, Bv, cb, hb, k1, k2, k3, k4⟩ := h
 have rows : ∀ b m fn, w.rowIs b 153 m fn → w'.heap[b]? = w.heap[b]? := by
  rintro b m fn ⟨c, hb, _⟩
  exact k b _ _ hb dc
 exact ⟨A, c, Bv, cb, (k g _ _ hb dc).trans hb, k1, k2.of_block rows, k3, k4.of_block rows⟩
theorem Ent.others {w w' : World} {x l h : Nat} {r : Value} {kn fi : Bool} {K : Nat} (e : Ent w x l h r kn fi K) (k : ∀ (j : Nat) (cs : Array Value) (T : TypeId), w.heap[j]? = some (.cells cs T (0, 0)) → T ≠ 33 → w'.heap[j]? = w.heap[j]?) : Ent w' x l h r kn fi K := by
 refine ⟨e.1, e.2.1, e.2.2.1, fun q => ?_⟩
 obtain ⟨z, a, b, h1, h2, h3, h4⟩ := e.2.2.2 q
 exact ⟨z, a, b, h1, h2, h3.others k, h4⟩
theorem Tryz.infoVE : (Tryz.prog.info? 33).map (fun i => (i.zero, i.size, i.bytes)) = some (some (.agg #[.float .f64 0, .float .f64 0, .float .f64 0, .pointer none, .bool false, .bool false]), 6, 40) := by kernel_rfl
theorem cellsE_one (e : VE) : ∀ u ∈ cellsE e, u.oneCell' = true := by
 intro u hu
 unfold cellsE at hu
 simp only [List.mem_cons, List.not_mem_nil, or_false] at hu
 rcases hu with rfl | rfl | rfl | rfl | rfl | rfl <;> rfl
theorem Within.grownO {W w w' : World} {row : Option Nat} (h : Within W w) (g : w.grownBy w' row) (hr : ∀ j, row = some j → W.heap.size ≤ j) : Within W w' := by
 cases row with
 | none => exact Within.grown h ⟨g.os, g.tape, g.output, g.size, fun k hk _ => g.block k hk (by simp)⟩ (z := W.heap.size) (Nat.le_refl _)
 | some z => exact Within.grown h g (hr z rfl)
theorem run_app_e (w : World) (base : Nat) (v : Value) (es : List VE) (e : VE) (hown : OwnE w base v es) (he : Ent w e.1 e.2.1 e.2.2.1 (.pointer e.2.2.2.1) e.2.2.2.2.1 e.2.2.2.2.2 eB) (hl : es.length ≤ 1000000) (hbase : base ≤ w.heap.size) :
 ∃ v' w', (Builtin.append_ #[24, 24] 24 #[v, .slice (some ⟨w.heap.size, 0, none⟩) 1 1]).run Tryz.prog (w.alloc (.cells #[.float .f64 e.1, .float .f64 e.2.1, .float .f64 e.2.2.1, .pointer e.2.2.2.1, .bool e.2.2.2.2.1, .bool e.2.2.2.2.2] 33)) = .ok v' w' ∧ OwnE w' base v' (es ++ [e]) ∧ ∀ W : World, Within W w → W.heap.size ≤ base → Within W w' := by
 obtain ⟨i0, hi0, hz0, hz1, hz2⟩ := info_parts Tryz.infoVE
 have hin : Within w (w.alloc (.cells #[.float .f64 e.1, .float .f64 e.2.1, .float .f64 e.2.2.1, .pointer e.2.2.2.1, .bool e.2.2.2.2.1, .bool e.2.2.2.2.2] 33)) := (Within.refl w).alloc _
 have hown1 := hown.of hin
 have hcell : ∀ (j : Nat) x, (cellsE e)[j]? = some x → (w.alloc (.cells #[.float .f64 e.1, .float .f64 e.2.1, .float .f64 e.2.2.1, .pointer e.2.2.2.1, .bool e.2.2.2.2.1, .bool e.2.2.2.2.2] 33)).cell? ((⟨w.heap.size, 0, none⟩ : Addr).add j) = some x := fun j x hx => by
  rw [at_add, World.cell?_alloc_at _ _ _ _ rfl]
  unfold cellsE at hx
  match j, hx with
  | 0, hx => exact hx
  | 1, hx => exact hx
  | 2, hx => exact hx
  | 3, hx => exact hx
  | 4, hx => exact hx
  | 5, hx => exact hx
  | j + 6, hx => simp at hx
 obtain ⟨v', w', h1, h2, h3, _, h5⟩ := run_append_own_at (P := Tryz.prog) (w := w.alloc (.cells #[.float .f64 e.1, .float .f64 e.2.1, .float .f64 e.2.2.1, .pointer e.2.2.2.1, .bool e.2.2.2.2.1, .bool e.2.2.2.2.2] 33)) base 24 24 33 i0 (.agg #[.float .f64 0, .float .f64 0, .float .f64 0, .pointer none, .bool false, .bool false]) 6 40 kr hi0 hz0 hz1 hz2 rfl dc v es.length (es.flatMap cellsE) hown1.1 ⟨w.heap.size, 0, none⟩ 1 1 (cellsE e) rfl hcell (cellsE_one e)
  (by unfold maxLen; omega) om (Nat.le_trans hbase hin.size)
 have hoth : ∀ (j : Nat) (cs : Array Value) (T : TypeId), w.heap[j]? = some (.cells cs T (0, 0)) → T ≠ 33 → w'.heap[j]? = w.heap[j]? := by
  intro j cs T hj hT
  have hlt := heap_lt hj
  refine (h3.block j (Nat.lt_of_lt_of_le hlt hin.size) (fun e' => ?_)).trans (hin.block j hlt)
  rcases hown.1.2 with ⟨rfl, _⟩ | ⟨g, cap, cur, rfl, _, hg, _⟩
  ·cases e'
  ·obtain rfl : j = g := Option.some.inj e'
   rw [hj] at hg
   injection hg with hg
   injection hg with _ hT'
   exact hT hT'
 refine ⟨v', w', h1, ⟨?_, fun e' he' => ?_⟩, fun W hW hb => ?_⟩
 ·rw [List.length_append, List.flatMap_append, show [e].flatMap cellsE = cellsE e by simp]; exact h2
 ·rcases List.mem_append.1 he' with h | h
  ·exact (hown.2 e' h).others hoth
  ·rw [List.mem_singleton] at h; rw [h]; exact he.others hoth
 ·exact (hW.trans hin).grownO h3 (fun j hj => Nat.le_trans hb (hown.1.lt j hj).1)
theorem zz5 {p : Prop} (h : p := by
 have PC := Hh (fun w hT => point_any K A B X Y hX hY w hT)
 have HT2 := Hh hT2; clear hT2 hX hY
 go_enter Tryz.func7, Tryz.ntmps7
 go_upto_region 2 with fail
 obtain ⟨WA, hWA⟩ : ∃ W, W = (w.alloc (.cells #[.int .i64 K, .int .i64 A, .int .i64 B, .int .u64 (X : Int), .int .u64 (Y : Int)] 27)).alloc (.cells #[.float .f64 0, .float .f64 0, .float .f64 0, .pointer none, .bool false, .bool false] 33) := ⟨_, rfl⟩
 have hwA : Within w WA := by rw [hWA]; exact ((Within.refl w).alloc _).alloc _
 have hsA : WA.heap.size = w.heap.size + 2 := by rw [hWA]; simp
 have hO : WA.heap[w.heap.size]? = some (.cells #[.int .i64 K, .int .i64 A, .int .i64 B, .int .u64 (X : Int), .int .u64 (Y : Int)] 27 (0, 0)) := by
  exact zz123
 have h4 : WA.heap[w.heap.size + 1]? = some (.cells #[.float .f64 0, .float .f64 0, .float .f64 0, .pointer none, .bool false, .bool false] 33 (0, 0)) := by
  exact zz125
 rw [← hWA]
 clear hWA
 have o0 : WA.cell? ⟨w.heap.size, 0, none⟩ = some (.int .i64 K) := by unfold World.cell?; rw [hO]; rfl
 have o1 : WA.cell? ⟨w.heap.size, 1, none⟩ = some (.int .i64 A) := by unfold World.cell?; rw [hO]; rfl
 have o2 : WA.cell? ⟨w.heap.size, 2, none⟩ = some (.int .i64 B) := by unfold World.cell?; rw [hO]; rfl
 have o3 : WA.cell? ⟨w.heap.size, 3, none⟩ = some (.int .u64 (X : Int)) := by unfold World.cell?; rw [hO]; rfl
 have o4 : WA.cell? ⟨w.heap.size, 4, none⟩ = some (.int .u64 (Y : Int)) := by unfold World.cell?; rw [hO]; rfl
 have ol : w.heap.size < WA.heap.size := by omega
 have HS := Hh hsA
 clear hO hsA
 go_wp2_with fail
 refine (PC.out _ (HT2.out.of hwA)).mono ?_; rintro r1 w1 ⟨x, l, h, q, kn, fi, rfl, hE, hb1⟩
 have u4_ := (hb1.block _ (heap_lt h4)).trans h4
 clear h4 o0 o1 o2 o3 o4
 obtain ⟨⟨g0, q0, g1, q1, g2, q2, g3, q3, g4, q4, g5, q5⟩, hFin⟩ := six_store u4_ (.float .f64 x) (.float .f64 l) (.float .f64 h) (.pointer q) (.bool kn) (.bool fi)
 have g00 := g0 0; have g11 := g1 1; have g22 := g2 2; have g33 := g3 3; have g44 := g4 4; have g55 := g5 5
 obtain ⟨e0, e1, e2, e3, e4, e5, _⟩ := six_cells hFin
 have HW := Hh (six_within (hwA.trans hb1) (Nat.le_succ w.heap.size) (.float .f64 x) (.float .f64 l) (.float .f64 h) (.pointer q) (.bool kn) (.bool fi))
 have HE := Hh (hE.others (fun j cs T hj hT => six_other (w := w1) (z := w.heap.size + 1) (j := j) (fun e => by rw [e, u4_] at hj; injection hj with hj; injection hj with _ hT'; exact hT hT'.symm) (.float .f64 x) (.float .f64 l) (.float .f64 h) (.pointer q) (.bool kn) (.bool fi)))
 clear hFin g0 g1 g2 g3 g4 g5 hE u4_
 go_wp2
 (try simp only [Exit.inBlock, Exit.then]); refine bodyPost_ret (v := .agg #[.float .f64 x, .float .f64 l, .float .f64 h, .pointer q, .bool kn, .bool fi]) (by simp [results, Tryz.results7, go_sem, e0, e1, e2, e3, e4, e5]) rfl ?_
 exact ⟨x, l, h, q, kn, fi, rfl, HE.out, HW.out⟩) : p := h
theorem val_pt_lo (K A B : Int) (X Y : Nat) (hX : X < 18446744073709551616) (hY : Y < 18446744073709551616) (Ad : Option Addr) (n c : Nat) (d1 : decide (K < 1) = true) (w : World) (hT2 : Tab32 w) : Calls Tryz.prog 7 #[.agg #[.int .i64 K, .int .i64 A, .int .i64 B, .int .u64 (X : Int), .int .u64 (Y : Int)], .slice Ad n c] w (StP w) := by
 exact zz5
theorem val_pt_hi (K A B : Int) (X Y : Nat) (hX : X < 18446744073709551616) (hY : Y < 18446744073709551616) (Ad : Option Addr) (n c : Nat) (d1 : decide (K < 1) = false) (d2 : decide (K > 6) = true) (w : World) (hT2 : Tab32 w) : Calls Tryz.prog 7 #[.agg #[.int .i64 K, .int .i64 A, .int .i64 B, .int .u64 (X : Int), .int .u64 (Y : Int)], .slice Ad n c] w (StP w) := by
 exact zz5
theorem val_pt_no (K A B : Int) (X Y : Nat) (hX : X < 18446744073709551616) (hY : Y < 18446744073709551616) (Ad : Option Addr) (n c : Nat) (d1 : decide (K < 1) = false) (d2 : decide (K > 6) = false) (w : World) (hT2 : Tab32 w) : Calls Tryz.prog 7 #[.agg #[.int .i64 K, .int .i64 A, .int .i64 B, .int .u64 (X : Int), .int .u64 (Y : Int)], .slice Ad 0 c] w (StP w) := by
 exact zz5
theorem val_any (K A B : Int) (X Y : Nat) (hX : X < 18446744073709551616) (hY : Y < 18446744073709551616) (v : Value) (es : List VE) (base : Nat) (hl : es.length ≤ 30) (w : World) (hE : OwnE w base v es) (hT : Tab w) (hT2 : Tab32 w) : Calls Tryz.prog 7 #[.agg #[.int .i64 K, .int .i64 A, .int .i64 B, .int .u64 (X : Int), .int .u64 (Y : Int)], v] w (StP w) := by
 obtain ⟨Ad, c, rfl⟩ := hE.form
 by_cases k1 : K < 1
 ·exact val_pt_lo K A B X Y hX hY Ad es.length c (decide_eq_true k1) w hT2
 by_cases k6 : K > 6
 ·exact val_pt_hi K A B X Y hX hY Ad es.length c (decide_eq_false k1) (decide_eq_true k6) w hT2
 by_cases h0 : es.length = 0
 ·rw [h0]; exact val_pt_no K A B X Y hX hY Ad 0 c (decide_eq_false k1) (decide_eq_false k6) w hT2
 obtain ⟨g, c', e, hb, hat⟩ := hE.at om
 injection e with e1 _ e3
 subst e1; subst e3
 obtain ⟨ia, lA, hA, a1, a2⟩ := round_len A es.length om om
 obtain ⟨ib, lB, hB, b1, b2⟩ := round_len B es.length om om
 have EA := hE.2 es[ia] (List.getElem_mem lA)
 have EB := hE.2 es[ib] (List.getElem_mem lB)
 exact val_step w K (decide_eq_false k1) (decide_eq_false k6) (Hh om) A B X Y g es.length c ia ib _ _ _ _ _ _ _ _ _ _ _ _ h0 (by rw [beq_eq_false_iff_ne]; omega) hA (by rw [IntKind.wrap_i64]; omega) lA om hB (by rw [IntKind.wrap_i64]; omega) lB om (Hh EA) (Hh EB) (hat ia lA) (hat ib lB) hT hT2
abbrev OpT : Type := Int × Int × Int × Nat × Nat
def OpsAt (w : World) (A : Option Addr) (ops : List OpT) : Prop := ∀ i o, ops[i]? = some o → ∃ ad, A = some ad ∧ w.cell? ((ad.add (i * 5)).add 0) = some (.int .i64 o.1) ∧ w.cell? ((ad.add (i * 5)).add 1) = some (.int .i64 o.2.1) ∧ w.cell? ((ad.add (i * 5)).add 2) = some (.int .i64 o.2.2.1) ∧ w.cell? ((ad.add (i * 5)).add 3) = some (.int .u64 (o.2.2.2.1 : Int)) ∧ w.cell? ((ad.add (i * 5)).add 4) = some (.int .u64 (o.2.2.2.2 : Int)) ∧ o.2.2.2.1 < 18446744073709551616 ∧ o.2.2.2.2 < 18446744073709551616
theorem zz93 {p : Prop} (h : p := by
 go_wp2_with fail
 refine (AW.out _).mono ?_; rintro r1 w1 ⟨rfl, hb1⟩
 go_wp2
 go_ret
 exact ⟨rfl, hin.trans hb1⟩) : p := h
theorem encl_some (ad : Addr) (c : Nat) (ops : List OpT) (w : World) (hT : Tab w ∧ Tab32 w) (hm : OpsAt w (some ad) ops) : Calls Tryz.prog 3 #[.slice (some ad) ops.length c] w (fun r w' => r = .returned (.bool true) ∧ Within w w') := by
 have AW := Hh awake6_true
 have HT := Hh hT.1; have HT2 := Hh hT.2; have HM := Hh hm; clear hT hm
 obtain ⟨n, hnn⟩ : ∃ m, m = ops.length := ⟨_, rfl⟩
 rw [← hnn]
 have HN := Hh hnn
 clear hnn
 by_cases hbig : 30 < n
 ·have db : decide ((n : Int) > 30) = true := decide_eq_true om
  go_enter Tryz.func3, Tryz.ntmps3
  go_wp2_with fail
  refine (AW.out _).mono ?_; rintro r1 w1 ⟨rfl, hb1⟩
  go_wp2
  go_ret
  exact ⟨rfl, hb1⟩
 ·have db : decide ((n : Int) > 30) = false := decide_eq_false om
  go_enter Tryz.func3, Tryz.ntmps3
  go_wp2
  go_loopw [3, 13] (fun vv iv wr => ∃ (k : Nat) (es : List VE), k ≤ n ∧ es.length = k ∧ iv = .int .i64 (k : Int) ∧ OwnE wr w.heap.size vv es ∧ Within w wr) (fun _ iv _ => n - (intOf iv).toNat)
  case atStart => exact ⟨0, [], Nat.zero_le _, rfl, rfl, OwnE.nil _ _, Within.refl _⟩
  case round =>
   obtain ⟨k, es, hk, hlen, rfl, hE, hin⟩ := hrel
   by_cases hlt : k < n
   ·have di : decide ((k : Int) < (n : Int)) = true := decide_eq_true om
    have lk : (k : Int) < (n : Int) := by omega
    obtain ⟨o, ho⟩ : ∃ o, ops[k]? = some o := ⟨_, List.getElem?_eq_getElem (show k < ops.length by have := HN.out; omega)⟩
    obtain ⟨ad', ead, c0, c1, c2, c3, c4, hX, hY⟩ := HM.out k o ho
    obtain rfl := Option.some.inj ead
    clear ead ho
    obtain ⟨Ad, ce, rfl⟩ := hE.form
    skip
    have bl := World.block_lt_of_cell? _ _ c0
    have g0 : wr.cell? (ad.add (k * 5)) = some (.int .i64 o.1) := (World.cell?_of_block (hin.block _ (World.block_lt_of_cell? _ _ c0))).trans c0
    have g1 : wr.cell? ⟨(ad.add (k * 5)).block, (ad.add (k * 5)).off + 1, none⟩ = some (.int .i64 o.2.1) := (World.cell?_of_block (a := (ad.add (k * 5)).add 1) (hin.block _ (World.block_lt_of_cell? _ _ c1))).trans c1
    have g2 : wr.cell? ⟨(ad.add (k * 5)).block, (ad.add (k * 5)).off + 2, none⟩ = some (.int .i64 o.2.2.1) := (World.cell?_of_block (a := (ad.add (k * 5)).add 2) (hin.block _ (World.block_lt_of_cell? _ _ c2))).trans c2
    have g3 : wr.cell? ⟨(ad.add (k * 5)).block, (ad.add (k * 5)).off + 3, none⟩ = some (.int .u64 (o.2.2.2.1 : Int)) := (World.cell?_of_block (a := (ad.add (k * 5)).add 3) (hin.block _ (World.block_lt_of_cell? _ _ c3))).trans c3
    have g4 : wr.cell? ⟨(ad.add (k * 5)).block, (ad.add (k * 5)).off + 4, none⟩ = some (.int .u64 (o.2.2.2.2 : Int)) := (World.cell?_of_block (a := (ad.add (k * 5)).add 4) (hin.block _ (World.block_lt_of_cell? _ _ c4))).trans c4
    clear c0 c1 c2 c3 c4 bl
    have HE := Hh hE; have HL := Hh hlen
    go_upto_region 7 with fail
    obtain ⟨W5, hW5⟩ : ∃ W, W = wr.alloc (.cells #[.int .i64 o.1, .int .i64 o.2.1, .int .i64 o.2.2.1, .int .u64 (o.2.2.2.1 : Int), .int .u64 (o.2.2.2.2 : Int)] 27) := ⟨_, rfl⟩
    have h5w : Within wr W5 := by rw [hW5]; exact (Within.refl _).alloc _
    have hB5 : W5.heap[wr.heap.size]? = some (.cells #[.int .i64 o.1, .int .i64 o.2.1, .int .i64 o.2.2.1, .int .u64 (o.2.2.2.1 : Int), .int .u64 (o.2.2.2.2 : Int)] 27 (0, 0)) := by rw [hW5]; exact heap_alloc_new wr _
    rw [← hW5]
    clear hW5 g0 g1 g2 g3 g4
    have o0 : W5.cell? ⟨wr.heap.size, 0, none⟩ = some (.int .i64 o.1) := by unfold World.cell?; rw [hB5]; rfl
    have o1 : W5.cell? ⟨wr.heap.size, 1, none⟩ = some (.int .i64 o.2.1) := by unfold World.cell?; rw [hB5]; rfl
    have o2 : W5.cell? ⟨wr.heap.size, 2, none⟩ = some (.int .i64 o.2.2.1) := by unfold World.cell?; rw [hB5]; rfl
    have o3 : W5.cell? ⟨wr.heap.size, 3, none⟩ = some (.int .u64 (o.2.2.2.1 : Int)) := by unfold World.cell?; rw [hB5]; rfl
    have o4 : W5.cell? ⟨wr.heap.size, 4, none⟩ = some (.int .u64 (o.2.2.2.2 : Int)) := by unfold World.cell?; rw [hB5]; rfl
    have l5 := heap_lt hB5
    clear hB5
    have VA := Hh (val_any o.1 o.2.1 o.2.2.1 _ _ hX hY (.slice Ad es.length ce) es w.heap.size om W5 (HE.out.of h5w) (HT.out.of (hin.trans h5w)) (HT2.out.of (hin.trans h5w)))
    clear hX hY hE hlen
    go_wp2_with fail
    refine VA.out.mono ?_; rintro r7 w7 ⟨x, l, h, q, kn, fi, rfl, hEn, hb7⟩
    have hw7 := h5w.trans hb7
    clear o0 o1 o2 o3 o4 l5 VA
    obtain ⟨v', w', hrun, hE2, hW2⟩ := run_app_e w7 w.heap.size (.slice Ad es.length ce) es (x, l, h, q, kn, fi) (HE.out.of hw7) hEn (by have := HL.out; omega) (hin.trans hw7).size
    obtain ⟨g, c', rfl, hbg, hat⟩ := hE2.at (by simp)
    have hk2 : EntAt w' g k x l h q kn fi := by
     have hl := HL.out
     subst hl
     simpa using hat es.length (by simp)
    obtain ⟨p0, p1, p2, p3, p4, p5⟩ := hk2
    obtain ⟨n1, hn1⟩ : ∃ m, (es ++ [(x, l, h, q, kn, fi)]).length = m := ⟨_, rfl⟩
    have h1n : n1 = k + 1 := by rw [← hn1, List.length_append, HL.out]; rfl
    rw [hn1] at hrun hE2
    have HEN : Hid (Ent w' x l h (.pointer q) kn fi eB) := Hh (hE2.2 (x, l, h, q, kn, fi) (by simp))
    have HWW := Hh (hW2 w (hin.trans hw7) (Nat.le_refl _))
    have RUN := Hh hrun; have HE2 := Hh hE2
    clear hrun hE2 hW2 hat hn1 hEn hb7 h5w hw7
    have e8 : IntKind.i64.wrap ((n1 : Int) - 1) = (k : Int) := by rw [IntKind.wrap_i64]; omega
    have lk1 : (k : Int) < (n1 : Int) := by omega
    have lk2 : k < n1 := by omega
    have HN1 := Hh h1n
    clear h1n
    go_upto_region 9 with (at_builtin; refine wpList_append_run rfl (.tmp 17) (.tmp 21) 24 rfl _ _ rfl rfl RUN.out ?_)
    obtain ⟨W6, hW6⟩ : ∃ W, W = w'.alloc (.cells #[.float .f64 x, .float .f64 l, .float .f64 h, .pointer q, .bool kn, .bool fi] 33) := ⟨_, rfl⟩
    have hw6 : Within w' W6 := by rw [hW6]; exact (Within.refl _).alloc _
    have hB6 : W6.heap[w'.heap.size]? = some (.cells #[.float .f64 x, .float .f64 l, .float .f64 h, .pointer q, .bool kn, .bool fi] 33 (0, 0)) := by rw [hW6]; exact heap_alloc_new w' _
    rw [← hW6]
    clear hW6 p0 p1 p2 p3 p4 p5
    obtain ⟨t60, t61, t62, t63, t64, t65, -⟩ := six_cells hB6
    have l8 := heap_lt hB6
    clear hB6
    have IS := Hh (fun w => iIs l h HEN.out.2.1 w)
    clear RUN HE e8 lk1 lk2 hbg
    cases fi
    ·cases kn
     ·go_wp2_with fail
      refine (IS.out _).mono ?_; rintro r8 w8 ⟨rfl, hb8⟩
      have c80 := (hb8.cells _ _ l8).trans t60
      have c81 := (hb8.cells _ _ l8).trans t61
      have c82 := (hb8.cells _ _ l8).trans t62
      have c83 := (hb8.cells _ _ l8).trans t63
      have c84 := (hb8.cells _ _ l8).trans t64
      have c85 := (hb8.cells _ _ l8).trans t65
      have l9 := Nat.lt_of_lt_of_le l8 hb8.size
      have hw8 := hw6.trans hb8
      clear t60 t61 t62 t63 t64 t65 l8 hb8 hw6
      go_wp2
      go_roundw
      case rel => exact ⟨k + 1, es ++ [(x, l, h, q, false, false)], hlt, by rw [List.length_append, HL.out]; rfl, by go_num, HE2.out.of hw8, HWW.out.trans hw8⟩
      case measure => simp [intOf]; omega
     ·go_wp2_with fail
      refine (IS.out _).mono ?_; rintro r8 w8 ⟨rfl, hb8⟩
      have c80 := (hb8.cells _ _ l8).trans t60
      have c81 := (hb8.cells _ _ l8).trans t61
      have c82 := (hb8.cells _ _ l8).trans t62
      have c83 := (hb8.cells _ _ l8).trans t63
      have c84 := (hb8.cells _ _ l8).trans t64
      have c85 := (hb8.cells _ _ l8).trans t65
      have l9 := Nat.lt_of_lt_of_le l8 hb8.size
      have hw8 := hw6.trans hb8
      clear t60 t61 t62 t63 t64 t65 l8 hb8 hw6
      obtain ⟨z, ma, da, ez, hda, hra, hha, bma, bda⟩ := HEN.out.2.2.2 (by trivial)
      injection ez with ez
      subst ez
      have HO := Hh (fun w hT hz => holds_true l h z ma da hda hha (len_5000 bma) (len_5000 bda) w hT hz)
      have HRA := Hh hra
      clear hra hha hda bma bda
      go_wp2_with fail
      refine (HO.out _ (HT2.out.of (HWW.out.trans hw8)) (HRA.out.of hw8)).mono ?_; rintro r10 w10 ⟨rfl, hb10⟩
      have hw10 := hw8.trans hb10
      go_wp2
      go_roundw
      case rel => exact ⟨k + 1, es ++ [(x, l, h, some ⟨z, 0, none⟩, true, false)], hlt, by rw [List.length_append, HL.out]; rfl, by go_num, HE2.out.of hw10, HWW.out.trans hw10⟩
      case measure => simp [intOf]; omega
    ·cases kn
     ·go_wp2_with fail
      refine (IS.out _).mono ?_; rintro r8 w8 ⟨rfl, hb8⟩
      have c80 := (hb8.cells _ _ l8).trans t60
      have c81 := (hb8.cells _ _ l8).trans t61
      have c82 := (hb8.cells _ _ l8).trans t62
      have c83 := (hb8.cells _ _ l8).trans t63
      have c84 := (hb8.cells _ _ l8).trans t64
      have c85 := (hb8.cells _ _ l8).trans t65
      have l9 := Nat.lt_of_lt_of_le l8 hb8.size
      have hw8 := hw6.trans hb8
      clear t60 t61 t62 t63 t64 t65 l8 hb8 hw6
      have HS := Hh (fun w => iHas l h x (HEN.out.2.2.1 (by trivial)).1 (HEN.out.2.2.1 (by trivial)).2 w)
      go_wp2_with fail
      refine (HS.out _).mono ?_; rintro r9 w9 ⟨rfl, hb9⟩
      have d80 := (hb9.cells _ _ l9).trans c80
      have d81 := (hb9.cells _ _ l9).trans c81
      have d82 := (hb9.cells _ _ l9).trans c82
      have d83 := (hb9.cells _ _ l9).trans c83
      have d84 := (hb9.cells _ _ l9).trans c84
      have d85 := (hb9.cells _ _ l9).trans c85
      have hw9 := hw8.trans hb9
      have l10 := Nat.lt_of_lt_of_le l9 hb9.size
      clear c80 c81 c82 c83 c84 c85 l9 hb9 hw8
      go_wp2
      go_roundw
      case rel => exact ⟨k + 1, es ++ [(x, l, h, q, false, true)], hlt, by rw [List.length_append, HL.out]; rfl, by go_num, HE2.out.of hw9, HWW.out.trans hw9⟩
      case measure => simp [intOf]; omega
     ·go_wp2_with fail
      refine (IS.out _).mono ?_; rintro r8 w8 ⟨rfl, hb8⟩
      have c80 := (hb8.cells _ _ l8).trans t60
      have c81 := (hb8.cells _ _ l8).trans t61
      have c82 := (hb8.cells _ _ l8).trans t62
      have c83 := (hb8.cells _ _ l8).trans t63
      have c84 := (hb8.cells _ _ l8).trans t64
      have c85 := (hb8.cells _ _ l8).trans t65
      have l9 := Nat.lt_of_lt_of_le l8 hb8.size
      have hw8 := hw6.trans hb8
      clear t60 t61 t62 t63 t64 t65 l8 hb8 hw6
      have HS := Hh (fun w => iHas l h x (HEN.out.2.2.1 (by trivial)).1 (HEN.out.2.2.1 (by trivial)).2 w)
      go_wp2_with fail
      refine (HS.out _).mono ?_; rintro r9 w9 ⟨rfl, hb9⟩
      have d80 := (hb9.cells _ _ l9).trans c80
      have d81 := (hb9.cells _ _ l9).trans c81
      have d82 := (hb9.cells _ _ l9).trans c82
      have d83 := (hb9.cells _ _ l9).trans c83
      have d84 := (hb9.cells _ _ l9).trans c84
      have d85 := (hb9.cells _ _ l9).trans c85
      have hw9 := hw8.trans hb9
      have l10 := Nat.lt_of_lt_of_le l9 hb9.size
      clear c80 c81 c82 c83 c84 c85 l9 hb9 hw8
      obtain ⟨z, ma, da, ez, hda, hra, hha, bma, bda⟩ := HEN.out.2.2.2 (by trivial)
      injection ez with ez
      subst ez
      have HO := Hh (fun w hT hz => holds_true l h z ma da hda hha (len_5000 bma) (len_5000 bda) w hT hz)
      have HRA := Hh hra
      clear hra hha hda bma bda
      go_wp2_with fail
      refine (HO.out _ (HT2.out.of (HWW.out.trans hw9)) (HRA.out.of hw9)).mono ?_; rintro r10 w10 ⟨rfl, hb10⟩
      have hw10 := hw9.trans hb10
      go_wp2
      go_roundw
      case rel => exact ⟨k + 1, es ++ [(x, l, h, some ⟨z, 0, none⟩, true, true)], hlt, by rw [List.length_append, HL.out]; rfl, by go_num, HE2.out.of hw10, HWW.out.trans hw10⟩
      case measure => simp [intOf]; omega
   ·obtain rfl : k = n := by omega
    have di : decide ((k : Int) < (k : Int)) = false := decide_eq_false om
    obtain ⟨Ad, ce, rfl⟩ := hE.form
    clear hE
    exact zz93
theorem encl_none (A : Option Addr) (c : Nat) (w : World) : Calls Tryz.prog 3 #[.slice A 0 c] w (fun r w' => r = .returned (.bool true) ∧ Within w w') := by
 have AW := Hh awake6_true
 go_enter Tryz.func3, Tryz.ntmps3
 go_wp2
 go_loopw [3, 13] (fun vv iv wr => iv = .int .i64 0 ∧ Within w wr) (fun _ iv _ => 0)
 case atStart => exact ⟨rfl, Within.refl _⟩
 case round =>
  obtain ⟨rfl, hin⟩ := hrel
  exact zz93
theorem encloses_law (A : Option Addr) (c : Nat) (ops : List OpT) (w : World) (hT : Tab w ∧ Tab32 w) (hm : OpsAt w A ops) : Calls Tryz.prog 3 #[.slice A ops.length c] w (fun r w' => r = .returned (.bool true) ∧ Within w w') := by
 cases A with
 | some ad => exact encl_some ad c ops w hT hm
 | none =>
  cases ops with
  | nil => exact encl_none none c w
  | cons o os =>
   obtain ⟨ad, e, _⟩ := hm 0 o rfl
   cases e
end Go.Proofs.YtgkcpnidmfejeaaGreatDoor
