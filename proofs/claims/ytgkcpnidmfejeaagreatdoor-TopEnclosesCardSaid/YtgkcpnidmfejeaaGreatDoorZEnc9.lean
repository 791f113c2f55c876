/- What the law's walk rests on, part 9: contracts of functions and plain facts. -/
import Derived.Test.YtgkcpnidmfejeaaGreatDoorZEnc8
set_option linter.unusedVariables false
set_option linter.unusedSimpArgs false
set_option maxRecDepth 100000
set_option maxHeartbeats 4000000
namespace Go.Proofs.YtgkcpnidmfejeaaGreatDoor
open Go.RowKit
theorem zz115 {p : Prop} (h : p := by
 have HK4 := Hh HSW
 obtain ⟨u2_, u4_, u5_, u6_, uz_, u7_, uw, un_⟩ := HSW.out
 obtain ⟨-, -, -, t73, t74, -, tf7⟩ := six_cells u7_
 obtain ⟨-, -, -, t53, -, -, tf5⟩ := six_cells u5_
 obtain ⟨-, -, -, t63, -, -, tf6⟩ := six_cells u6_
 have s5 := heap_lt u5_; have s6 := heap_lt u6_; have s7 := heap_lt u7_
 clear u2_ u4_ u5_ u6_ uz_ u7_ un_ tf5 tf6 tf7 HK4 t53 t63
 go_wp2_with fail
 go_meet
 exact ⟨x7, l7, h7, false, fi, HX.out.1, HI.out.1, HX.out.2, fun e => (by cases e), HSW.out⟩) : p := h
theorem zz117 {p : Prop} (h : p := by
 go_wp2_with fail
 refine (RT.out _ (HT2.out.of uw) hzB.out (HRA.out.of uw) (HRB.out.of uw)).mono ?_; rintro r16 w16 hp16
 obtain ⟨rfl, hkp, hgr, hty⟩ := RQ.out l7 h7 HI.out.2 _ _ _ hp16
 have HSX := Hh (HSW.out.grown hty hgr)
 have HKP := Hh hkp
 clear hp16 hkp hgr hty t53 t63 t73 t74 s5 s6 s7 uw
 go_wp2_with fail
 go_meet
 exact ⟨x7, l7, h7, true, fi, HX.out.1, HI.out.1, HX.out.2, fun _ => HKP.out, HSX.out⟩) : p := h
theorem zz8 {p : Prop} (h : p := by
 try simp only [pu]
 refine sch_one rfl rfl (fun K hK => ?_)
 first
  | (obtain ⟨V, hV, hvw⟩ : ∃ V, V = arW .add xa xb v9 ∧ Within w0 V := ⟨_, rfl, arW_within hv9 _ _ _⟩; rw [← hV]; obtain ⟨x7, hx7⟩ : ∃ x, x = arF .add xa xb v9 := ⟨_, rfl⟩; rw [← hx7]; have HX := Hh (show x7 < 18446744073709551616 ∧ (fi = true → Fi x7 → FineP x7 l7 h7) from ⟨by rw [hx7]; exact (fv_ar _ _ _ _).2, fun e g => by rw [hx7] at g ⊢; exact fine_add (HFI.out e).1 (HFI.out e).2 HI.out.2 g⟩); clear hx7 hV)
  | (obtain ⟨V, hV, hvw⟩ : ∃ V, V = v9 ∧ Within w0 V := ⟨_, rfl, hv9⟩; rw [← hV]; obtain ⟨x7, hx7⟩ : ∃ x, x = arF .add xa xb w0.drew := ⟨_, rfl⟩; rw [← hx7]; have HX := Hh (show x7 < 18446744073709551616 ∧ (fi = true → Fi x7 → FineP x7 l7 h7) from ⟨by rw [hx7]; exact (fv_ar _ _ _ _).2, fun e g => by rw [hx7] at g ⊢; exact fine_add (HFI.out e).1 (HFI.out e).2 HI.out.2 g⟩); clear hx7 hV)
 have HS1 := Hh (HS0.out.of hvw)
 obtain ⟨-, -, -, -, -, u7_, -, -⟩ := HS1.out
 obtain ⟨k70, -, -, -, -, -, kf7⟩ := six_cells u7_
 have kf70 := kf7 0
 clear u7_ kf7
 go_simp
 refine hK _ _ ab ?_
 clear hK K
 try simp only [pu]
 refine sch_one rfl rfl (fun K hK => ?_)
 go_simp
 refine hK _ _ ab ?_
 clear hK K
 try simp only [pu]
 refine sch_one rfl rfl (fun K hK => ?_)
 have HS2 := Hh (HS1.out.set0 (.float .f64 x7))
 obtain ⟨-, -, -, -, -, u7_, -, -⟩ := HS2.out
 obtain ⟨-, k71, -, -, -, -, kf7⟩ := six_cells u7_
 obtain ⟨-, -, k72, -, -, -, kg7⟩ := six_cells (six_set1 u7_ (.float .f64 l7))
 have kf71 := kf7 1; have kg72 := kg7 2
 clear u7_ kf7 kg7 k70 kf70
 go_simp
 refine hK _ _ ab ?_
 clear hK K
 try simp only [pu]
 refine sch_nil ?_
 obtain ⟨W, hW⟩ : ∃ W', W' = ((V.setCell ⟨b7, 0, none⟩ (.float .f64 x7)).setCell ⟨b7, 1, none⟩ (.float .f64 l7)).setCell ⟨b7, 2, none⟩ (.float .f64 h7) := ⟨_, rfl⟩
 have HSW : Hid (StW w W b2 b4 b5 b6 bz b7 1 xa la ha ra ka fa xb lb hb rb kb fb (.float .f64 x7) (.float .f64 l7) (.float .f64 h7) (.pointer (some ⟨bz, 0, none⟩)) (.bool kn) (.bool fi)) := Hh (by rw [hW]; exact (HS2.out.set1 _).set2 _)
 rw [← hW]
 clear hW k71 k72 kf71 kg72 t50 t51 t52 t60 t61 t62 s5 s6 s7 uw hvw hv9 hb9 HS1 HS2 HS0 hadd hsub hmul IC
 cases kn
 ·exact zz115
 ·obtain ⟨hka, hkb, ⟨za, ma, da, eza, hda, hra, hha, bma, bda⟩, ⟨zb, mb, db, ezb, hdb, hrb, hhb, bmb, bdb⟩⟩ := HKN.out (by trivial)
  injection eza with eza; injection ezb with ezb
  replace eza := Hh eza; replace ezb := Hh ezb
  clear hka hkb
  have ela : eM ≤ eB := by rw [eM_is, eB_is]; decide
  have lM : 2 * eM + 1 ≤ eB := by rw [eM_is, eB_is]; decide
  have lD : 2 * eM ≤ eB := by rw [eM_is, eB_is]; decide
  have lw : ∀ {n : Nat}, n < 2 ^ eM → (dg n).length ≤ 1000 := fun h => len_5000 (Nat.lt_of_lt_of_le h (Nat.pow_le_pow_right dc ela))
  have RT := Hh (fun w hT hz hx hy => Radd bz za zb ma da mb db hda hdb (lw bma) (lw bda) (lw bmb) (lw bdb) w hT hz hx hy)
  have RQ := Hh (fun (l7 h7 : Nat) (hS : ∀ e, AddS la ha lb hb e → Holds l7 h7 e) (w0 w' : World) (e : Ending) (hp : RatP w0 bz (frQ ma da + frQ mb db) (ma.natAbs * db + mb.natAbs * da) (da * db) e w') => known_of (K := eB) hp (hS _ ⟨_, _, hha, hhb, rfl⟩) (two_pow_sum bma bdb bmb bda (Nat.le_refl _) lM) (two_pow_add bda bdb (Nat.le_refl _) lD))
  have HRA := Hh hra; have HRB := Hh hrb
  clear hra hrb hha hhb bma bda bmb bdb ela lM lD lw hda hdb
  have HK4 := Hh HSW
  obtain ⟨u2_, u4_, u5_, u6_, uz_, u7_, uw, un_⟩ := HSW.out
  obtain ⟨-, -, -, t73, t74, -, tf7⟩ := six_cells u7_
  obtain ⟨-, -, -, t53, -, -, tf5⟩ := six_cells u5_
  obtain ⟨-, -, -, t63, -, -, tf6⟩ := six_cells u6_
  have s5 := heap_lt u5_; have s6 := heap_lt u6_; have s7 := heap_lt u7_
  rw [eza.out] at t53
  rw [ezb.out] at t63
  have hzB := Hh uz_
  clear u2_ u4_ u5_ u6_ uz_ u7_ un_ tf5 tf6 tf7 HK4
  go_upto_region 16 with fail
  exact zz117) : p := h
theorem zz36 {p : Prop} (h : p := by
 first
  | (rename_i hk; exact hk _ _ (tmuse (val_end _ kr hcut) _ rfl rfl rfl rfl rfl rfl))
  | (rename_i hk _; exact hk _ _ (tmuse (val_end _ kr hcut) _ rfl rfl rfl rfl rfl rfl))) : p := h
theorem val_k1 (c : Code) (hc : bodyTl 6 = c) (w wx : World) (b2 b4 b5 b6 bz b7 : Nat) (xa la ha : Nat) (ra : Option Addr) (ka fa : Bool) (xb lb hb : Nat) (rb : Option Addr) (kb fb : Bool) (kn fi : Bool) (EA : Hid (Ent w xa la ha (.pointer ra) ka fa eB)) (EB : Hid (Ent w xb lb hb (.pointer rb) kb fb eB)) (HKN : Hid (kn = true → ka = true ∧ kb = true ∧ KnownP w (.pointer ra) la ha eM ∧ KnownP w (.pointer rb) lb hb eM)) (HFI : Hid (fi = true → FineP xa la ha ∧ FineP xb lb hb)) (HT : Hid (Tab w)) (HT2 : Hid (Tab32 w)) (hS : StW w wx b2 b4 b5 b6 bz b7 1 xa la ha ra ka fa xb lb hb rb kb fb (.float .f64 0) (.float .f64 0) (.float .f64 0) (.pointer (some ⟨bz, 0, none⟩)) (.bool kn) (.bool fi)) (T : Nat → Value) : Code.wp Tryz.prog c (bodyPost Tryz.prog Tryz.f7 (StP w)) (TMt T b2 b4 b5 b6 b7) wx := by
 obtain ⟨F7, hF7⟩ : ∃ F, F = Tryz.f7 := ⟨_, rfl⟩
 rw [← hF7]
 subst hc
 simp only [bodyTl, Nat.repeat, Tryz.f7, cTl, Option.getD]
 subst hF7
 unfold TMt
 have HS := Hh hS; clear hS
 have hadd := fun t x y w => run_ar .add (.inr (.inl rfl)) t x y Tryz.prog w
 have hsub := fun t x y w => run_ar .sub (.inl rfl) t x y Tryz.prog w
 have hmul := fun t x y w => run_ar .mul (.inr (.inr (.inl rfl))) t x y Tryz.prog w
 have IC := Hh (fun w hT => iAdd la ha lb hb EA.out.2.1 EB.out.2.1 w hT)
 obtain ⟨u2_, u4_, u5_, u6_, uz_, u7_, uw, un_⟩ := HS.out
 have s5 := heap_lt u5_; have s6 := heap_lt u6_; have s7 := heap_lt u7_; have s2 := World.block_lt_of_cell? _ _ u2_; have s4 := heap_lt u4_
 clear u4_ u5_ u6_ u7_ uz_ un_
 go_upto_block 0 with fail
 go_cut [] from 94 to 242 (fun wx => R35 w wx b2 b4 b5 b6 bz b7 1 xa la ha ra ka fa xb lb hb rb kb fb)
 case first =>
  go_upto_region 14 with fail
  clear s2 s4 s5 s6 s7 u2_ uw
  refine wp_region_schG (fun W => StW w W b2 b4 b5 b6 bz b7 1 xa la ha ra ka fa xb lb hb rb kb fb (.float .f64 0) (.float .f64 0) (.float .f64 0) (.pointer (some ⟨bz, 0, none⟩)) (.bool kn) (.bool fi)) 11 (.firm 0 (.firm 1 (.firm 2 (.firm 3 (.firm 5 (.firm 6 (.firm 7 (.firm 8 (.two 4 (.firm 10 (.one 9 (.one 11 (.one 12 (.one 13 .nil))))) 9 (.one 4 (.firm 10 (.one 11 (.one 12 (.one 13 .nil)))))))))))))) kr kr HS.out ?_
  rintro w0 hS0
  have HS0 := Hh hS0
  obtain ⟨u2_, u4_, u5_, u6_, uz_, u7_, uw, un_⟩ := hS0
  obtain ⟨t50, t51, t52, -, -, -, tf5⟩ := six_cells u5_
  obtain ⟨t60, t61, t62, -, -, -, tf6⟩ := six_cells u6_
  have s5 := heap_lt u5_; have s6 := heap_lt u6_; have s7 := heap_lt u7_; have s2 := World.block_lt_of_cell? _ _ u2_; have s4 := heap_lt u4_
  clear u2_ tf5 tf6 s2 s4
  clear u4_ u5_ u6_ u7_ uz_ un_
  try simp only [pu]
  iterate 8
   apply sch_firm rfl rfl wa
   ·intro wq hq
    have hcq := hq.cells
    clear hq
    go_simp
    rfl
   try simp only [pu]
  refine sch_two rfl rfl rfl rfl (fun K hK => ?_) (fun K hK => ?_)
  ·go_simp
   refine hK _ _ wa ?_
   clear hK K
   try simp only [pu]
   apply sch_firm rfl rfl wa
   ·intro wq hq
    have hcq := hq.cells
    clear hq
    go_simp
    rfl
   try simp only [pu]
   refine sch_one rfl rfl (fun K hK => ?_)
   go_simp
   refine (IC.out _ (HT.out.of wa)).mono ?_; rintro r9 v9 ⟨l7, h7, rfl, hi7, hh7, hb9⟩
   have hv9 : Within w0 v9 := Within.trans wa hb9
   have HI := Hh (And.intro hi7 hh7)
   clear hi7 hh7
   refine hK _ _ (fun _ => wa) ?_
   clear hK K
   exact zz8
  ·go_simp
   refine (IC.out _ (HT.out.of wa)).mono ?_; rintro r9 v9 ⟨l7, h7, rfl, hi7, hh7, hb9⟩
   have hv9 : Within w0 v9 := Within.trans wa hb9
   have HI := Hh (And.intro hi7 hh7)
   clear hi7 hh7
   refine hK _ _ wa ?_
   clear hK K
   try simp only [pu]
   refine sch_one rfl rfl (fun K hK => ?_)
   go_simp
   refine hK _ _ (fun _ => wa) ?_
   clear hK K
   try simp only [pu]
   apply sch_firm rfl rfl wa
   ·intro wq hq
    have hcq := hq.cells
    clear hq
    go_simp
    rfl
   exact zz8
 case rest =>
 exact zz36
theorem zz9 {p : Prop} (h : p := by
 try simp only [pu]
 refine sch_one rfl rfl (fun K hK => ?_)
 first
  | (obtain ⟨V, hV, hvw⟩ : ∃ V, V = arW .sub xa xb v9 ∧ Within w0 V := ⟨_, rfl, arW_within hv9 _ _ _⟩; rw [← hV]; obtain ⟨x7, hx7⟩ : ∃ x, x = arF .sub xa xb v9 := ⟨_, rfl⟩; rw [← hx7]; have HX := Hh (show x7 < 18446744073709551616 ∧ (fi = true → Fi x7 → FineP x7 l7 h7) from ⟨by rw [hx7]; exact (fv_ar _ _ _ _).2, fun e g => by rw [hx7] at g ⊢; exact fine_sub (HFI.out e).1 (HFI.out e).2 HI.out.2 g⟩); clear hx7 hV)
  | (obtain ⟨V, hV, hvw⟩ : ∃ V, V = v9 ∧ Within w0 V := ⟨_, rfl, hv9⟩; rw [← hV]; obtain ⟨x7, hx7⟩ : ∃ x, x = arF .sub xa xb w0.drew := ⟨_, rfl⟩; rw [← hx7]; have HX := Hh (show x7 < 18446744073709551616 ∧ (fi = true → Fi x7 → FineP x7 l7 h7) from ⟨by rw [hx7]; exact (fv_ar _ _ _ _).2, fun e g => by rw [hx7] at g ⊢; exact fine_sub (HFI.out e).1 (HFI.out e).2 HI.out.2 g⟩); clear hx7 hV)
 have HS1 := Hh (HS0.out.of hvw)
 obtain ⟨-, -, -, -, -, u7_, -, -⟩ := HS1.out
 obtain ⟨k70, -, -, -, -, -, kf7⟩ := six_cells u7_
 have kf70 := kf7 0
 clear u7_ kf7
 go_simp
 refine hK _ _ ab ?_
 clear hK K
 try simp only [pu]
 refine sch_one rfl rfl (fun K hK => ?_)
 go_simp
 refine hK _ _ ab ?_
 clear hK K
 try simp only [pu]
 refine sch_one rfl rfl (fun K hK => ?_)
 have HS2 := Hh (HS1.out.set0 (.float .f64 x7))
 obtain ⟨-, -, -, -, -, u7_, -, -⟩ := HS2.out
 obtain ⟨-, k71, -, -, -, -, kf7⟩ := six_cells u7_
 obtain ⟨-, -, k72, -, -, -, kg7⟩ := six_cells (six_set1 u7_ (.float .f64 l7))
 have kf71 := kf7 1; have kg72 := kg7 2
 clear u7_ kf7 kg7 k70 kf70
 go_simp
 refine hK _ _ ab ?_
 clear hK K
 try simp only [pu]
 refine sch_nil ?_
 obtain ⟨W, hW⟩ : ∃ W', W' = ((V.setCell ⟨b7, 0, none⟩ (.float .f64 x7)).setCell ⟨b7, 1, none⟩ (.float .f64 l7)).setCell ⟨b7, 2, none⟩ (.float .f64 h7) := ⟨_, rfl⟩
 have HSW : Hid (StW w W b2 b4 b5 b6 bz b7 2 xa la ha ra ka fa xb lb hb rb kb fb (.float .f64 x7) (.float .f64 l7) (.float .f64 h7) (.pointer (some ⟨bz, 0, none⟩)) (.bool kn) (.bool fi)) := Hh (by rw [hW]; exact (HS2.out.set1 _).set2 _)
 rw [← hW]
 clear hW k71 k72 kf71 kg72 t50 t51 t52 t60 t61 t62 s5 s6 s7 uw hvw hv9 hb9 HS1 HS2 HS0 hadd hsub hmul IC
 cases kn
 ·exact zz115
 ·obtain ⟨hka, hkb, ⟨za, ma, da, eza, hda, hra, hha, bma, bda⟩, ⟨zb, mb, db, ezb, hdb, hrb, hhb, bmb, bdb⟩⟩ := HKN.out (by trivial)
  injection eza with eza; injection ezb with ezb
  replace eza := Hh eza; replace ezb := Hh ezb
  clear hka hkb
  have ela : eM ≤ eB := by rw [eM_is, eB_is]; decide
  have lM : 2 * eM + 1 ≤ eB := by rw [eM_is, eB_is]; decide
  have lD : 2 * eM ≤ eB := by rw [eM_is, eB_is]; decide
  have lw : ∀ {n : Nat}, n < 2 ^ eM → (dg n).length ≤ 1000 := fun h => len_5000 (Nat.lt_of_lt_of_le h (Nat.pow_le_pow_right dc ela))
  have RT := Hh (fun w hT hz hx hy => Rsub bz za zb ma da mb db hda hdb (lw bma) (lw bda) (lw bmb) (lw bdb) w hT hz hx hy)
  have RQ := Hh (fun (l7 h7 : Nat) (hS : ∀ e, SubS la ha lb hb e → Holds l7 h7 e) (w0 w' : World) (e : Ending) (hp : RatP w0 bz (frQ ma da - frQ mb db) (ma.natAbs * db + mb.natAbs * da) (da * db) e w') => known_of (K := eB) hp (hS _ ⟨_, _, hha, hhb, rfl⟩) (two_pow_sum bma bdb bmb bda (Nat.le_refl _) lM) (two_pow_add bda bdb (Nat.le_refl _) lD))
  have HRA := Hh hra; have HRB := Hh hrb
  clear hra hrb hha hhb bma bda bmb bdb ela lM lD lw hda hdb
  have HK4 := Hh HSW
  obtain ⟨u2_, u4_, u5_, u6_, uz_, u7_, uw, un_⟩ := HSW.out
  obtain ⟨-, -, -, t73, t74, -, tf7⟩ := six_cells u7_
  obtain ⟨-, -, -, t53, -, -, tf5⟩ := six_cells u5_
  obtain ⟨-, -, -, t63, -, -, tf6⟩ := six_cells u6_
  have s5 := heap_lt u5_; have s6 := heap_lt u6_; have s7 := heap_lt u7_
  rw [eza.out] at t53
  rw [ezb.out] at t63
  have hzB := Hh uz_
  clear u2_ u4_ u5_ u6_ uz_ u7_ un_ tf5 tf6 tf7 HK4
  go_upto_region 20 with fail
  exact zz117) : p := h
theorem val_k2 (c : Code) (hc : bodyTl 6 = c) (w wx : World) (b2 b4 b5 b6 bz b7 : Nat) (xa la ha : Nat) (ra : Option Addr) (ka fa : Bool) (xb lb hb : Nat) (rb : Option Addr) (kb fb : Bool) (kn fi : Bool) (EA : Hid (Ent w xa la ha (.pointer ra) ka fa eB)) (EB : Hid (Ent w xb lb hb (.pointer rb) kb fb eB)) (HKN : Hid (kn = true → ka = true ∧ kb = true ∧ KnownP w (.pointer ra) la ha eM ∧ KnownP w (.pointer rb) lb hb eM)) (HFI : Hid (fi = true → FineP xa la ha ∧ FineP xb lb hb)) (HT : Hid (Tab w)) (HT2 : Hid (Tab32 w)) (hS : StW w wx b2 b4 b5 b6 bz b7 2 xa la ha ra ka fa xb lb hb rb kb fb (.float .f64 0) (.float .f64 0) (.float .f64 0) (.pointer (some ⟨bz, 0, none⟩)) (.bool kn) (.bool fi)) (T : Nat → Value) : Code.wp Tryz.prog c (bodyPost Tryz.prog Tryz.f7 (StP w)) (TMt T b2 b4 b5 b6 b7) wx := by
 obtain ⟨F7, hF7⟩ : ∃ F, F = Tryz.f7 := ⟨_, rfl⟩
 rw [← hF7]
 subst hc
 simp only [bodyTl, Nat.repeat, Tryz.f7, cTl, Option.getD]
 subst hF7
 unfold TMt
 have HS := Hh hS; clear hS
 have hadd := fun t x y w => run_ar .add (.inr (.inl rfl)) t x y Tryz.prog w
 have hsub := fun t x y w => run_ar .sub (.inl rfl) t x y Tryz.prog w
 have hmul := fun t x y w => run_ar .mul (.inr (.inr (.inl rfl))) t x y Tryz.prog w
 have IC := Hh (fun w hT => iSub la ha lb hb EA.out.2.1 EB.out.2.1 w hT)
 obtain ⟨u2_, u4_, u5_, u6_, uz_, u7_, uw, un_⟩ := HS.out
 have s5 := heap_lt u5_; have s6 := heap_lt u6_; have s7 := heap_lt u7_; have s2 := World.block_lt_of_cell? _ _ u2_; have s4 := heap_lt u4_
 clear u4_ u5_ u6_ u7_ uz_ un_
 go_upto_block 0 with fail
 go_cut [] from 94 to 242 (fun wx => R35 w wx b2 b4 b5 b6 bz b7 2 xa la ha ra ka fa xb lb hb rb kb fb)
 case first =>
  go_upto_region 18 with fail
  clear s2 s4 s5 s6 s7 u2_ uw
  refine wp_region_schG (fun W => StW w W b2 b4 b5 b6 bz b7 2 xa la ha ra ka fa xb lb hb rb kb fb (.float .f64 0) (.float .f64 0) (.float .f64 0) (.pointer (some ⟨bz, 0, none⟩)) (.bool kn) (.bool fi)) 11 (.firm 0 (.firm 1 (.firm 2 (.firm 3 (.firm 5 (.firm 6 (.firm 7 (.firm 8 (.two 4 (.firm 10 (.one 9 (.one 11 (.one 12 (.one 13 .nil))))) 9 (.one 4 (.firm 10 (.one 11 (.one 12 (.one 13 .nil)))))))))))))) kr kr HS.out ?_
  rintro w0 hS0
  have HS0 := Hh hS0
  obtain ⟨u2_, u4_, u5_, u6_, uz_, u7_, uw, un_⟩ := hS0
  obtain ⟨t50, t51, t52, -, -, -, tf5⟩ := six_cells u5_
  obtain ⟨t60, t61, t62, -, -, -, tf6⟩ := six_cells u6_
  have s5 := heap_lt u5_; have s6 := heap_lt u6_; have s7 := heap_lt u7_; have s2 := World.block_lt_of_cell? _ _ u2_; have s4 := heap_lt u4_
  clear u2_ tf5 tf6 s2 s4
  clear u4_ u5_ u6_ u7_ uz_ un_
  try simp only [pu]
  iterate 8
   apply sch_firm rfl rfl wa
   ·intro wq hq
    have hcq := hq.cells
    clear hq
    go_simp
    rfl
   try simp only [pu]
  refine sch_two rfl rfl rfl rfl (fun K hK => ?_) (fun K hK => ?_)
  ·go_simp
   refine hK _ _ wa ?_
   clear hK K
   try simp only [pu]
   apply sch_firm rfl rfl wa
   ·intro wq hq
    have hcq := hq.cells
    clear hq
    go_simp
    rfl
   try simp only [pu]
   refine sch_one rfl rfl (fun K hK => ?_)
   go_simp
   refine (IC.out _ (HT.out.of wa)).mono ?_; rintro r9 v9 ⟨l7, h7, rfl, hi7, hh7, hb9⟩
   have hv9 : Within w0 v9 := Within.trans wa hb9
   have HI := Hh (And.intro hi7 hh7)
   clear hi7 hh7
   refine hK _ _ (fun _ => wa) ?_
   clear hK K
   exact zz9
  ·go_simp
   refine (IC.out _ (HT.out.of wa)).mono ?_; rintro r9 v9 ⟨l7, h7, rfl, hi7, hh7, hb9⟩
   have hv9 : Within w0 v9 := Within.trans wa hb9
   have HI := Hh (And.intro hi7 hh7)
   clear hi7 hh7
   refine hK _ _ wa ?_
   clear hK K
   try simp only [pu]
   refine sch_one rfl rfl (fun K hK => ?_)
   go_simp
   refine hK _ _ (fun _ => wa) ?_
   clear hK K
   try simp only [pu]
   apply sch_firm rfl rfl wa
   ·intro wq hq
    have hcq := hq.cells
    clear hq
    go_simp
    rfl
   exact zz9
 case rest =>
 exact zz36
theorem zz10 {p : Prop} (h : p := by
 try simp only [pu]
 refine sch_one rfl rfl (fun K hK => ?_)
 first
  | (obtain ⟨V, hV, hvw⟩ : ∃ V, V = arW .mul xa xb v9 ∧ Within w0 V := ⟨_, rfl, arW_within hv9 _ _ _⟩; rw [← hV]; obtain ⟨x7, hx7⟩ : ∃ x, x = arF .mul xa xb v9 := ⟨_, rfl⟩; rw [← hx7]; have HX := Hh (show x7 < 18446744073709551616 ∧ (fi = true → Fi x7 → FineP x7 l7 h7) from ⟨by rw [hx7]; exact (fv_ar _ _ _ _).2, fun e g => by rw [hx7] at g ⊢; exact fine_mul (HFI.out e).1 (HFI.out e).2 HI.out.2 g⟩); clear hx7 hV)
  | (obtain ⟨V, hV, hvw⟩ : ∃ V, V = v9 ∧ Within w0 V := ⟨_, rfl, hv9⟩; rw [← hV]; obtain ⟨x7, hx7⟩ : ∃ x, x = arF .mul xa xb w0.drew := ⟨_, rfl⟩; rw [← hx7]; have HX := Hh (show x7 < 18446744073709551616 ∧ (fi = true → Fi x7 → FineP x7 l7 h7) from ⟨by rw [hx7]; exact (fv_ar _ _ _ _).2, fun e g => by rw [hx7] at g ⊢; exact fine_mul (HFI.out e).1 (HFI.out e).2 HI.out.2 g⟩); clear hx7 hV)
 have HS1 := Hh (HS0.out.of hvw)
 obtain ⟨-, -, -, -, -, u7_, -, -⟩ := HS1.out
 obtain ⟨k70, -, -, -, -, -, kf7⟩ := six_cells u7_
 have kf70 := kf7 0
 clear u7_ kf7
 go_simp
 refine hK _ _ ab ?_
 clear hK K
 try simp only [pu]
 refine sch_one rfl rfl (fun K hK => ?_)
 go_simp
 refine hK _ _ ab ?_
 clear hK K
 try simp only [pu]
 refine sch_one rfl rfl (fun K hK => ?_)
 have HS2 := Hh (HS1.out.set0 (.float .f64 x7))
 obtain ⟨-, -, -, -, -, u7_, -, -⟩ := HS2.out
 obtain ⟨-, k71, -, -, -, -, kf7⟩ := six_cells u7_
 obtain ⟨-, -, k72, -, -, -, kg7⟩ := six_cells (six_set1 u7_ (.float .f64 l7))
 have kf71 := kf7 1; have kg72 := kg7 2
 clear u7_ kf7 kg7 k70 kf70
 go_simp
 refine hK _ _ ab ?_
 clear hK K
 try simp only [pu]
 refine sch_nil ?_
 obtain ⟨W, hW⟩ : ∃ W', W' = ((V.setCell ⟨b7, 0, none⟩ (.float .f64 x7)).setCell ⟨b7, 1, none⟩ (.float .f64 l7)).setCell ⟨b7, 2, none⟩ (.float .f64 h7) := ⟨_, rfl⟩
 have HSW : Hid (StW w W b2 b4 b5 b6 bz b7 3 xa la ha ra ka fa xb lb hb rb kb fb (.float .f64 x7) (.float .f64 l7) (.float .f64 h7) (.pointer (some ⟨bz, 0, none⟩)) (.bool kn) (.bool fi)) := Hh (by rw [hW]; exact (HS2.out.set1 _).set2 _)
 rw [← hW]
 clear hW k71 k72 kf71 kg72 t50 t51 t52 t60 t61 t62 s5 s6 s7 uw hvw hv9 hb9 HS1 HS2 HS0 hadd hsub hmul IC
 cases kn
 ·exact zz115
 ·obtain ⟨hka, hkb, ⟨za, ma, da, eza, hda, hra, hha, bma, bda⟩, ⟨zb, mb, db, ezb, hdb, hrb, hhb, bmb, bdb⟩⟩ := HKN.out (by trivial)
  injection eza with eza; injection ezb with ezb
  replace eza := Hh eza; replace ezb := Hh ezb
  clear hka hkb
  have ela : eM ≤ eB := by rw [eM_is, eB_is]; decide
  have lM : 2 * eM + 1 ≤ eB := by rw [eM_is, eB_is]; decide
  have lD : 2 * eM ≤ eB := by rw [eM_is, eB_is]; decide
  have lw : ∀ {n : Nat}, n < 2 ^ eM → (dg n).length ≤ 1000 := fun h => len_5000 (Nat.lt_of_lt_of_le h (Nat.pow_le_pow_right dc ela))
  have RT := Hh (fun w hT hz hx hy => Rmul bz za zb ma da mb db hda hdb (lw bma) (lw bda) (lw bmb) (lw bdb) w hT hz hx hy)
  have RQ := Hh (fun (l7 h7 : Nat) (hS : ∀ e, MulS la ha lb hb e → Holds l7 h7 e) (w0 w' : World) (e : Ending) (hp : RatP w0 bz (frQ ma da * frQ mb db) (ma.natAbs * mb.natAbs) (da * db) e w') => known_of (K := eB) hp (hS _ ⟨_, _, hha, hhb, rfl⟩) (two_pow_add bma bmb (Nat.le_refl _) lD) (two_pow_add bda bdb (Nat.le_refl _) lD))
  have HRA := Hh hra; have HRB := Hh hrb
  clear hra hrb hha hhb bma bda bmb bdb ela lM lD lw hda hdb
  have HK4 := Hh HSW
  obtain ⟨u2_, u4_, u5_, u6_, uz_, u7_, uw, un_⟩ := HSW.out
  obtain ⟨-, -, -, t73, t74, -, tf7⟩ := six_cells u7_
  obtain ⟨-, -, -, t53, -, -, tf5⟩ := six_cells u5_
  obtain ⟨-, -, -, t63, -, -, tf6⟩ := six_cells u6_
  have s5 := heap_lt u5_; have s6 := heap_lt u6_; have s7 := heap_lt u7_
  rw [eza.out] at t53
  rw [ezb.out] at t63
  have hzB := Hh uz_
  clear u2_ u4_ u5_ u6_ uz_ u7_ un_ tf5 tf6 tf7 HK4
  go_upto_region 24 with fail
  exact zz117) : p := h
theorem val_k3 (c : Code) (hc : bodyTl 6 = c) (w wx : World) (b2 b4 b5 b6 bz b7 : Nat) (xa la ha : Nat) (ra : Option Addr) (ka fa : Bool) (xb lb hb : Nat) (rb : Option Addr) (kb fb : Bool) (kn fi : Bool) (EA : Hid (Ent w xa la ha (.pointer ra) ka fa eB)) (EB : Hid (Ent w xb lb hb (.pointer rb) kb fb eB)) (HKN : Hid (kn = true → ka = true ∧ kb = true ∧ KnownP w (.pointer ra) la ha eM ∧ KnownP w (.pointer rb) lb hb eM)) (HFI : Hid (fi = true → FineP xa la ha ∧ FineP xb lb hb)) (HT : Hid (Tab w)) (HT2 : Hid (Tab32 w)) (hS : StW w wx b2 b4 b5 b6 bz b7 3 xa la ha ra ka fa xb lb hb rb kb fb (.float .f64 0) (.float .f64 0) (.float .f64 0) (.pointer (some ⟨bz, 0, none⟩)) (.bool kn) (.bool fi)) (T : Nat → Value) : Code.wp Tryz.prog c (bodyPost Tryz.prog Tryz.f7 (StP w)) (TMt T b2 b4 b5 b6 b7) wx := by
 obtain ⟨F7, hF7⟩ : ∃ F, F = Tryz.f7 := ⟨_, rfl⟩
 rw [← hF7]
 subst hc
 simp only [bodyTl, Nat.repeat, Tryz.f7, cTl, Option.getD]
 subst hF7
 unfold TMt
 have HS := Hh hS; clear hS
 have hadd := fun t x y w => run_ar .add (.inr (.inl rfl)) t x y Tryz.prog w
 have hsub := fun t x y w => run_ar .sub (.inl rfl) t x y Tryz.prog w
 have hmul := fun t x y w => run_ar .mul (.inr (.inr (.inl rfl))) t x y Tryz.prog w
 have IC := Hh (fun w hT => iMul la ha lb hb EA.out.2.1 EB.out.2.1 w hT)
 obtain ⟨u2_, u4_, u5_, u6_, uz_, u7_, uw, un_⟩ := HS.out
 have s5 := heap_lt u5_; have s6 := heap_lt u6_; have s7 := heap_lt u7_; have s2 := World.block_lt_of_cell? _ _ u2_; have s4 := heap_lt u4_
 clear u4_ u5_ u6_ u7_ uz_ un_
 go_upto_block 0 with fail
 go_cut [] from 94 to 242 (fun wx => R35 w wx b2 b4 b5 b6 bz b7 3 xa la ha ra ka fa xb lb hb rb kb fb)
 case first =>
  go_upto_region 22 with fail
  clear s2 s4 s5 s6 s7 u2_ uw
  refine wp_region_schG (fun W => StW w W b2 b4 b5 b6 bz b7 3 xa la ha ra ka fa xb lb hb rb kb fb (.float .f64 0) (.float .f64 0) (.float .f64 0) (.pointer (some ⟨bz, 0, none⟩)) (.bool kn) (.bool fi)) 11 (.firm 0 (.firm 1 (.firm 2 (.firm 3 (.firm 5 (.firm 6 (.firm 7 (.firm 8 (.two 4 (.firm 10 (.one 9 (.one 11 (.one 12 (.one 13 .nil))))) 9 (.one 4 (.firm 10 (.one 11 (.one 12 (.one 13 .nil)))))))))))))) kr kr HS.out ?_
  rintro w0 hS0
  have HS0 := Hh hS0
  obtain ⟨u2_, u4_, u5_, u6_, uz_, u7_, uw, un_⟩ := hS0
  obtain ⟨t50, t51, t52, -, -, -, tf5⟩ := six_cells u5_
  obtain ⟨t60, t61, t62, -, -, -, tf6⟩ := six_cells u6_
  have s5 := heap_lt u5_; have s6 := heap_lt u6_; have s7 := heap_lt u7_; have s2 := World.block_lt_of_cell? _ _ u2_; have s4 := heap_lt u4_
  clear u2_ tf5 tf6 s2 s4
  clear u4_ u5_ u6_ u7_ uz_ un_
  try simp only [pu]
  iterate 8
   apply sch_firm rfl rfl wa
   ·intro wq hq
    have hcq := hq.cells
    clear hq
    go_simp
    rfl
   try simp only [pu]
  refine sch_two rfl rfl rfl rfl (fun K hK => ?_) (fun K hK => ?_)
  ·go_simp
   refine hK _ _ wa ?_
   clear hK K
   try simp only [pu]
   apply sch_firm rfl rfl wa
   ·intro wq hq
    have hcq := hq.cells
    clear hq
    go_simp
    rfl
   try simp only [pu]
   refine sch_one rfl rfl (fun K hK => ?_)
   go_simp
   refine (IC.out _ (HT.out.of wa)).mono ?_; rintro r9 v9 ⟨l7, h7, rfl, hi7, hh7, hb9⟩
   have hv9 : Within w0 v9 := Within.trans wa hb9
   have HI := Hh (And.intro hi7 hh7)
   clear hi7 hh7
   refine hK _ _ (fun _ => wa) ?_
   clear hK K
   exact zz10
  ·go_simp
   refine (IC.out _ (HT.out.of wa)).mono ?_; rintro r9 v9 ⟨l7, h7, rfl, hi7, hh7, hb9⟩
   have hv9 : Within w0 v9 := Within.trans wa hb9
   have HI := Hh (And.intro hi7 hh7)
   clear hi7 hh7
   refine hK _ _ wa ?_
   clear hK K
   try simp only [pu]
   refine sch_one rfl rfl (fun K hK => ?_)
   go_simp
   refine hK _ _ (fun _ => wa) ?_
   clear hK K
   try simp only [pu]
   apply sch_firm rfl rfl wa
   ·intro wq hq
    have hcq := hq.cells
    clear hq
    go_simp
    rfl
   exact zz10
 case rest =>
 exact zz36
end Go.Proofs.YtgkcpnidmfejeaaGreatDoor
