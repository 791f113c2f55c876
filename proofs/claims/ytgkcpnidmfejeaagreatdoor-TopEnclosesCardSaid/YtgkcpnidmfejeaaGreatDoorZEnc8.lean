/- What the law's walk rests on, part 8: contracts of functions and plain facts. -/
import Derived.Test.YtgkcpnidmfejeaaGreatDoorZEnc7
set_option linter.unusedVariables false
set_option linter.unusedSimpArgs false
set_option maxRecDepth 100000
set_option maxHeartbeats 4000000
namespace Go.Proofs.YtgkcpnidmfejeaaGreatDoor
open Go.RowKit
theorem zz80 {p : Prop} (h : p := by
 obtain ⟨-, -, -, -, -, u7_, -, -⟩ := HSv.out
 obtain ⟨-, -, -, -, k74, -, kf7⟩ := six_cells u7_
 have kf74 := kf7 4
 clear u7_ kf7
 go_wp2_with fail
 go_meet
 exact HSv.out.set4 _) : p := h
theorem zz128 {p : Prop} (h : p := by
 go_upto_if 90 with fail
 go_cut [] (fun wx => StW w wx b2 b4 b5 b6 bz b7 K xa la ha ra ka fa xb lb hb rb kb fb (.float .f64 0) (.float .f64 0) (.float .f64 0) (.pointer (some ⟨bz, 0, none⟩)) (.bool false) (.bool fi))
 case first =>
  exact zz80
 case rest =>
 exact zz35) : p := h
theorem size_a (c : Code) (hc : bodyTl 5 = c) (w wx : World) (K : Int) (b2 b4 b5 b6 bz b7 : Nat) (xa la ha : Nat) (ra : Option Addr) (ka fa : Bool) (xb lb hb : Nat) (rb : Option Addr) (kb fb : Bool) (fi : Bool) (za : Nat) (ma : Int) (da : Nat) (eza : Hid (ra = some ⟨za, 0, none⟩)) (hda : 0 < da) (HRa : Hid (RatB w za ma da)) (bma : ma.natAbs < 2 ^ eB) (bda : da < 2 ^ eB) (hg : 2000 < blen ma.natAbs + blen da) (hS : StW w wx b2 b4 b5 b6 bz b7 K xa la ha ra ka fa xb lb hb rb kb fb (.float .f64 0) (.float .f64 0) (.float .f64 0) (.pointer (some ⟨bz, 0, none⟩)) (.bool true) (.bool fi)) (HR : Hid (∀ (c6 : Code), bodyTl 6 = c6 → ∀ (wy : World) (T : Nat → Value), StW w wy b2 b4 b5 b6 bz b7 K xa la ha ra ka fa xb lb hb rb kb fb (.float .f64 0) (.float .f64 0) (.float .f64 0) (.pointer (some ⟨bz, 0, none⟩)) (.bool false) (.bool fi) → Code.wp Tryz.prog c6 (bodyPost Tryz.prog Tryz.f7 (StP w)) (TMt T b2 b4 b5 b6 b7) wy)) (T : Nat → Value) : Code.wp Tryz.prog c (bodyPost Tryz.prog Tryz.f7 (StP w)) (TMt T b2 b4 b5 b6 b7) wx := by
 obtain ⟨F7, hF7⟩ : ∃ F, F = Tryz.f7 := ⟨_, rfl⟩
 rw [← hF7]
 subst hc
 simp only [bodyTl, Nat.repeat, Tryz.f7, cTl, Option.getD]
 subst hF7
 unfold TMt
 have HS := Hh hS; clear hS
 have RNa := Hh (fun w hz => Rnum za w hz); have RDa := Hh (fun w hz => Rdenom za ma da hda (len_5000 bda) w hz)
 have BNa := Hh (fun w hz => Bbitlen_num za ma da (len_5000 bma) w hz); have BDa := Hh (fun g w hz => Bbitlen_int g (da : Int) (by rw [Int.natAbs_natCast]; exact len_5000 bda) w hz)
 have cNa := blen_5000 bma; have cDa := blen_5000 bda
 rw [show (da : Int).natAbs = da from Int.natAbs_natCast _] at BDa
 clear bma bda hda
 generalize blen ma.natAbs = Na at *; generalize blen da = Da at *
 have wra : IntKind.i64.wrap ((Na : Int) + (Da : Int)) = (Na : Int) + (Da : Int) := by rw [IntKind.wrap_i64]; omega
 have dga : decide ((Na : Int) + (Da : Int) > 2000) = true := decide_eq_true om
 go_upto_region 6 with fail
 refine wp_region_schG (fun W => StW w W b2 b4 b5 b6 bz b7 K xa la ha ra ka fa xb lb hb rb kb fb (.float .f64 0) (.float .f64 0) (.float .f64 0) (.pointer (some ⟨bz, 0, none⟩)) (.bool true) (.bool fi)) 25 (.firm 0 (.firm 1 (.firm 2 (.firm 3 (.firm 4 (.firm 7 (.firm 8 (.one 5 (.one 6 (.one 9 (.one 10 (.firm 11 (.firm 12 (.firm 13 (.firm 14 (.firm 15 (.firm 18 (.firm 19 (.one 16 (.one 17 (.one 20 (.one 21 (.firm 22 (.firm 23 (.firm 24 (.one 25 .nil)))))))))))))))))))))))))) kr kr HS.out ?_
 rintro w0 hS0
 have HS0 := Hh hS0
 obtain ⟨u2_, u4_, u5_, u6_, uz_, u7_, uw, un_⟩ := hS0
 obtain ⟨-, -, -, t53, -, -, tf5⟩ := six_cells u5_
 obtain ⟨-, -, -, t63, -, -, tf6⟩ := six_cells u6_
 obtain ⟨-, -, -, -, t74, -, tf7⟩ := six_cells u7_
 have s5 := heap_lt u5_; have s6 := heap_lt u6_; have s7 := heap_lt u7_; have s2 := World.block_lt_of_cell? _ _ u2_; have s4 := heap_lt u4_
 rw [eza.out] at t53
 clear u4_ u5_ u6_ u7_ uz_ un_
 clear u2_ tf5 tf6 tf7 s2 s4
 have hv0 := (Within.refl w0).drew
 try simp only [pu]
 iterate 3
  apply sch_firm rfl rfl wi
  ·intro wq hq
   have hcq := hq.cells
   clear hq
   go_simp
   rfl
  try simp only [pu]
 iterate 4
  apply sch_want rfl wnt wi
  ·intro wq hq
   have hcq := hq.cells
   clear hq
   go_simp
   rfl
  try simp only [pu]
 refine sch_one_want rfl wnt (fun K hK => ?_)
 go_simp
 refine (RNa.out _ (HRa.out.of (uw.trans hv0)).ty).mono ?_; rintro r1 w1 ⟨rfl, rfl⟩
 refine hK _ _ (fun _ => wi) ?_
 clear hK K
 try simp only [pu]
 refine sch_one_want rfl wnt (fun K hK => ?_)
 go_simp
 refine (BNa.out _ (HRa.out.of (uw.trans hv0))).mono ?_; rintro r2 w2 ⟨rfl, hb2⟩
 have hv2 := hv0.trans hb2
 refine hK _ _ (fun _ => wi) ?_
 clear hK K
 try simp only [pu]
 refine sch_one_want rfl wnt (fun K hK => ?_)
 go_simp
 refine (RDa.out _ (HRa.out.of (uw.trans hv2))).mono ?_; rintro r3 w3 ⟨gda, rfl, hIa, hb3⟩
 have hv3 := hv2.trans hb3
 refine hK _ _ (fun _ => wi) ?_
 clear hK K
 try simp only [pu]
 refine sch_one_want rfl wnt (fun K hK => ?_)
 go_simp
 refine (BDa.out gda _ hIa).mono ?_; rintro r4 w4 ⟨rfl, hb4⟩
 have hv4 := hv3.trans hb4
 refine hK _ _ (fun _ => wi) ?_
 clear hK K
 try simp only [pu]
 iterate 3
  apply sch_want rfl wnt wi
  ·intro wq hq
   have hcq := hq.cells
   clear hq
   go_simp
   rfl
  try simp only [pu]
 iterate 4
  refine sch_skip rfl wnt wi ?_
  try simp only [pu]
 iterate 4
  refine sch_one_skip rfl wnt wi ?_
  try simp only [pu]
 iterate 2
  refine sch_skip rfl wnt wi ?_
  try simp only [pu]
 apply sch_want rfl wnt wi
 ·intro wq hq
  have hcq := hq.cells
  clear hq
  go_simp
  rfl
 try simp only [pu]
 refine sch_one rfl rfl (fun K hK => ?_)
 go_simp
 refine hK _ _ ab ?_
 clear hK K
 try simp only [pu]
 refine sch_nil ?_
 have HSv := Hh (HS0.out.of hv4)
 exact zz128
theorem size_b (c : Code) (hc : bodyTl 5 = c) (w wx : World) (K : Int) (b2 b4 b5 b6 bz b7 : Nat) (xa la ha : Nat) (ra : Option Addr) (ka fa : Bool) (xb lb hb : Nat) (rb : Option Addr) (kb fb : Bool) (fi : Bool) (za : Nat) (ma : Int) (da : Nat) (eza : Hid (ra = some ⟨za, 0, none⟩)) (hda : 0 < da) (HRa : Hid (RatB w za ma da)) (bma : ma.natAbs < 2 ^ eB) (bda : da < 2 ^ eB) (zb : Nat) (mb : Int) (db : Nat) (ezb : Hid (rb = some ⟨zb, 0, none⟩)) (hdb : 0 < db) (HRb : Hid (RatB w zb mb db)) (bmb : mb.natAbs < 2 ^ eB) (bdb : db < 2 ^ eB) (hg : ¬ 2000 < blen ma.natAbs + blen da) (hh : 2000 < blen mb.natAbs + blen db) (hS : StW w wx b2 b4 b5 b6 bz b7 K xa la ha ra ka fa xb lb hb rb kb fb (.float .f64 0) (.float .f64 0) (.float .f64 0) (.pointer (some ⟨bz, 0, none⟩)) (.bool true) (.bool fi)) (HR : Hid (∀ (c6 : Code), bodyTl 6 = c6 → ∀ (wy : World) (T : Nat → Value), StW w wy b2 b4 b5 b6 bz b7 K xa la ha ra ka fa xb lb hb rb kb fb (.float .f64 0) (.float .f64 0) (.float .f64 0) (.pointer (some ⟨bz, 0, none⟩)) (.bool false) (.bool fi) → Code.wp Tryz.prog c6 (bodyPost Tryz.prog Tryz.f7 (StP w)) (TMt T b2 b4 b5 b6 b7) wy)) (T : Nat → Value) : Code.wp Tryz.prog c (bodyPost Tryz.prog Tryz.f7 (StP w)) (TMt T b2 b4 b5 b6 b7) wx := by
 obtain ⟨F7, hF7⟩ : ∃ F, F = Tryz.f7 := ⟨_, rfl⟩
 rw [← hF7]
 subst hc
 simp only [bodyTl, Nat.repeat, Tryz.f7, cTl, Option.getD]
 subst hF7
 unfold TMt
 have HS := Hh hS; clear hS
 have RNa := Hh (fun w hz => Rnum za w hz); have RDa := Hh (fun w hz => Rdenom za ma da hda (len_5000 bda) w hz)
 have BNa := Hh (fun w hz => Bbitlen_num za ma da (len_5000 bma) w hz); have BDa := Hh (fun g w hz => Bbitlen_int g (da : Int) (by rw [Int.natAbs_natCast]; exact len_5000 bda) w hz)
 have cNa := blen_5000 bma; have cDa := blen_5000 bda
 rw [show (da : Int).natAbs = da from Int.natAbs_natCast _] at BDa
 clear bma bda hda
 generalize blen ma.natAbs = Na at *; generalize blen da = Da at *
 have wra : IntKind.i64.wrap ((Na : Int) + (Da : Int)) = (Na : Int) + (Da : Int) := by rw [IntKind.wrap_i64]; omega
 have dga : decide ((Na : Int) + (Da : Int) > 2000) = false := decide_eq_false om
 have RNb := Hh (fun w hz => Rnum zb w hz); have RDb := Hh (fun w hz => Rdenom zb mb db hdb (len_5000 bdb) w hz)
 have BNb := Hh (fun w hz => Bbitlen_num zb mb db (len_5000 bmb) w hz); have BDb := Hh (fun g w hz => Bbitlen_int g (db : Int) (by rw [Int.natAbs_natCast]; exact len_5000 bdb) w hz)
 have cNb := blen_5000 bmb; have cDb := blen_5000 bdb
 rw [show (db : Int).natAbs = db from Int.natAbs_natCast _] at BDb
 clear bmb bdb hdb
 generalize blen mb.natAbs = Nb at *; generalize blen db = Db at *
 have wrb : IntKind.i64.wrap ((Nb : Int) + (Db : Int)) = (Nb : Int) + (Db : Int) := by rw [IntKind.wrap_i64]; omega
 have dgb : decide ((Nb : Int) + (Db : Int) > 2000) = true := decide_eq_true om
 go_upto_region 6 with fail
 refine wp_region_schG (fun W => StW w W b2 b4 b5 b6 bz b7 K xa la ha ra ka fa xb lb hb rb kb fb (.float .f64 0) (.float .f64 0) (.float .f64 0) (.pointer (some ⟨bz, 0, none⟩)) (.bool true) (.bool fi)) 25 (.firm 0 (.firm 1 (.firm 2 (.firm 3 (.firm 4 (.firm 7 (.firm 8 (.one 5 (.one 6 (.one 9 (.one 10 (.firm 11 (.firm 12 (.firm 13 (.firm 14 (.firm 15 (.firm 18 (.firm 19 (.one 16 (.one 17 (.one 20 (.one 21 (.firm 22 (.firm 23 (.firm 24 (.one 25 .nil)))))))))))))))))))))))))) kr kr HS.out ?_
 rintro w0 hS0
 have HS0 := Hh hS0
 obtain ⟨u2_, u4_, u5_, u6_, uz_, u7_, uw, un_⟩ := hS0
 obtain ⟨-, -, -, t53, -, -, tf5⟩ := six_cells u5_
 obtain ⟨-, -, -, t63, -, -, tf6⟩ := six_cells u6_
 obtain ⟨-, -, -, -, t74, -, tf7⟩ := six_cells u7_
 have s5 := heap_lt u5_; have s6 := heap_lt u6_; have s7 := heap_lt u7_; have s2 := World.block_lt_of_cell? _ _ u2_; have s4 := heap_lt u4_
 rw [eza.out] at t53
 rw [ezb.out] at t63
 clear u4_ u5_ u6_ u7_ uz_ un_
 clear u2_ tf5 tf6 tf7 s2 s4
 have hv0 := (Within.refl w0).drew
 try simp only [pu]
 iterate 3
  apply sch_firm rfl rfl wi
  ·intro wq hq
   have hcq := hq.cells
   clear hq
   go_simp
   rfl
  try simp only [pu]
 iterate 4
  apply sch_want rfl wnt wi
  ·intro wq hq
   have hcq := hq.cells
   clear hq
   go_simp
   rfl
  try simp only [pu]
 refine sch_one_want rfl wnt (fun K hK => ?_)
 go_simp
 refine (RNa.out _ (HRa.out.of (uw.trans hv0)).ty).mono ?_; rintro r1 w1 ⟨rfl, rfl⟩
 refine hK _ _ (fun _ => wi) ?_
 clear hK K
 try simp only [pu]
 refine sch_one_want rfl wnt (fun K hK => ?_)
 go_simp
 refine (BNa.out _ (HRa.out.of (uw.trans hv0))).mono ?_; rintro r2 w2 ⟨rfl, hb2⟩
 have hv2 := hv0.trans hb2
 refine hK _ _ (fun _ => wi) ?_
 clear hK K
 try simp only [pu]
 refine sch_one_want rfl wnt (fun K hK => ?_)
 go_simp
 refine (RDa.out _ (HRa.out.of (uw.trans hv2))).mono ?_; rintro r3 w3 ⟨gda, rfl, hIa, hb3⟩
 have hv3 := hv2.trans hb3
 refine hK _ _ (fun _ => wi) ?_
 clear hK K
 try simp only [pu]
 refine sch_one_want rfl wnt (fun K hK => ?_)
 go_simp
 refine (BDa.out gda _ hIa).mono ?_; rintro r4 w4 ⟨rfl, hb4⟩
 have hv4 := hv3.trans hb4
 refine hK _ _ (fun _ => wi) ?_
 clear hK K
 try simp only [pu]
 iterate 7
  apply sch_want rfl wnt wi
  ·intro wq hq
   have hcq := hq.cells
   clear hq
   go_simp
   rfl
  try simp only [pu]
 refine sch_one_want rfl wnt (fun K hK => ?_)
 go_simp
 refine (RNb.out _ (HRb.out.of (uw.trans hv4)).ty).mono ?_; rintro r5 w5 ⟨rfl, rfl⟩
 refine hK _ _ (fun _ => wi) ?_
 clear hK K
 try simp only [pu]
 refine sch_one_want rfl wnt (fun K hK => ?_)
 go_simp
 refine (BNb.out _ (HRb.out.of (uw.trans hv4))).mono ?_; rintro r6 w6 ⟨rfl, hb6⟩
 have hv6 := hv4.trans hb6
 refine hK _ _ (fun _ => wi) ?_
 clear hK K
 try simp only [pu]
 refine sch_one_want rfl wnt (fun K hK => ?_)
 go_simp
 refine (RDb.out _ (HRb.out.of (uw.trans hv6))).mono ?_; rintro r7 w7 ⟨gdb, rfl, hIb, hb7⟩
 have hv7 := hv6.trans hb7
 refine hK _ _ (fun _ => wi) ?_
 clear hK K
 try simp only [pu]
 refine sch_one_want rfl wnt (fun K hK => ?_)
 go_simp
 refine (BDb.out gdb _ hIb).mono ?_; rintro r8 w8 ⟨rfl, hb8⟩
 have hv8 := hv7.trans hb8
 refine hK _ _ (fun _ => wi) ?_
 clear hK K
 try simp only [pu]
 iterate 3
  apply sch_want rfl wnt wi
  ·intro wq hq
   have hcq := hq.cells
   clear hq
   go_simp
   rfl
  try simp only [pu]
 refine sch_one rfl rfl (fun K hK => ?_)
 go_simp
 refine hK _ _ ab ?_
 clear hK K
 try simp only [pu]
 refine sch_nil ?_
 have HSv := Hh (HS0.out.of hv8)
 exact zz128
theorem size_c (c : Code) (hc : bodyTl 5 = c) (w wx : World) (K : Int) (b2 b4 b5 b6 bz b7 : Nat) (xa la ha : Nat) (ra : Option Addr) (ka fa : Bool) (xb lb hb : Nat) (rb : Option Addr) (kb fb : Bool) (fi : Bool) (za : Nat) (ma : Int) (da : Nat) (eza : Hid (ra = some ⟨za, 0, none⟩)) (hda : 0 < da) (HRa : Hid (RatB w za ma da)) (bma : ma.natAbs < 2 ^ eB) (bda : da < 2 ^ eB) (zb : Nat) (mb : Int) (db : Nat) (ezb : Hid (rb = some ⟨zb, 0, none⟩)) (hdb : 0 < db) (HRb : Hid (RatB w zb mb db)) (bmb : mb.natAbs < 2 ^ eB) (bdb : db < 2 ^ eB) (hg : ¬ 2000 < blen ma.natAbs + blen da) (hh : ¬ 2000 < blen mb.natAbs + blen db) (hS : StW w wx b2 b4 b5 b6 bz b7 K xa la ha ra ka fa xb lb hb rb kb fb (.float .f64 0) (.float .f64 0) (.float .f64 0) (.pointer (some ⟨bz, 0, none⟩)) (.bool true) (.bool fi)) (HR : Hid (∀ (c6 : Code), bodyTl 6 = c6 → ∀ (wy : World) (T : Nat → Value), StW w wy b2 b4 b5 b6 bz b7 K xa la ha ra ka fa xb lb hb rb kb fb (.float .f64 0) (.float .f64 0) (.float .f64 0) (.pointer (some ⟨bz, 0, none⟩)) (.bool true) (.bool fi) → Code.wp Tryz.prog c6 (bodyPost Tryz.prog Tryz.f7 (StP w)) (TMt T b2 b4 b5 b6 b7) wy)) (T : Nat → Value) : Code.wp Tryz.prog c (bodyPost Tryz.prog Tryz.f7 (StP w)) (TMt T b2 b4 b5 b6 b7) wx := by
 obtain ⟨F7, hF7⟩ : ∃ F, F = Tryz.f7 := ⟨_, rfl⟩
 rw [← hF7]
 subst hc
 simp only [bodyTl, Nat.repeat, Tryz.f7, cTl, Option.getD]
 subst hF7
 unfold TMt
 have HS := Hh hS; clear hS
 have RNa := Hh (fun w hz => Rnum za w hz); have RDa := Hh (fun w hz => Rdenom za ma da hda (len_5000 bda) w hz)
 have BNa := Hh (fun w hz => Bbitlen_num za ma da (len_5000 bma) w hz); have BDa := Hh (fun g w hz => Bbitlen_int g (da : Int) (by rw [Int.natAbs_natCast]; exact len_5000 bda) w hz)
 have cNa := blen_5000 bma; have cDa := blen_5000 bda
 rw [show (da : Int).natAbs = da from Int.natAbs_natCast _] at BDa
 clear bma bda hda
 generalize blen ma.natAbs = Na at *; generalize blen da = Da at *
 have wra : IntKind.i64.wrap ((Na : Int) + (Da : Int)) = (Na : Int) + (Da : Int) := by rw [IntKind.wrap_i64]; omega
 have dga : decide ((Na : Int) + (Da : Int) > 2000) = false := decide_eq_false om
 have RNb := Hh (fun w hz => Rnum zb w hz); have RDb := Hh (fun w hz => Rdenom zb mb db hdb (len_5000 bdb) w hz)
 have BNb := Hh (fun w hz => Bbitlen_num zb mb db (len_5000 bmb) w hz); have BDb := Hh (fun g w hz => Bbitlen_int g (db : Int) (by rw [Int.natAbs_natCast]; exact len_5000 bdb) w hz)
 have cNb := blen_5000 bmb; have cDb := blen_5000 bdb
 rw [show (db : Int).natAbs = db from Int.natAbs_natCast _] at BDb
 clear bmb bdb hdb
 generalize blen mb.natAbs = Nb at *; generalize blen db = Db at *
 have wrb : IntKind.i64.wrap ((Nb : Int) + (Db : Int)) = (Nb : Int) + (Db : Int) := by rw [IntKind.wrap_i64]; omega
 have dgb : decide ((Nb : Int) + (Db : Int) > 2000) = false := decide_eq_false om
 go_upto_region 6 with fail
 refine wp_region_schG (fun W => StW w W b2 b4 b5 b6 bz b7 K xa la ha ra ka fa xb lb hb rb kb fb (.float .f64 0) (.float .f64 0) (.float .f64 0) (.pointer (some ⟨bz, 0, none⟩)) (.bool true) (.bool fi)) 25 (.firm 0 (.firm 1 (.firm 2 (.firm 3 (.firm 4 (.firm 7 (.firm 8 (.one 5 (.one 6 (.one 9 (.one 10 (.firm 11 (.firm 12 (.firm 13 (.firm 14 (.firm 15 (.firm 18 (.firm 19 (.one 16 (.one 17 (.one 20 (.one 21 (.firm 22 (.firm 23 (.firm 24 (.one 25 .nil)))))))))))))))))))))))))) kr kr HS.out ?_
 rintro w0 hS0
 have HS0 := Hh hS0
 obtain ⟨u2_, u4_, u5_, u6_, uz_, u7_, uw, un_⟩ := hS0
 obtain ⟨-, -, -, t53, -, -, tf5⟩ := six_cells u5_
 obtain ⟨-, -, -, t63, -, -, tf6⟩ := six_cells u6_
 obtain ⟨-, -, -, -, t74, -, tf7⟩ := six_cells u7_
 have s5 := heap_lt u5_; have s6 := heap_lt u6_; have s7 := heap_lt u7_; have s2 := World.block_lt_of_cell? _ _ u2_; have s4 := heap_lt u4_
 rw [eza.out] at t53
 rw [ezb.out] at t63
 clear u4_ u5_ u6_ u7_ uz_ un_
 clear u2_ tf5 tf6 tf7 s2 s4
 have hv0 := (Within.refl w0).drew
 try simp only [pu]
 iterate 3
  apply sch_firm rfl rfl wi
  ·intro wq hq
   have hcq := hq.cells
   clear hq
   go_simp
   rfl
  try simp only [pu]
 iterate 4
  apply sch_want rfl wnt wi
  ·intro wq hq
   have hcq := hq.cells
   clear hq
   go_simp
   rfl
  try simp only [pu]
 refine sch_one_want rfl wnt (fun K hK => ?_)
 go_simp
 refine (RNa.out _ (HRa.out.of (uw.trans hv0)).ty).mono ?_; rintro r1 w1 ⟨rfl, rfl⟩
 refine hK _ _ (fun _ => wi) ?_
 clear hK K
 try simp only [pu]
 refine sch_one_want rfl wnt (fun K hK => ?_)
 go_simp
 refine (BNa.out _ (HRa.out.of (uw.trans hv0))).mono ?_; rintro r2 w2 ⟨rfl, hb2⟩
 have hv2 := hv0.trans hb2
 refine hK _ _ (fun _ => wi) ?_
 clear hK K
 try simp only [pu]
 refine sch_one_want rfl wnt (fun K hK => ?_)
 go_simp
 refine (RDa.out _ (HRa.out.of (uw.trans hv2))).mono ?_; rintro r3 w3 ⟨gda, rfl, hIa, hb3⟩
 have hv3 := hv2.trans hb3
 refine hK _ _ (fun _ => wi) ?_
 clear hK K
 try simp only [pu]
 refine sch_one_want rfl wnt (fun K hK => ?_)
 go_simp
 refine (BDa.out gda _ hIa).mono ?_; rintro r4 w4 ⟨rfl, hb4⟩
 have hv4 := hv3.trans hb4
 refine hK _ _ (fun _ => wi) ?_
 clear hK K
 try simp only [pu]
 iterate 7
  apply sch_want rfl wnt wi
  ·intro wq hq
   have hcq := hq.cells
   clear hq
   go_simp
   rfl
  try simp only [pu]
 refine sch_one_want rfl wnt (fun K hK => ?_)
 go_simp
 refine (RNb.out _ (HRb.out.of (uw.trans hv4)).ty).mono ?_; rintro r5 w5 ⟨rfl, rfl⟩
 refine hK _ _ (fun _ => wi) ?_
 clear hK K
 try simp only [pu]
 refine sch_one_want rfl wnt (fun K hK => ?_)
 go_simp
 refine (BNb.out _ (HRb.out.of (uw.trans hv4))).mono ?_; rintro r6 w6 ⟨rfl, hb6⟩
 have hv6 := hv4.trans hb6
 refine hK _ _ (fun _ => wi) ?_
 clear hK K
 try simp only [pu]
 refine sch_one_want rfl wnt (fun K hK => ?_)
 go_simp
 refine (RDb.out _ (HRb.out.of (uw.trans hv6))).mono ?_; rintro r7 w7 ⟨gdb, rfl, hIb, hb7⟩
 have hv7 := hv6.trans hb7
 refine hK _ _ (fun _ => wi) ?_
 clear hK K
 try simp only [pu]
 refine sch_one_want rfl wnt (fun K hK => ?_)
 go_simp
 refine (BDb.out gdb _ hIb).mono ?_; rintro r8 w8 ⟨rfl, hb8⟩
 have hv8 := hv7.trans hb8
 refine hK _ _ (fun _ => wi) ?_
 clear hK K
 try simp only [pu]
 iterate 3
  apply sch_want rfl wnt wi
  ·intro wq hq
   have hcq := hq.cells
   clear hq
   go_simp
   rfl
  try simp only [pu]
 refine sch_one rfl rfl (fun K hK => ?_)
 go_simp
 refine hK _ _ ab ?_
 clear hK K
 try simp only [pu]
 refine sch_nil ?_
 have HSv := Hh (HS0.out.of hv8)
 go_upto_if 90 with fail
 go_cut [] (fun wx => StW w wx b2 b4 b5 b6 bz b7 K xa la ha ra ka fa xb lb hb rb kb fb (.float .f64 0) (.float .f64 0) (.float .f64 0) (.pointer (some ⟨bz, 0, none⟩)) (.bool true) (.bool fi))
 case first =>
  go_wp2_with fail
  go_meet
  exact HSv.out
 case rest =>
 exact zz35
def KnownN (w : World) (r : Option Addr) (l h K : Nat) : Prop := ∃ (z : Nat) (a : Int) (b : Nat), r = some ⟨z, 0, none⟩ ∧ 0 < b ∧ RatB w z a b ∧ Holds l h (frQ a b) ∧ a.natAbs < 2 ^ K ∧ b < 2 ^ K ∧ a ≠ 0
def R35 (w wx : World) (b2 b4 b5 b6 bz b7 : Nat) (K : Int) (xa la ha : Nat) (ra : Option Addr) (ka fa : Bool) (xb lb hb : Nat) (rb : Option Addr) (kb fb : Bool) : Prop := ∃ (x7 l7 h7 : Nat) (kn7 fi7 : Bool), x7 < 18446744073709551616 ∧ Iv l7 h7 ∧ (fi7 = true → Fi x7 → FineP x7 l7 h7) ∧ (kn7 = true → KnownP wx (.pointer (some ⟨bz, 0, none⟩)) l7 h7 eB) ∧ StW w wx b2 b4 b5 b6 bz b7 K xa la ha ra ka fa xb lb hb rb kb fb (.float .f64 x7) (.float .f64 l7) (.float .f64 h7) (.pointer (some ⟨bz, 0, none⟩)) (.bool kn7) (.bool fi7)
theorem val_end (c : Code) (hc : bodyTl 7 = c) {w wx : World} {b2 b4 b5 b6 bz b7 : Nat} {K : Int} {xa la ha : Nat} {ra : Option Addr} {ka fa : Bool} {xb lb hb : Nat} {rb : Option Addr} {kb fb : Bool} (h : R35 w wx b2 b4 b5 b6 bz b7 K xa la ha ra ka fa xb lb hb rb kb fb) (T : Nat → Value) : Code.wp Tryz.prog c (bodyPost Tryz.prog Tryz.f7 (StP w)) (TMt T b2 b4 b5 b6 b7) wx := by
 obtain ⟨x7, l7, h7, kn7, fi7, hx7, hi7, hf7, hk7, hS⟩ := h
 have HX := Hh (And.intro hx7 (And.intro hi7 hf7)); have HKP := Hh hk7; have HSW := Hh hS
 clear hx7 hi7 hf7 hk7 hS
 obtain ⟨F7, hF7⟩ : ∃ F, F = Tryz.f7 := ⟨_, rfl⟩
 rw [← hF7]
 subst hc
 simp only [bodyTl, Nat.repeat, Tryz.f7, cTl, Option.getD]
 subst hF7
 unfold TMt
 cases fi7
 ·have hS35 := HSW.out
  obtain ⟨u2_, u4_, u5_, u6_, uz_, u7_, uw, un_⟩ := hS35
  obtain ⟨t70, -, -, -, -, t75, tf7⟩ := six_cells u7_
  have s5 := heap_lt u5_; have s6 := heap_lt u6_; have s7 := heap_lt u7_; have s2 := World.block_lt_of_cell? _ _ u2_; have s4 := heap_lt u4_
  have tf75 := tf7 5
  have hx35 := heap_lt u7_
  clear u2_ u4_ u5_ u6_ u7_ uz_ un_
  clear tf7
  go_upto_region 36 with fail
  have hS36 := HSW.out.set5 (.bool false)
  obtain ⟨W36, hW36⟩ : ∃ W', W' = wx.setCell ⟨b7, 5, none⟩ (.bool false) := ⟨_, rfl⟩
  rw [← hW36] at hS36 ⊢
  have HS36 := Hh hS36
  have HJ36 : Hid (∀ j, j ≠ b7 → W36.heap[j]? = wx.heap[j]?) := Hh (fun j hj => by rw [hW36]; exact Below.heap_setCell _ _ _ _ hj)
  clear hW36 t70 t75 tf75 s2 s4 s5 s6 s7 hx35 uw
  obtain ⟨u2_, u4_, u5_, u6_, uz_, u7_, uw, un_⟩ := hS36
  obtain ⟨t70, t71, t72, t73, t74, t75, tf7⟩ := six_cells u7_
  have s7 := heap_lt u7_; have s4 := heap_lt u4_
  obtain ⟨⟨g0, q0, g1, q1, g2, q2, g3, q3, g4, q4, g5, q5⟩, hFin⟩ := six_store u4_ (.float .f64 (x7)) (.float .f64 l7) (.float .f64 h7) (.pointer (some ⟨bz, 0, none⟩)) (.bool kn7) (.bool false)
  have g00 := g0 0; have g11 := g1 1; have g22 := g2 2; have g33 := g3 3; have g44 := g4 4; have g55 := g5 5
  obtain ⟨e0, e1, e2, e3, e4, e5, _⟩ := six_cells hFin
  have HW := Hh (six_within uw un_.1 (.float .f64 (x7)) (.float .f64 l7) (.float .f64 h7) (.pointer (some ⟨bz, 0, none⟩)) (.bool kn7) (.bool false))
  have HO : Hid (∀ j, j ≠ b4 → _) := Hh (fun j hj => six_other (w := W36) (z := b4) (j := j) hj (.float .f64 (x7)) (.float .f64 l7) (.float .f64 h7) (.pointer (some ⟨bz, 0, none⟩)) (.bool kn7) (.bool false))
  have HU4 := Hh u4_
  clear hFin u2_ u4_ u5_ u6_ uz_ u7_ uw un_ g0 g1 g2 g3 g4 g5 tf7
  go_wp2
  (try simp only [Exit.inBlock, Exit.then]); refine bodyPost_ret (v := .agg #[.float .f64 (x7), .float .f64 l7, .float .f64 h7, .pointer (some ⟨bz, 0, none⟩), .bool kn7, .bool false]) (by simp [results, Tryz.results7, go_sem, e0, e1, e2, e3, e4, e5]) rfl ?_
  exact ⟨x7, l7, h7, some ⟨bz, 0, none⟩, kn7, false, rfl, ⟨HX.out.1, HX.out.2.1, fun e => (by cases e), fun e => ((HKP.out e).kept (HSW.out).2.2.2.2.2.1 HJ36.out).kept HU4.out HO.out⟩, HW.out⟩
 ·have hS35 := HSW.out
  obtain ⟨u2_, u4_, u5_, u6_, uz_, u7_, uw, un_⟩ := hS35
  obtain ⟨t70, -, -, -, -, t75, tf7⟩ := six_cells u7_
  have s5 := heap_lt u5_; have s6 := heap_lt u6_; have s7 := heap_lt u7_; have s2 := World.block_lt_of_cell? _ _ u2_; have s4 := heap_lt u4_
  have tf75 := tf7 5
  have hx35 := heap_lt u7_
  clear u2_ u4_ u5_ u6_ u7_ uz_ un_
  clear tf7
  have FIN := Hh (fun w => top_finite (x7) HX.out.1 w)
  go_wp2_with fail
  refine (FIN.out _).mono ?_; rintro r35 w35 ⟨rfl, rfl⟩
  go_upto_region 36 with fail
  have hS36 := HSW.out.set5 (.bool (finD x7))
  obtain ⟨W36, hW36⟩ : ∃ W', W' = wx.setCell ⟨b7, 5, none⟩ (.bool (finD x7)) := ⟨_, rfl⟩
  rw [← hW36] at hS36 ⊢
  have HS36 := Hh hS36
  have HJ36 : Hid (∀ j, j ≠ b7 → W36.heap[j]? = wx.heap[j]?) := Hh (fun j hj => by rw [hW36]; exact Below.heap_setCell _ _ _ _ hj)
  clear hW36 t70 t75 tf75 s2 s4 s5 s6 s7 hx35 uw
  obtain ⟨u2_, u4_, u5_, u6_, uz_, u7_, uw, un_⟩ := hS36
  obtain ⟨t70, t71, t72, t73, t74, t75, tf7⟩ := six_cells u7_
  have s7 := heap_lt u7_; have s4 := heap_lt u4_
  obtain ⟨⟨g0, q0, g1, q1, g2, q2, g3, q3, g4, q4, g5, q5⟩, hFin⟩ := six_store u4_ (.float .f64 (x7)) (.float .f64 l7) (.float .f64 h7) (.pointer (some ⟨bz, 0, none⟩)) (.bool kn7) (.bool (finD x7))
  have g00 := g0 0; have g11 := g1 1; have g22 := g2 2; have g33 := g3 3; have g44 := g4 4; have g55 := g5 5
  obtain ⟨e0, e1, e2, e3, e4, e5, _⟩ := six_cells hFin
  have HW := Hh (six_within uw un_.1 (.float .f64 (x7)) (.float .f64 l7) (.float .f64 h7) (.pointer (some ⟨bz, 0, none⟩)) (.bool kn7) (.bool (finD x7)))
  have HO : Hid (∀ j, j ≠ b4 → _) := Hh (fun j hj => six_other (w := W36) (z := b4) (j := j) hj (.float .f64 (x7)) (.float .f64 l7) (.float .f64 h7) (.pointer (some ⟨bz, 0, none⟩)) (.bool kn7) (.bool (finD x7)))
  have HU4 := Hh u4_
  clear hFin u2_ u4_ u5_ u6_ uz_ u7_ uw un_ g0 g1 g2 g3 g4 g5 tf7
  go_wp2
  (try simp only [Exit.inBlock, Exit.then]); refine bodyPost_ret (v := .agg #[.float .f64 (x7), .float .f64 l7, .float .f64 h7, .pointer (some ⟨bz, 0, none⟩), .bool kn7, .bool (finD x7)]) (by simp [results, Tryz.results7, go_sem, e0, e1, e2, e3, e4, e5]) rfl ?_
  exact ⟨x7, l7, h7, some ⟨bz, 0, none⟩, kn7, (finD x7), rfl, ⟨HX.out.1, HX.out.2.1, (fun e => HX.out.2.2 (by trivial) (finD_fi HX.out.1 e)), fun e => ((HKP.out e).kept (HSW.out).2.2.2.2.2.1 HJ36.out).kept HU4.out HO.out⟩, HW.out⟩
end Go.Proofs.YtgkcpnidmfejeaaGreatDoor
