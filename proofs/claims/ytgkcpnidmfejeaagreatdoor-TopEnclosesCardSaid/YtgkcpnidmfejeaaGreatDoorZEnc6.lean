/- What the law's walk rests on, part 6: contracts of functions and plain facts. -/
import Derived.Test.YtgkcpnidmfejeaaGreatDoorZEnc5
set_option linter.unusedVariables false
set_option linter.unusedSimpArgs false
set_option maxRecDepth 100000
set_option maxHeartbeats 4000000
namespace Go.Proofs.YtgkcpnidmfejeaaGreatDoor
open Go.RowKit
theorem inf_dec {b : Nat} (sb : Sane b) : decide (b % 9223372036854775808 = 9218868437227405312) = decide (¬ Fi b) := decide_eq_decide.2 (by
 unfold Fi
 have := sb.1; have := sb.2
 omega)
theorem sg_of {a : Nat} (ha : Sane a) (h0 : Fp.un Ieee.double a ≠ 0) : (0 < Fp.un Ieee.double a ↔ a < 9223372036854775808) := by
 have hu := un_val a
 rw [sg_high ha.1] at hu
 unfold Fp.val at hu
 by_cases g : 9223372036854775808 ≤ a
 ·rw [decide_eq_true g, if_pos rfl] at hu; omega
 ·rw [decide_eq_false g, if_neg Bool.false_ne_true] at hu; omega
def DivS (l1 h1 l2 h2 : Nat) (e : Rat) : Prop := ∃ p q, Holds l1 h1 p ∧ Holds l2 h2 q ∧ q ≠ 0 ∧ e = p / q
theorem div_point {l h : Nat} (k : Full l h) (g : 0 ≤ Fp.un Ieee.double l) (n : ¬ (Fp.un Ieee.double l = 0 ∧ Fp.un Ieee.double h = 0)) : ∃ q, Holds l h q ∧ q ≠ 0 := by
 have hle := (en_le k.1 k.2.1).1 k.2.2.1
 have T : 0 < 2 ^ Fp.dtop := Nat.two_pow_pos _
 have hh : 0 < Fp.un Ieee.double h := by omega
 rcases sane_cases k.2.1 with ⟨f, _⟩ | ⟨g2, _⟩ | ⟨_, u⟩
 ·refine ⟨rvD h, ⟨lo_of_un k.1 f hle, hi_of_un k.2.1 f (Int.le_refl _)⟩, ?_⟩
  have := rv_pos_iff.2 hh; grind
 ·have fl : Fi l := by
   rcases sane_cases k.1 with ⟨f, _⟩ | ⟨g3, _⟩ | ⟨_, u⟩
   ·exact f
   ·exact absurd g3 k.2.2.2.1
   ·omega
  have r0 : 0 ≤ rvD l := by
   rcases rat_or (rvD l) 0 with q | q
   ·have := rv_neg_iff.1 q; omega
   ·exact q
  refine ⟨rvD l + 1, ⟨⟨k.1, by rw [enW_fi fl, En.le_fn]; grind⟩, ⟨k.2.1, by rw [g2]; trivial⟩⟩, by grind⟩
 ·omega
theorem neg_div {p q : Rat} (h : q ≠ 0) : p / q = -p / -q := by grind
theorem div_neg {l1 h1 l2 h2 a1 b1 a2 b2 l h : Nat} (K : ∀ e, DivS a1 b1 a2 b2 e → Holds l h e) (n1 : Sane a1 ∧ Sane b1 ∧ Fp.un Ieee.double a1 = -Fp.un Ieee.double h1 ∧ Fp.un Ieee.double b1 = -Fp.un Ieee.double l1)
 (n2 : Sane a2 ∧ Sane b2 ∧ Fp.un Ieee.double a2 = -Fp.un Ieee.double h2 ∧ Fp.un Ieee.double b2 = -Fp.un Ieee.double l2) : ∀ e, DivS l1 h1 l2 h2 e → Holds l h e := by
 rintro _ ⟨p, q, hp, hq, q0, rfl⟩
 refine K _ ⟨-p, -q, neg_holds hp n1.1 n1.2.1 n1.2.2.1 n1.2.2.2, neg_holds hq n2.1 n2.2.1 n2.2.2.1 n2.2.2.2, by grind, neg_div q0⟩
theorem all_holds (e : Rat) : Holds 18442240474082181120 9218868437227405312 e := ⟨⟨sane_inf.2, by rw [en_inf.2]; trivial⟩, ⟨sane_inf.1, by rw [en_inf.1]; trivial⟩⟩
theorem zero_holds {l h : Nat} {p : Rat} (k : Holds l h p) (u1 : Fp.un Ieee.double l = 0) (u2 : Fp.un Ieee.double h = 0) : p = 0 := by
 have a := lo_neg k.1 om; have b := hi_neg k.2 om; grind
theorem mid_holds {l1 h1 l2 h2 a b : Nat} (u1 : Fp.un Ieee.double l1 = 0) (u2 : Fp.un Ieee.double h1 = 0) (sa : Sane a) (sb : Sane b) (ua : Fp.un Ieee.double a = 0) (ub : Fp.un Ieee.double b = 0) : ∀ e, DivS l1 h1 l2 h2 e → Holds a b e := by
 rintro _ ⟨p, q, hp, hq, q0, rfl⟩
 have e := zero_holds hp u1 u2
 have e2 : p / q = 0 := by rw [e]; grind
 rw [e2]
 exact ⟨⟨sa, by rw [(en_zero sa ua).2]; exact En.le_self _⟩, ⟨sb, by rw [(en_zero sb ub).2]; exact En.le_self _⟩⟩
def ByP (W : World) (up : Bool) (a b : Nat) (r : Ending) (w' : World) : Prop := ∃ x, r = .returned (.float .f64 x) ∧ Sane x ∧ ByEnd up a b x ∧ Within W w'
theorem iquot_z (up : Bool) (a b : Nat) (sa : Sane a) (sb : Sane b) (a0 : Fp.un Ieee.double a = 0) (w : World) (hT : Tab w) : Calls Tryz.prog 298 #[.float .f64 a, .float .f64 b, .int .i64 (upM up)] w (fun r w' => ∃ x, r = .returned (.float .f64 x) ∧ Sane x ∧ ByEnd up a b x ∧ Within w w') := by
 have c1 := c_eq (x := a) (y := 0) sa.2 dc
 rw [un_zero] at c1
 rw [decide_eq_true a0] at c1
 have HE := Hh (show ByEnd up a b 0 from ⟨fun _ g => absurd a0 g, fun _ => rfl, fun _ => rfl, fun _ _ g => absurd (en_zero sa a0).1 g, fun _ _ _ g => absurd a0 g⟩)
 clear sa sb a0
 go_enter Tryz.func298, Tryz.ntmps298
 go_wp2
 go_ret
 exact ⟨0, rfl, fi_zero.sane, HE.out, Within.refl w⟩
theorem iquot_i (up : Bool) (a b : Nat) (sa : Sane a) (sb : Sane b) (a0 : ¬ Fp.un Ieee.double a = 0) (b0 : ¬ Fp.un Ieee.double b = 0) (fb : ¬ Fi b) (w : World) (hT : Tab w) : Calls Tryz.prog 298 #[.float .f64 a, .float .f64 b, .int .i64 (upM up)] w (fun r w' => ∃ x, r = .returned (.float .f64 x) ∧ Sane x ∧ ByEnd up a b x ∧ Within w w') := by
 have c1 := c_eq (x := a) (y := 0) sa.2 dc
 rw [un_zero] at c1
 rw [decide_eq_false a0] at c1
 have IB := Hh (fun w => m_isinf b sb.1 w)
 rw [inf_dec sb, decide_eq_true fb] at IB
 have HE := Hh (show ByEnd up a b 0 from ⟨fun g _ => absurd g b0, fun _ => rfl, fun _ => rfl, fun _ g => absurd g fb, fun _ g => absurd g fb⟩)
 clear sa sb a0 b0 fb
 go_enter Tryz.func298, Tryz.ntmps298
 go_wp2_with fail
 refine (IB.out _).mono ?_; rintro r1 w1 ⟨rfl, rfl⟩
 go_wp2
 go_ret
 exact ⟨0, rfl, fi_zero.sane, HE.out, Within.refl _⟩
theorem iquot_a (up : Bool) (a b : Nat) (sa : Sane a) (sb : Sane b) (a0 : ¬ Fp.un Ieee.double a = 0) (b0 : 0 < Fp.un Ieee.double b) (fb : Fi b) (fa : ¬ Fi a) (w : World) (hT : Tab w) : Calls Tryz.prog 298 #[.float .f64 a, .float .f64 b, .int .i64 (upM up)] w (fun r w' => ∃ x, r = .returned (.float .f64 x) ∧ Sane x ∧ ByEnd up a b x ∧ Within w w') := by
 have c1 := c_eq (x := a) (y := 0) sa.2 dc
 rw [un_zero] at c1
 rw [decide_eq_false a0] at c1
 have IB := Hh (fun w => m_isinf b sb.1 w)
 rw [inf_dec sb, decide_eq_false (fun g => g fb)] at IB
 have FA := Hh (fun w => ifinite a sa w)
 rw [decide_eq_false fa] at FA
 have hq : Ieee.double.div a b = some a := by
  have k := infC_of sa fa
  generalize decide (Fp.un Ieee.double a < 0) = s at k
  rw [k]
  exact div_infC s fb b0
 have h1 := fun (t : TypeId) w => run_float_arith (P := Tryz.prog) w .quo t .f64 a b a hq
 have HE := Hh (show Sane a ∧ ByEnd up a b a from ⟨sa, fun g _ => absurd g om, fun g => absurd g a0, fun g => absurd fb g, fun _ _ _ => rfl, fun _ _ g => absurd g fa⟩)
 clear hq sa sb a0 b0 fb fa
 go_enter Tryz.func298, Tryz.ntmps298
 go_wp2_with fail
 refine (IB.out _).mono ?_; rintro r1 w1 ⟨rfl, rfl⟩
 go_wp2_with fail
 refine (FA.out _).mono ?_; rintro r2 w2 ⟨rfl, hb2⟩
 go_wp2
 go_ret
 exact ⟨a, rfl, HE.out.1, HE.out.2, hb2⟩
theorem iquot_f (up : Bool) (a b : Nat) (sa : Sane a) (sb : Sane b) (a0 : ¬ Fp.un Ieee.double a = 0) (b0 : 0 < Fp.un Ieee.double b) (fb : Fi b) (fa : Fi a) (w : World) (hT : Tab w) : Calls Tryz.prog 298 #[.float .f64 a, .float .f64 b, .int .i64 (upM up)] w (fun r w' => ∃ x, r = .returned (.float .f64 x) ∧ Sane x ∧ ByEnd up a b x ∧ Within w w') := by
 have c1 := c_eq (x := a) (y := 0) sa.2 dc
 rw [un_zero] at c1
 rw [decide_eq_false a0] at c1
 have IB := Hh (fun w => m_isinf b sb.1 w)
 rw [inf_dec sb, decide_eq_false (fun g => g fb)] at IB
 have FA := Hh (fun w => ifinite a sa w)
 rw [decide_eq_true fa] at FA
 have DV := Hh (fun w hT => idiv up a b fa fb om w hT)
 have HE := Hh (show ∀ x, EndOk up x (rvD a / rvD b) → ByEnd up a b x from fun x h => ⟨fun g _ => absurd g om, fun g => absurd g a0, fun g => absurd fb g, fun _ _ g => absurd fa g, fun _ _ _ _ => h⟩)
 have HT := Hh hT
 clear hT sa sb a0 b0 fb fa
 go_enter Tryz.func298, Tryz.ntmps298
 go_wp2_with fail
 refine (IB.out _).mono ?_; rintro r1 w1 ⟨rfl, rfl⟩
 go_wp2_with fail
 refine (FA.out _).mono ?_; rintro r2 w2 ⟨rfl, hb2⟩
 go_wp2_with fail
 refine (DV.out _ (HT.out.of hb2)).mono ?_; rintro r3 w3 ⟨x, rfl, hx, hb3⟩
 go_wp2
 go_ret
 exact ⟨x, rfl, hx.sane, HE.out x hx, hb2.trans hb3⟩
theorem iquot (up : Bool) (a b : Nat) (sa : Sane a) (sb : Sane b) (h0 : 0 ≤ Fp.un Ieee.double b) (hc : ¬ (Fp.un Ieee.double b = 0 ∧ Fp.un Ieee.double a ≠ 0)) (w : World) (hT : Tab w) : Calls Tryz.prog 298 #[.float .f64 a, .float .f64 b, .int .i64 (upM up)] w (fun r w' => ∃ x, r = .returned (.float .f64 x) ∧ Sane x ∧ ByEnd up a b x ∧ Within w w') := by
 by_cases a0 : Fp.un Ieee.double a = 0
 ·exact iquot_z up a b sa sb a0 w hT
 ·have b0 : 0 < Fp.un Ieee.double b := by omega
  by_cases fb : Fi b
  ·by_cases fa : Fi a
   ·exact iquot_f up a b sa sb a0 b0 fb fa w hT
   ·exact iquot_a up a b sa sb a0 b0 fb fa w hT
  ·exact iquot_i up a b sa sb a0 om fb w hT
theorem iby_p (up : Bool) (a b : Nat) (sa : Sane a) (sb : Sane b) (b0 : Fp.un Ieee.double b = 0) (a0 : 0 < Fp.un Ieee.double a) (w : World) (hT : Tab w) : Calls Tryz.prog 220 #[.float .f64 a, .float .f64 b, .int .i64 (upM up)] w (ByP w up a b) := by
 have c1 := c_eq (x := b) (y := 0) sb.2 dc
 have c2 := c_eq (x := a) (y := 0) sa.2 dc
 rw [un_zero] at c1 c2
 rw [decide_eq_true b0] at c1
 rw [decide_eq_false om] at c2
 have c3 : (FloatKind.f64.format.order a 0 != some .eq) = true := by unfold bne; rw [c2]; rfl
 have CP := Hh (fun w => m_cps_lo 9218868437227405312 a dc ((sg_of sa om).1 a0) w)
 have IN := Hh im_inf_one
 have HE := Hh (show ByEnd up a b 9218868437227405312 from ⟨fun _ _ => (by rw [if_pos a0]), fun g => absurd g om, fun g => absurd (en_zero sb b0).1 g, fun g => absurd b0 g, fun g => absurd b0 g⟩)
 clear sa sb a0 b0 c2
 go_enter Tryz.func220, Tryz.ntmps220
 go_wp2_with fail
 refine (IN.out _).mono ?_; rintro r1 w1 ⟨rfl, rfl⟩
 go_wp2_with fail
 refine (CP.out _).mono ?_; rintro r2 w2 ⟨rfl, rfl⟩
 go_wp2
 go_ret
 exact ⟨_, rfl, sane_inf.1, HE.out, Within.refl _⟩
theorem iby_n (up : Bool) (a b : Nat) (sa : Sane a) (sb : Sane b) (b0 : Fp.un Ieee.double b = 0) (a0 : Fp.un Ieee.double a < 0) (w : World) (hT : Tab w) : Calls Tryz.prog 220 #[.float .f64 a, .float .f64 b, .int .i64 (upM up)] w (ByP w up a b) := by
 have c1 := c_eq (x := b) (y := 0) sb.2 dc
 have c2 := c_eq (x := a) (y := 0) sa.2 dc
 rw [un_zero] at c1 c2
 rw [decide_eq_true b0] at c1
 rw [decide_eq_false om] at c2
 have c3 : (FloatKind.f64.format.order a 0 != some .eq) = true := by unfold bne; rw [c2]; rfl
 have CP := Hh (fun w => m_cps_hi 9218868437227405312 a dc (Nat.le_of_not_lt (fun g => by have := (sg_of sa om).2 g; omega)) sa.1 w)
 have IN := Hh im_inf_one
 have HE := Hh (show ByEnd up a b 18442240474082181120 from ⟨fun _ _ => (by rw [if_neg om]), fun g => absurd g om, fun g => absurd (en_zero sb b0).1 g, fun g => absurd b0 g, fun g => absurd b0 g⟩)
 clear sa sb a0 b0 c2
 go_enter Tryz.func220, Tryz.ntmps220
 go_wp2_with fail
 refine (IN.out _).mono ?_; rintro r1 w1 ⟨rfl, rfl⟩
 go_wp2_with fail
 refine (CP.out _).mono ?_; rintro r2 w2 ⟨rfl, rfl⟩
 go_wp2
 go_ret
 exact ⟨_, rfl, sane_inf.2, HE.out, Within.refl _⟩
theorem zz90 {p : Prop} (h : p := by
 go_enter Tryz.func220, Tryz.ntmps220
 go_wp2_with fail
 refine (QU.out _ HT.out).mono ?_; rintro r1 w1 ⟨x, rfl, sx, hx, hb1⟩
 go_wp2
 go_ret
 exact ⟨x, rfl, sx, hx, hb1⟩) : p := h
theorem iby_z (up : Bool) (a b : Nat) (sa : Sane a) (sb : Sane b) (h0 : 0 ≤ Fp.un Ieee.double b) (b0 : Fp.un Ieee.double b = 0) (a0 : Fp.un Ieee.double a = 0) (w : World) (hT : Tab w) : Calls Tryz.prog 220 #[.float .f64 a, .float .f64 b, .int .i64 (upM up)] w (ByP w up a b) := by
 have c1 := c_eq (x := b) (y := 0) sb.2 dc
 have c2 := c_eq (x := a) (y := 0) sa.2 dc
 rw [un_zero] at c1 c2
 rw [decide_eq_true b0] at c1
 rw [decide_eq_true a0] at c2
 have c3 : (FloatKind.f64.format.order a 0 != some .eq) = false := by unfold bne; rw [c2]; rfl
 have QU := Hh (fun w hT => iquot up a b sa sb h0 (fun g => g.2 a0) w hT)
 have HT := Hh hT
 clear hT sa sb h0 b0 a0 c2
 exact zz90
theorem iby_q (up : Bool) (a b : Nat) (sa : Sane a) (sb : Sane b) (h0 : 0 ≤ Fp.un Ieee.double b) (b0 : ¬ Fp.un Ieee.double b = 0) (w : World) (hT : Tab w) : Calls Tryz.prog 220 #[.float .f64 a, .float .f64 b, .int .i64 (upM up)] w (ByP w up a b) := by
 have c1 := c_eq (x := b) (y := 0) sb.2 dc
 have c2 := c_eq (x := a) (y := 0) sa.2 dc
 rw [un_zero] at c1 c2
 rw [decide_eq_false b0] at c1
 have QU := Hh (fun w hT => iquot up a b sa sb h0 (fun g => b0 g.1) w hT)
 have HT := Hh hT
 clear hT sa sb h0 b0 c2
 exact zz90
theorem iby (up : Bool) (a b : Nat) (sa : Sane a) (sb : Sane b) (h0 : 0 ≤ Fp.un Ieee.double b) (w : World) (hT : Tab w) : Calls Tryz.prog 220 #[.float .f64 a, .float .f64 b, .int .i64 (upM up)] w (ByP w up a b) := by
 by_cases b0 : Fp.un Ieee.double b = 0
 ·rcases Int.lt_trichotomy (Fp.un Ieee.double a) 0 with g | g | g
  ·exact iby_n up a b sa sb b0 g w hT
  ·exact iby_z up a b sa sb h0 b0 g w hT
  ·exact iby_p up a b sa sb b0 g w hT
 ·exact iby_q up a b sa sb h0 b0 w hT
theorem zz2 {p : Prop} (h : p := by
 have HT := Hh hT
 clear hT k1 k2 g0 n0 ga gb hle
 obtain ⟨hwN, hB0, hB1, hB2⟩ := box3 w #[.float .f64 l1, .float .f64 h1] #[.float .f64 l2, .float .f64 h2] #[.float .f64 0, .float .f64 0] 30 30 30
 go_enter Tryz.func124, Tryz.ntmps124
 go_upto_region 1 with fail
 obtain ⟨W3, hW3⟩ : ∃ W3, W3 = (((w.alloc (.cells #[.float .f64 l1, .float .f64 h1] 30)).alloc (.cells #[.float .f64 l2, .float .f64 h2] 30)).alloc (.cells #[.float .f64 0, .float .f64 0] 30)) := ⟨_, rfl⟩
 have hs3 : W3.heap.size = w.heap.size + 3 := by rw [hW3]; simp
 rw [← hW3] at hwN hB0 hB1 hB2 ⊢
 clear hW3
 obtain ⟨b0, hb0⟩ : ∃ b, b = w.heap.size := ⟨_, rfl⟩
 have HS := Hh (And.intro hs3 hb0)
 rw [← hb0] at hB0 hB1 hB2 ⊢
 clear hb0 hs3
 obtain ⟨x00, x01⟩ := pair_cells hB0
 obtain ⟨x10, x11⟩ := pair_cells hB1
 have l0 : b0 + 2 < W3.heap.size := by have := HS.out; omega
 refine wp_region_schG (fun W => W.cell? ⟨b0, 0, none⟩ = some (.float .f64 l1) ∧ W.cell? ⟨b0, 1, none⟩ = some (.float .f64 h1) ∧ W.cell? ⟨b0 + 1, 0, none⟩ = some (.float .f64 l2) ∧ W.cell? ⟨b0 + 1, 1, none⟩ = some (.float .f64 h2) ∧ b0 < W.heap.size ∧ b0 + 1 < W.heap.size ∧ Within W3 W) 5 (.firm 0 (.firm 1 (.firm 2 (.firm 3 (.firm 4 (.one 5 .nil)))))) kr kr ⟨x00, x01, x10, x11, by omega, by omega, Within.refl _⟩ ?_
 rintro w0 ⟨p0, p1, s0, s1, pl, sl, hw0⟩
 try simp only [pu]
 iterate 5
  apply sch_firm rfl rfl wi
  ·intro wq hq
   have hcq := hq.cells
   clear hq
   go_simp
   rfl
  try simp only [pu]
 refine sch_one rfl rfl (fun K hK => ?_)
 go_simp
 refine hK _ _ ab ?_
 clear hK K
 try simp only [pu]
 refine sch_nil ?_
 have hc1 := hw0.drew
 have q00 := ((Within.refl w0).drew.cells _ _ pl).trans p0; have q01 := ((Within.refl w0).drew.cells _ _ pl).trans p1; have q10 := ((Within.refl w0).drew.cells _ _ sl).trans s0; have q11 := ((Within.refl w0).drew.cells _ _ sl).trans s1
 have ql : b0 < w0.drew.heap.size := Nat.lt_of_lt_of_le pl (Within.refl w0).drew.size; have qs : b0 + 1 < w0.drew.heap.size := Nat.lt_of_lt_of_le sl (Within.refl w0).drew.size
 generalize w0.drew = W4 at *
 clear p0 p1 s0 s1 pl sl hw0 x00 x01 x10 x11
 go_upto_region 6 with fail
 refine wp_region_schG (fun W => W.cell? ⟨b0, 0, none⟩ = some (.float .f64 l1) ∧ W.cell? ⟨b0, 1, none⟩ = some (.float .f64 h1) ∧ W.cell? ⟨b0 + 1, 0, none⟩ = some (.float .f64 l2) ∧ W.cell? ⟨b0 + 1, 1, none⟩ = some (.float .f64 h2) ∧ b0 < W.heap.size ∧ b0 + 1 < W.heap.size ∧ Within W3 W) 9 (.firm 0 (.firm 1 (.firm 2 (.firm 4 (.firm 5 (.firm 6 (.one 3 (.one 7 (.one 8 (.one 9 .nil)))))))))) kr kr ⟨q00, q01, q10, q11, ql, qs, hc1⟩ ?_
 rintro w0 ⟨p0, p1, s0, s1, pl, sl, hw0⟩
 try simp only [pu]
 iterate 6
  apply sch_firm rfl rfl wi
  ·intro wq hq
   have hcq := hq.cells
   clear hq
   go_simp
   rfl
  try simp only [pu]
 refine sch_one rfl rfl (fun K hK => ?_)
 go_simp
 refine (B1.out _ (HT.out.of (hwN.trans hw0.drew))).mono ?_; rintro r3 w3 ⟨x1, rfl, sx1, e1, hb3⟩
 have hv3 : Within w0 w3 := (Within.refl _).drew.trans hb3
 refine hK _ _ (fun _ => wi) ?_
 clear hK K
 try simp only [pu]
 refine sch_one rfl rfl (fun K hK => ?_)
 go_simp
 refine (B2.out _ (HT.out.of ((hwN.trans hw0).trans hv3))).mono ?_; rintro r4 w4 ⟨x2, rfl, sx2, e2, hb4⟩
 have hv4 : Within w0 w4 := hv3.trans hb4
 refine hK _ _ (fun _ => wi) ?_
 clear hK K
 try simp only [pu]
 refine sch_one rfl rfl (fun K hK => ?_)
 go_simp
 refine (MK.out x1 x2 sx1 sx2 _).mono ?_; rintro r5 w5 ⟨a, b, rfl, sa, sb, ua, ub, hb5⟩
 have hv5 : Within w0 w5 := hv4.trans hb5
 have hc5 := hw0.trans hv5
 have HE := Hh (And.intro e1 (And.intro e2 (And.intro sa (And.intro sb (And.intro ua ub)))))
 clear e1 e2 sa sb ua ub
 have hBr := (hc5.block (b0 + 2) (by have := HS.out; omega)).trans hB2
 obtain ⟨k0, k1, kf, kg, k2, r0, r1⟩ := iv_block hBr (.float .f64 a) (.float .f64 b)
 have kf0 := kf 0; have kf1 := kf 1; have kg1 := kg 1
 have hww := hwN.trans hc5
 refine hK _ _ (fun _ => wi) ?_
 clear hK K
 try simp only [pu]
 refine sch_one rfl rfl (fun K hK => ?_)
 go_simp
 refine hK _ _ ab ?_
 clear hK K
 try simp only [pu]
 refine sch_nil ?_
 go_wp2
 (try simp only [Exit.inBlock, Exit.then]); refine bodyPost_ret (v := .agg #[.float .f64 a, .float .f64 b]) (by simp [results, Tryz.results124, go_sem, r0, r1]) rfl ?_
 have key : ∀ e, DivS l1 h1 l2 h2 e → Holds a b e := by
  rintro _ ⟨p, q, hp, hq, q0, rfl⟩
  exact holds_un (OV.out x1 x2 HE.out.1 HE.out.2.1 p q hp hq q0) HE.out.2.2.1 HE.out.2.2.2.1 HE.out.2.2.2.2.1 HE.out.2.2.2.2.2
 exact zz118) : p := h
theorem iover_tt (l1 h1 l2 h2 : Nat) (k1 : Full l1 h1) (k2 : Full l2 h2) (g0 : 0 ≤ Fp.un Ieee.double l2) (n0 : ¬ (Fp.un Ieee.double l2 = 0 ∧ Fp.un Ieee.double h2 = 0)) (ga : Fp.un Ieee.double l1 < 0) (gb : 0 < Fp.un Ieee.double h1) (w : World) (hT : Tab w) : Calls Tryz.prog 124 #[.agg #[.float .f64 l1, .float .f64 h1], .agg #[.float .f64 l2, .float .f64 h2]] w (IvH w (DivS l1 h1 l2 h2)) := by
 have hle := (en_le k2.1 k2.2.1).1 k2.2.2.1
 have c1 := c_lt (x := l1) (y := 0) k1.1.2 dc
 rw [un_zero, decide_eq_true ga] at c1
 have c2 := c_gt (x := h1) (y := 0) k1.2.1.2 dc
 rw [un_zero, decide_eq_true gb] at c2
 have B1 := Hh (fun w hT => iby false l1 l2 k1.1 k2.1 om w hT)
 have B2 := Hh (fun w hT => iby true h1 l2 k1.2.1 k2.1 om w hT)
 have HX := Hh (show ∃ e, DivS l1 h1 l2 h2 e from by obtain ⟨p, hp⟩ := k1.point; obtain ⟨q, hq, q0⟩ := div_point k2 g0 n0; exact ⟨_, p, q, hp, hq, q0, rfl⟩)
 have MK := Hh (fun (x y : Nat) hx hy w => imake x y hx hy w)
 have OV := Hh (fun (l h : Nat) (e1 : ByEnd false l1 l2 l) (e2 : ByEnd true h1 l2 h) (p q : Rat) hp hq q0 => over_holds (a1 := l1) (a2 := h1) (b1 := l2) (b2 := h2) (p := p) (q := q) (l := l) (h := h) hp hq g0 q0 (lo := l2) (hi := l2) (by rw [if_pos ga]) (by rw [if_pos gb]) e1 e2)
 exact zz2
theorem iover_tf (l1 h1 l2 h2 : Nat) (k1 : Full l1 h1) (k2 : Full l2 h2) (g0 : 0 ≤ Fp.un Ieee.double l2) (n0 : ¬ (Fp.un Ieee.double l2 = 0 ∧ Fp.un Ieee.double h2 = 0)) (ga : Fp.un Ieee.double l1 < 0) (gb : ¬ 0 < Fp.un Ieee.double h1) (w : World) (hT : Tab w) : Calls Tryz.prog 124 #[.agg #[.float .f64 l1, .float .f64 h1], .agg #[.float .f64 l2, .float .f64 h2]] w (IvH w (DivS l1 h1 l2 h2)) := by
 have hle := (en_le k2.1 k2.2.1).1 k2.2.2.1
 have c1 := c_lt (x := l1) (y := 0) k1.1.2 dc
 rw [un_zero, decide_eq_true ga] at c1
 have c2 := c_gt (x := h1) (y := 0) k1.2.1.2 dc
 rw [un_zero, decide_eq_false gb] at c2
 have B1 := Hh (fun w hT => iby false l1 l2 k1.1 k2.1 om w hT)
 have B2 := Hh (fun w hT => iby true h1 h2 k1.2.1 k2.2.1 om w hT)
 have HX := Hh (show ∃ e, DivS l1 h1 l2 h2 e from by obtain ⟨p, hp⟩ := k1.point; obtain ⟨q, hq, q0⟩ := div_point k2 g0 n0; exact ⟨_, p, q, hp, hq, q0, rfl⟩)
 have MK := Hh (fun (x y : Nat) hx hy w => imake x y hx hy w)
 have OV := Hh (fun (l h : Nat) (e1 : ByEnd false l1 l2 l) (e2 : ByEnd true h1 h2 h) (p q : Rat) hp hq q0 => over_holds (a1 := l1) (a2 := h1) (b1 := l2) (b2 := h2) (p := p) (q := q) (l := l) (h := h) hp hq g0 q0 (lo := l2) (hi := h2) (by rw [if_pos ga]) (by rw [if_neg gb]) e1 e2)
 exact zz2
theorem iover_ft (l1 h1 l2 h2 : Nat) (k1 : Full l1 h1) (k2 : Full l2 h2) (g0 : 0 ≤ Fp.un Ieee.double l2) (n0 : ¬ (Fp.un Ieee.double l2 = 0 ∧ Fp.un Ieee.double h2 = 0)) (ga : ¬ Fp.un Ieee.double l1 < 0) (gb : 0 < Fp.un Ieee.double h1) (w : World) (hT : Tab w) : Calls Tryz.prog 124 #[.agg #[.float .f64 l1, .float .f64 h1], .agg #[.float .f64 l2, .float .f64 h2]] w (IvH w (DivS l1 h1 l2 h2)) := by
 have hle := (en_le k2.1 k2.2.1).1 k2.2.2.1
 have c1 := c_lt (x := l1) (y := 0) k1.1.2 dc
 rw [un_zero, decide_eq_false ga] at c1
 have c2 := c_gt (x := h1) (y := 0) k1.2.1.2 dc
 rw [un_zero, decide_eq_true gb] at c2
 have B1 := Hh (fun w hT => iby false l1 h2 k1.1 k2.2.1 om w hT)
 have B2 := Hh (fun w hT => iby true h1 l2 k1.2.1 k2.1 om w hT)
 have HX := Hh (show ∃ e, DivS l1 h1 l2 h2 e from by obtain ⟨p, hp⟩ := k1.point; obtain ⟨q, hq, q0⟩ := div_point k2 g0 n0; exact ⟨_, p, q, hp, hq, q0, rfl⟩)
 have MK := Hh (fun (x y : Nat) hx hy w => imake x y hx hy w)
 have OV := Hh (fun (l h : Nat) (e1 : ByEnd false l1 h2 l) (e2 : ByEnd true h1 l2 h) (p q : Rat) hp hq q0 => over_holds (a1 := l1) (a2 := h1) (b1 := l2) (b2 := h2) (p := p) (q := q) (l := l) (h := h) hp hq g0 q0 (lo := h2) (hi := l2) (by rw [if_neg ga]) (by rw [if_pos gb]) e1 e2)
 exact zz2
theorem iover_ff (l1 h1 l2 h2 : Nat) (k1 : Full l1 h1) (k2 : Full l2 h2) (g0 : 0 ≤ Fp.un Ieee.double l2) (n0 : ¬ (Fp.un Ieee.double l2 = 0 ∧ Fp.un Ieee.double h2 = 0)) (ga : ¬ Fp.un Ieee.double l1 < 0) (gb : ¬ 0 < Fp.un Ieee.double h1) (w : World) (hT : Tab w) : Calls Tryz.prog 124 #[.agg #[.float .f64 l1, .float .f64 h1], .agg #[.float .f64 l2, .float .f64 h2]] w (IvH w (DivS l1 h1 l2 h2)) := by
 have hle := (en_le k2.1 k2.2.1).1 k2.2.2.1
 have c1 := c_lt (x := l1) (y := 0) k1.1.2 dc
 rw [un_zero, decide_eq_false ga] at c1
 have c2 := c_gt (x := h1) (y := 0) k1.2.1.2 dc
 rw [un_zero, decide_eq_false gb] at c2
 have B1 := Hh (fun w hT => iby false l1 h2 k1.1 k2.2.1 om w hT)
 have B2 := Hh (fun w hT => iby true h1 h2 k1.2.1 k2.2.1 om w hT)
 have HX := Hh (show ∃ e, DivS l1 h1 l2 h2 e from by obtain ⟨p, hp⟩ := k1.point; obtain ⟨q, hq, q0⟩ := div_point k2 g0 n0; exact ⟨_, p, q, hp, hq, q0, rfl⟩)
 have MK := Hh (fun (x y : Nat) hx hy w => imake x y hx hy w)
 have OV := Hh (fun (l h : Nat) (e1 : ByEnd false l1 h2 l) (e2 : ByEnd true h1 h2 h) (p q : Rat) hp hq q0 => over_holds (a1 := l1) (a2 := h1) (b1 := l2) (b2 := h2) (p := p) (q := q) (l := l) (h := h) hp hq g0 q0 (lo := h2) (hi := h2) (by rw [if_neg ga]) (by rw [if_neg gb]) e1 e2)
 exact zz2
theorem iover (l1 h1 l2 h2 : Nat) (k1 : Full l1 h1) (k2 : Full l2 h2) (g0 : 0 ≤ Fp.un Ieee.double l2) (n0 : ¬ (Fp.un Ieee.double l2 = 0 ∧ Fp.un Ieee.double h2 = 0)) (w : World) (hT : Tab w) : Calls Tryz.prog 124 #[.agg #[.float .f64 l1, .float .f64 h1], .agg #[.float .f64 l2, .float .f64 h2]] w (IvH w (DivS l1 h1 l2 h2)) := by
 by_cases ga : Fp.un Ieee.double l1 < 0
 ·by_cases gb : 0 < Fp.un Ieee.double h1
  ·exact iover_tt l1 h1 l2 h2 k1 k2 g0 n0 ga gb w hT
  ·exact iover_tf l1 h1 l2 h2 k1 k2 g0 n0 ga gb w hT
 ·by_cases gb : 0 < Fp.un Ieee.double h1
  ·exact iover_ft l1 h1 l2 h2 k1 k2 g0 n0 ga gb w hT
  ·exact iover_ff l1 h1 l2 h2 k1 k2 g0 n0 ga gb w hT
theorem zz116 {p : Prop} (h : p := by
 have hBr := (hcz.block (b0 + 2) (by have := HS.out; omega)).trans hB2
 obtain ⟨k0, k1, kf, kg, k2, r0, r1⟩ := iv_block hBr (.float .f64 9218868437227405312) (.float .f64 18442240474082181120)
 have kf0 := kf 0; have kf1 := kf 1; have kg1 := kg 1
 have hww := hwN.trans hcz
 go_wp2
 (try simp only [Exit.inBlock, Exit.then]); refine bodyPost_ret (v := .agg #[.float .f64 9218868437227405312, .float .f64 18442240474082181120]) (by simp [results, Tryz.results42, go_sem, r0, r1]) rfl ?_
 exact zz23) : p := h
theorem iDiv_n (l1 h1 l2 h2 : Nat) (i1 : Iv l1 h1) (i2 : Iv l2 h2) (k1 : ¬ Full l1 h1) (w : World) (hT : Tab w) : Calls Tryz.prog 42 #[.agg #[.float .f64 l1, .float .f64 h1], .agg #[.float .f64 l2, .float .f64 h2]] w (IvH w (DivS l1 h1 l2 h2)) := by
 have F1 := Hh (fun w => ifull l1 h1 i1.sane.1 i1.sane.2 w); have F2 := Hh (fun w => ifull l2 h2 i2.sane.1 i2.sane.2 w)
 rw [decide_eq_false k1] at F1
 have EM := Hh iEmpty
 have HN := Hh (show ∀ e, ¬ DivS l1 h1 l2 h2 e from fun e ⟨p, q, hp, hq, q0, _⟩ => k1 hp.full)
 have HT := Hh hT
 clear hT i1 i2 k1
 obtain ⟨hwN, hB0, hB1, hB2⟩ := box3 w #[.float .f64 l1, .float .f64 h1] #[.float .f64 l2, .float .f64 h2] #[.float .f64 0, .float .f64 0] 30 30 30
 go_enter Tryz.func42, Tryz.ntmps42
 go_upto_region 1 with fail
 obtain ⟨W3, hW3⟩ : ∃ W3, W3 = (((w.alloc (.cells #[.float .f64 l1, .float .f64 h1] 30)).alloc (.cells #[.float .f64 l2, .float .f64 h2] 30)).alloc (.cells #[.float .f64 0, .float .f64 0] 30)) := ⟨_, rfl⟩
 have hs3 : W3.heap.size = w.heap.size + 3 := by rw [hW3]; simp
 rw [← hW3] at hwN hB0 hB1 hB2 ⊢
 clear hW3
 obtain ⟨b0, hb0⟩ : ∃ b, b = w.heap.size := ⟨_, rfl⟩
 have HS := Hh (And.intro hs3 hb0)
 rw [← hb0] at hB0 hB1 hB2 ⊢
 clear hb0 hs3
 obtain ⟨x00, x01⟩ := pair_cells hB0
 obtain ⟨x10, x11⟩ := pair_cells hB1
 have l0 : b0 + 2 < W3.heap.size := by have := HS.out; omega
 go_wp2_with fail
 refine (F1.out _).mono ?_; rintro r1 w1 ⟨rfl, hb1⟩
 go_wp2_with fail
 refine (EM.out _).mono ?_; rintro rz wz ⟨rfl, hbz⟩
 have hcz := hb1.trans hbz
 exact zz116
theorem iDiv_yn (l1 h1 l2 h2 : Nat) (i1 : Iv l1 h1) (i2 : Iv l2 h2) (k1 : Full l1 h1) (k2 : ¬ Full l2 h2) (w : World) (hT : Tab w) : Calls Tryz.prog 42 #[.agg #[.float .f64 l1, .float .f64 h1], .agg #[.float .f64 l2, .float .f64 h2]] w (IvH w (DivS l1 h1 l2 h2)) := by
 have F1 := Hh (fun w => ifull l1 h1 i1.sane.1 i1.sane.2 w); have F2 := Hh (fun w => ifull l2 h2 i2.sane.1 i2.sane.2 w)
 rw [decide_eq_true k1] at F1
 rw [decide_eq_false k2] at F2
 have EM := Hh iEmpty
 have HN := Hh (show ∀ e, ¬ DivS l1 h1 l2 h2 e from fun e ⟨p, q, hp, hq, q0, _⟩ => k2 hq.full)
 have HT := Hh hT
 clear hT i1 i2 k1 k2
 obtain ⟨hwN, hB0, hB1, hB2⟩ := box3 w #[.float .f64 l1, .float .f64 h1] #[.float .f64 l2, .float .f64 h2] #[.float .f64 0, .float .f64 0] 30 30 30
 go_enter Tryz.func42, Tryz.ntmps42
 go_upto_region 1 with fail
 obtain ⟨W3, hW3⟩ : ∃ W3, W3 = (((w.alloc (.cells #[.float .f64 l1, .float .f64 h1] 30)).alloc (.cells #[.float .f64 l2, .float .f64 h2] 30)).alloc (.cells #[.float .f64 0, .float .f64 0] 30)) := ⟨_, rfl⟩
 have hs3 : W3.heap.size = w.heap.size + 3 := by rw [hW3]; simp
 rw [← hW3] at hwN hB0 hB1 hB2 ⊢
 clear hW3
 obtain ⟨b0, hb0⟩ : ∃ b, b = w.heap.size := ⟨_, rfl⟩
 have HS := Hh (And.intro hs3 hb0)
 rw [← hb0] at hB0 hB1 hB2 ⊢
 clear hb0 hs3
 obtain ⟨x00, x01⟩ := pair_cells hB0
 obtain ⟨x10, x11⟩ := pair_cells hB1
 have l0 : b0 + 2 < W3.heap.size := by have := HS.out; omega
 go_wp2_with fail
 refine (F1.out _).mono ?_; rintro r1 w1 ⟨rfl, hb1⟩
 replace x00 := (hb1.cells _ _ (show b0 < _ from by have := l0; omega)).trans x00
 replace x01 := (hb1.cells _ _ (show b0 < _ from by have := l0; omega)).trans x01
 replace x10 := (hb1.cells _ _ (show b0 + 1 < _ from by have := l0; omega)).trans x10
 replace x11 := (hb1.cells _ _ (show b0 + 1 < _ from by have := l0; omega)).trans x11
 replace l0 := Nat.lt_of_lt_of_le l0 hb1.size
 go_wp2_with fail
 refine (F2.out _).mono ?_; rintro r2 w2 ⟨rfl, hb2⟩
 have hc2 := hb1.trans hb2
 go_wp2_with fail
 refine (EM.out _).mono ?_; rintro rz wz ⟨rfl, hbz⟩
 have hcz := hc2.trans hbz
 exact zz116
theorem iDiv_zz (l1 h1 l2 h2 : Nat) (i1 : Iv l1 h1) (i2 : Iv l2 h2) (k1 : Full l1 h1) (k2 : Full l2 h2) (u1 : Fp.un Ieee.double l2 = 0) (u2 : Fp.un Ieee.double h2 = 0) (w : World) (hT : Tab w) : Calls Tryz.prog 42 #[.agg #[.float .f64 l1, .float .f64 h1], .agg #[.float .f64 l2, .float .f64 h2]] w (IvH w (DivS l1 h1 l2 h2)) := by
 have F1 := Hh (fun w => ifull l1 h1 i1.sane.1 i1.sane.2 w); have F2 := Hh (fun w => ifull l2 h2 i2.sane.1 i2.sane.2 w)
 rw [decide_eq_true k1] at F1
 rw [decide_eq_true k2] at F2
 have EM := Hh iEmpty
 have HN := Hh (show ∀ e, ¬ DivS l1 h1 l2 h2 e from fun e ⟨p, q, hp, hq, q0, _⟩ => q0 (zero_holds hq u1 u2))
 have c1 := c_eq (x := l2) (y := 0) k2.1.2 dc
 rw [un_zero, decide_eq_true u1] at c1
 have c2 := c_eq (x := h2) (y := 0) k2.2.1.2 dc
 rw [un_zero, decide_eq_true u2] at c2
 have HT := Hh hT
 clear hT i1 i2 k1 k2 u1 u2
 obtain ⟨hwN, hB0, hB1, hB2⟩ := box3 w #[.float .f64 l1, .float .f64 h1] #[.float .f64 l2, .float .f64 h2] #[.float .f64 0, .float .f64 0] 30 30 30
 go_enter Tryz.func42, Tryz.ntmps42
 go_upto_region 1 with fail
 obtain ⟨W3, hW3⟩ : ∃ W3, W3 = (((w.alloc (.cells #[.float .f64 l1, .float .f64 h1] 30)).alloc (.cells #[.float .f64 l2, .float .f64 h2] 30)).alloc (.cells #[.float .f64 0, .float .f64 0] 30)) := ⟨_, rfl⟩
 have hs3 : W3.heap.size = w.heap.size + 3 := by rw [hW3]; simp
 rw [← hW3] at hwN hB0 hB1 hB2 ⊢
 clear hW3
 obtain ⟨b0, hb0⟩ : ∃ b, b = w.heap.size := ⟨_, rfl⟩
 have HS := Hh (And.intro hs3 hb0)
 rw [← hb0] at hB0 hB1 hB2 ⊢
 clear hb0 hs3
 obtain ⟨x00, x01⟩ := pair_cells hB0
 obtain ⟨x10, x11⟩ := pair_cells hB1
 have l0 : b0 + 2 < W3.heap.size := by have := HS.out; omega
 go_wp2_with fail
 refine (F1.out _).mono ?_; rintro r1 w1 ⟨rfl, hb1⟩
 replace x00 := (hb1.cells _ _ (show b0 < _ from by have := l0; omega)).trans x00
 replace x01 := (hb1.cells _ _ (show b0 < _ from by have := l0; omega)).trans x01
 replace x10 := (hb1.cells _ _ (show b0 + 1 < _ from by have := l0; omega)).trans x10
 replace x11 := (hb1.cells _ _ (show b0 + 1 < _ from by have := l0; omega)).trans x11
 replace l0 := Nat.lt_of_lt_of_le l0 hb1.size
 go_wp2_with fail
 refine (F2.out _).mono ?_; rintro r2 w2 ⟨rfl, hb2⟩
 have hc2 := hb1.trans hb2
 replace x00 := (hb2.cells _ _ (show b0 < _ from by have := l0; omega)).trans x00
 replace x01 := (hb2.cells _ _ (show b0 < _ from by have := l0; omega)).trans x01
 replace x10 := (hb2.cells _ _ (show b0 + 1 < _ from by have := l0; omega)).trans x10
 replace x11 := (hb2.cells _ _ (show b0 + 1 < _ from by have := l0; omega)).trans x11
 replace l0 := Nat.lt_of_lt_of_le l0 hb2.size
 go_wp2_with fail
 refine (EM.out _).mono ?_; rintro rz wz ⟨rfl, hbz⟩
 have hcz := hc2.trans hbz
 exact zz116
theorem zz17 {p : Prop} (h : p := by
 obtain ⟨hwN, hB0, hB1, hB2⟩ := box3 w #[.float .f64 l1, .float .f64 h1] #[.float .f64 l2, .float .f64 h2] #[.float .f64 0, .float .f64 0] 30 30 30
 go_enter Tryz.func42, Tryz.ntmps42
 go_upto_region 1 with fail
 obtain ⟨W3, hW3⟩ : ∃ W3, W3 = (((w.alloc (.cells #[.float .f64 l1, .float .f64 h1] 30)).alloc (.cells #[.float .f64 l2, .float .f64 h2] 30)).alloc (.cells #[.float .f64 0, .float .f64 0] 30)) := ⟨_, rfl⟩
 have hs3 : W3.heap.size = w.heap.size + 3 := by rw [hW3]; simp
 rw [← hW3] at hwN hB0 hB1 hB2 ⊢
 clear hW3
 obtain ⟨b0, hb0⟩ : ∃ b, b = w.heap.size := ⟨_, rfl⟩
 have HS := Hh (And.intro hs3 hb0)
 rw [← hb0] at hB0 hB1 hB2 ⊢
 clear hb0 hs3
 obtain ⟨x00, x01⟩ := pair_cells hB0
 obtain ⟨x10, x11⟩ := pair_cells hB1
 have l0 : b0 + 2 < W3.heap.size := by have := HS.out; omega
 go_wp2_with fail
 refine (F1.out _).mono ?_; rintro r1 w1 ⟨rfl, hb1⟩
 replace x00 := (hb1.cells _ _ (show b0 < _ from by have := l0; omega)).trans x00
 replace x01 := (hb1.cells _ _ (show b0 < _ from by have := l0; omega)).trans x01
 replace x10 := (hb1.cells _ _ (show b0 + 1 < _ from by have := l0; omega)).trans x10
 replace x11 := (hb1.cells _ _ (show b0 + 1 < _ from by have := l0; omega)).trans x11
 replace l0 := Nat.lt_of_lt_of_le l0 hb1.size
 go_wp2_with fail
 refine (F2.out _).mono ?_; rintro r2 w2 ⟨rfl, hb2⟩
 have hc2 := hb1.trans hb2
 replace x00 := (hb2.cells _ _ (show b0 < _ from by have := l0; omega)).trans x00
 replace x01 := (hb2.cells _ _ (show b0 < _ from by have := l0; omega)).trans x01
 replace x10 := (hb2.cells _ _ (show b0 + 1 < _ from by have := l0; omega)).trans x10
 replace x11 := (hb2.cells _ _ (show b0 + 1 < _ from by have := l0; omega)).trans x11
 replace l0 := Nat.lt_of_lt_of_le l0 hb2.size
 go_wp2_with fail
 refine (OV.out _ (HT.out.of (hwN.trans hc2))).mono ?_; rintro r3 w3 ⟨a, b, rfl, i3, e3, hb3⟩
 have hc3 := hc2.trans hb3
 have HE := Hh (And.intro i3 e3)
 clear i3 e3
 have hBr := (hc3.block (b0 + 2) (by have := HS.out; omega)).trans hB2
 obtain ⟨k0, k1, kf, kg, k2, r0, r1⟩ := iv_block hBr (.float .f64 a) (.float .f64 b)
 have kf0 := kf 0; have kf1 := kf 1; have kg1 := kg 1
 have hww := hwN.trans hc3
 go_wp2
 (try simp only [Exit.inBlock, Exit.then]); refine bodyPost_ret (v := .agg #[.float .f64 a, .float .f64 b]) (by simp [results, Tryz.results42, go_sem, r0, r1]) rfl ?_
 exact ⟨a, b, rfl, HE.out.1, HE.out.2, (hww.setCell (p := ⟨b0 + 2, 0, none⟩) (by have := HS.out; show w.heap.size ≤ b0 + 2; omega) _).setCell (p := ⟨b0 + 2, 1, none⟩) (by have := HS.out; show w.heap.size ≤ b0 + 2; omega) _⟩) : p := h
theorem iDiv_pz (l1 h1 l2 h2 : Nat) (i1 : Iv l1 h1) (i2 : Iv l2 h2) (k1 : Full l1 h1) (k2 : Full l2 h2) (u1 : Fp.un Ieee.double l2 = 0) (u2 : ¬ Fp.un Ieee.double h2 = 0) (w : World) (hT : Tab w) : Calls Tryz.prog 42 #[.agg #[.float .f64 l1, .float .f64 h1], .agg #[.float .f64 l2, .float .f64 h2]] w (IvH w (DivS l1 h1 l2 h2)) := by
 have F1 := Hh (fun w => ifull l1 h1 i1.sane.1 i1.sane.2 w); have F2 := Hh (fun w => ifull l2 h2 i2.sane.1 i2.sane.2 w)
 rw [decide_eq_true k1] at F1
 rw [decide_eq_true k2] at F2
 have c1 := c_eq (x := l2) (y := 0) k2.1.2 dc
 rw [un_zero, decide_eq_true u1] at c1
 have c2 := c_eq (x := h2) (y := 0) k2.2.1.2 dc
 rw [un_zero, decide_eq_false u2] at c2
 have c3 := c_gt (x := l2) (y := 0) k2.1.2 dc
 rw [un_zero, decide_eq_false om] at c3
 have OV := Hh (fun w hT => iover l1 h1 l2 h2 k1 k2 om om w hT)
 have HT := Hh hT
 clear hT i1 i2 k1 k2 u1 u2
 exact zz17
theorem iDiv_pp (l1 h1 l2 h2 : Nat) (i1 : Iv l1 h1) (i2 : Iv l2 h2) (k1 : Full l1 h1) (k2 : Full l2 h2) (u1 : ¬ Fp.un Ieee.double l2 = 0) (g : 0 ≤ Fp.un Ieee.double l2) (w : World) (hT : Tab w) : Calls Tryz.prog 42 #[.agg #[.float .f64 l1, .float .f64 h1], .agg #[.float .f64 l2, .float .f64 h2]] w (IvH w (DivS l1 h1 l2 h2)) := by
 have F1 := Hh (fun w => ifull l1 h1 i1.sane.1 i1.sane.2 w); have F2 := Hh (fun w => ifull l2 h2 i2.sane.1 i2.sane.2 w)
 rw [decide_eq_true k1] at F1
 rw [decide_eq_true k2] at F2
 have c1 := c_eq (x := l2) (y := 0) k2.1.2 dc
 rw [un_zero, decide_eq_false u1] at c1
 have c3 := c_gt (x := l2) (y := 0) k2.1.2 dc
 rw [un_zero, decide_eq_true om] at c3
 have OV := Hh (fun w hT => iover l1 h1 l2 h2 k1 k2 om om w hT)
 have HT := Hh hT
 clear hT i1 i2 k1 k2 u1 g
 exact zz17
theorem iDiv_neg (l1 h1 l2 h2 : Nat) (i1 : Iv l1 h1) (i2 : Iv l2 h2) (k1 : Full l1 h1) (k2 : Full l2 h2) (u1 : ¬ Fp.un Ieee.double l2 = 0) (g : ¬ 0 ≤ Fp.un Ieee.double l2) (g2 : Fp.un Ieee.double h2 ≤ 0) (w : World) (hT : Tab w) : Calls Tryz.prog 42 #[.agg #[.float .f64 l1, .float .f64 h1], .agg #[.float .f64 l2, .float .f64 h2]] w (IvH w (DivS l1 h1 l2 h2)) := by
 have F1 := Hh (fun w => ifull l1 h1 i1.sane.1 i1.sane.2 w); have F2 := Hh (fun w => ifull l2 h2 i2.sane.1 i2.sane.2 w)
 rw [decide_eq_true k1] at F1
 rw [decide_eq_true k2] at F2
 have c1 := c_eq (x := l2) (y := 0) k2.1.2 dc
 rw [un_zero, decide_eq_false u1] at c1
 have c3 := c_gt (x := l2) (y := 0) k2.1.2 dc
 rw [un_zero, decide_eq_false om] at c3
 have c4 := c_le (x := h2) (y := 0) k2.2.1.2 dc
 rw [un_zero, decide_eq_true g2] at c4
 have N1 := Hh (fun w => iNeg_y l1 h1 i1 k1 w); have N2 := Hh (fun w => iNeg_y l2 h2 i2 k2 w)
 have OV := Hh (fun (a1 b1 a2 b2 : Nat) (n1 : Sane a1 ∧ Sane b1 ∧ Fp.un Ieee.double a1 = -Fp.un Ieee.double h1 ∧ Fp.un Ieee.double b1 = -Fp.un Ieee.double l1) (n2 : Sane a2 ∧ Sane b2 ∧ Fp.un Ieee.double a2 = -Fp.un Ieee.double h2 ∧ Fp.un Ieee.double b2 = -Fp.un Ieee.double l2) w hT => iover a1 b1 a2 b2 (by obtain ⟨p, hp⟩ := k1.point; exact (neg_holds hp n1.1 n1.2.1 n1.2.2.1 n1.2.2.2).full) (by obtain ⟨p, hp⟩ := k2.point; exact (neg_holds hp n2.1 n2.2.1 n2.2.2.1 n2.2.2.2).full) om om w hT)
 have HT := Hh hT
 clear hT i1 i2 k1 k2 u1 g g2
 obtain ⟨hwN, hB0, hB1, hB2⟩ := box3 w #[.float .f64 l1, .float .f64 h1] #[.float .f64 l2, .float .f64 h2] #[.float .f64 0, .float .f64 0] 30 30 30
 go_enter Tryz.func42, Tryz.ntmps42
 go_upto_region 1 with fail
 obtain ⟨W3, hW3⟩ : ∃ W3, W3 = (((w.alloc (.cells #[.float .f64 l1, .float .f64 h1] 30)).alloc (.cells #[.float .f64 l2, .float .f64 h2] 30)).alloc (.cells #[.float .f64 0, .float .f64 0] 30)) := ⟨_, rfl⟩
 have hs3 : W3.heap.size = w.heap.size + 3 := by rw [hW3]; simp
 rw [← hW3] at hwN hB0 hB1 hB2 ⊢
 clear hW3
 obtain ⟨b0, hb0⟩ : ∃ b, b = w.heap.size := ⟨_, rfl⟩
 have HS := Hh (And.intro hs3 hb0)
 rw [← hb0] at hB0 hB1 hB2 ⊢
 clear hb0 hs3
 obtain ⟨x00, x01⟩ := pair_cells hB0
 obtain ⟨x10, x11⟩ := pair_cells hB1
 have l0 : b0 + 2 < W3.heap.size := by have := HS.out; omega
 go_wp2_with fail
 refine (F1.out _).mono ?_; rintro r1 w1 ⟨rfl, hb1⟩
 replace x00 := (hb1.cells _ _ (show b0 < _ from by have := l0; omega)).trans x00
 replace x01 := (hb1.cells _ _ (show b0 < _ from by have := l0; omega)).trans x01
 replace x10 := (hb1.cells _ _ (show b0 + 1 < _ from by have := l0; omega)).trans x10
 replace x11 := (hb1.cells _ _ (show b0 + 1 < _ from by have := l0; omega)).trans x11
 replace l0 := Nat.lt_of_lt_of_le l0 hb1.size
 go_wp2_with fail
 refine (F2.out _).mono ?_; rintro r2 w2 ⟨rfl, hb2⟩
 have hc2 := hb1.trans hb2
 replace x00 := (hb2.cells _ _ (show b0 < _ from by have := l0; omega)).trans x00
 replace x01 := (hb2.cells _ _ (show b0 < _ from by have := l0; omega)).trans x01
 replace x10 := (hb2.cells _ _ (show b0 + 1 < _ from by have := l0; omega)).trans x10
 replace x11 := (hb2.cells _ _ (show b0 + 1 < _ from by have := l0; omega)).trans x11
 replace l0 := Nat.lt_of_lt_of_le l0 hb2.size
 go_upto_region 6 with fail
 refine wp_region_schG (fun W => W.cell? ⟨b0, 0, none⟩ = some (.float .f64 l1) ∧ W.cell? ⟨b0, 1, none⟩ = some (.float .f64 h1) ∧ W.cell? ⟨b0 + 1, 0, none⟩ = some (.float .f64 l2) ∧ W.cell? ⟨b0 + 1, 1, none⟩ = some (.float .f64 h2) ∧ b0 < W.heap.size ∧ b0 + 1 < W.heap.size ∧ Within W3 W) 5 (.firm 0 (.firm 2 (.one 1 (.one 3 (.one 4 (.one 5 .nil)))))) kr kr ⟨x00, x01, x10, x11, by omega, by omega, hc2⟩ ?_
 rintro w0 ⟨p0, p1, s0, s1, pl, sl, hw0⟩
 try simp only [pu]
 iterate 2
  apply sch_firm rfl rfl wi
  ·intro wq hq
   have hcq := hq.cells
   clear hq
   go_simp
   rfl
  try simp only [pu]
 refine sch_one rfl rfl (fun K hK => ?_)
 go_simp
 refine (N1.out _).mono ?_; rintro r3 w3 ⟨a1, b1, rfl, m1, m2, m3, m4, hb3⟩
 have hv3 : Within w0 w3 := (Within.refl _).drew.trans hb3
 have H1 := Hh (And.intro m1 (And.intro m2 (And.intro m3 m4)))
 clear m1 m2 m3 m4
 refine hK _ _ (fun _ => wi) ?_
 clear hK K
 try simp only [pu]
 refine sch_one rfl rfl (fun K hK => ?_)
 go_simp
 refine (N2.out _).mono ?_; rintro r4 w4 ⟨a2, b2, rfl, m1, m2, m3, m4, hb4⟩
 have hv4 : Within w0 w4 := hv3.trans hb4
 have H2 := Hh (And.intro m1 (And.intro m2 (And.intro m3 m4)))
 clear m1 m2 m3 m4
 refine hK _ _ (fun _ => wi) ?_
 clear hK K
 try simp only [pu]
 refine sch_one rfl rfl (fun K hK => ?_)
 go_simp
 refine (OV.out a1 b1 a2 b2 H1.out H2.out _ (HT.out.of ((hwN.trans hw0).trans hv4))).mono ?_; rintro r5 w5 ⟨a, b, rfl, i5, e5, hb5⟩
 have hv5 : Within w0 w5 := hv4.trans hb5
 have hc5 := hw0.trans hv5
 have HE := Hh (And.intro i5 e5)
 clear i5 e5
 have hBr := (hc5.block (b0 + 2) (by have := HS.out; omega)).trans hB2
 obtain ⟨k0, k1, kf, kg, k2, r0, r1⟩ := iv_block hBr (.float .f64 a) (.float .f64 b)
 have kf0 := kf 0; have kf1 := kf 1; have kg1 := kg 1
 have hww := hwN.trans hc5
 refine hK _ _ (fun _ => wi) ?_
 clear hK K
 try simp only [pu]
 refine sch_one rfl rfl (fun K hK => ?_)
 go_simp
 refine hK _ _ ab ?_
 clear hK K
 try simp only [pu]
 refine sch_nil ?_
 go_wp2
 (try simp only [Exit.inBlock, Exit.then]); refine bodyPost_ret (v := .agg #[.float .f64 a, .float .f64 b]) (by simp [results, Tryz.results42, go_sem, r0, r1]) rfl ?_
 exact ⟨a, b, rfl, HE.out.1, div_neg HE.out.2 H1.out H2.out, (hww.setCell (p := ⟨b0 + 2, 0, none⟩) (by have := HS.out; show w.heap.size ≤ b0 + 2; omega) _).setCell (p := ⟨b0 + 2, 1, none⟩) (by have := HS.out; show w.heap.size ≤ b0 + 2; omega) _⟩
theorem iDiv_mz (l1 h1 l2 h2 : Nat) (i1 : Iv l1 h1) (i2 : Iv l2 h2) (k1 : Full l1 h1) (k2 : Full l2 h2) (u1 : ¬ Fp.un Ieee.double l2 = 0) (g : ¬ 0 ≤ Fp.un Ieee.double l2) (g2 : ¬ Fp.un Ieee.double h2 ≤ 0) (v1 : Fp.un Ieee.double l1 = 0) (v2 : Fp.un Ieee.double h1 = 0) (w : World) (hT : Tab w) : Calls Tryz.prog 42 #[.agg #[.float .f64 l1, .float .f64 h1], .agg #[.float .f64 l2, .float .f64 h2]] w (IvH w (DivS l1 h1 l2 h2)) := by
 have F1 := Hh (fun w => ifull l1 h1 i1.sane.1 i1.sane.2 w); have F2 := Hh (fun w => ifull l2 h2 i2.sane.1 i2.sane.2 w)
 rw [decide_eq_true k1] at F1
 rw [decide_eq_true k2] at F2
 have c1 := c_eq (x := l2) (y := 0) k2.1.2 dc
 rw [un_zero, decide_eq_false u1] at c1
 have c3 := c_gt (x := l2) (y := 0) k2.1.2 dc
 rw [un_zero, decide_eq_false om] at c3
 have c4 := c_le (x := h2) (y := 0) k2.2.1.2 dc
 rw [un_zero, decide_eq_false g2] at c4
 have c5 := c_eq (x := l1) (y := 0) k1.1.2 dc
 rw [un_zero, decide_eq_true v1] at c5
 have c6 := c_eq (x := h1) (y := 0) k1.2.1.2 dc
 rw [un_zero, decide_eq_true v2] at c6
 have HV := Hh (And.intro v1 v2)
 have MK := Hh (fun w => imake 0 0 fi_zero.sane fi_zero.sane w)
 have HT := Hh hT
 clear hT i1 i2 k1 k2 u1 g g2 v1 v2
 obtain ⟨hwN, hB0, hB1, hB2⟩ := box3 w #[.float .f64 l1, .float .f64 h1] #[.float .f64 l2, .float .f64 h2] #[.float .f64 0, .float .f64 0] 30 30 30
 go_enter Tryz.func42, Tryz.ntmps42
 go_upto_region 1 with fail
 obtain ⟨W3, hW3⟩ : ∃ W3, W3 = (((w.alloc (.cells #[.float .f64 l1, .float .f64 h1] 30)).alloc (.cells #[.float .f64 l2, .float .f64 h2] 30)).alloc (.cells #[.float .f64 0, .float .f64 0] 30)) := ⟨_, rfl⟩
 have hs3 : W3.heap.size = w.heap.size + 3 := by rw [hW3]; simp
 rw [← hW3] at hwN hB0 hB1 hB2 ⊢
 clear hW3
 obtain ⟨b0, hb0⟩ : ∃ b, b = w.heap.size := ⟨_, rfl⟩
 have HS := Hh (And.intro hs3 hb0)
 rw [← hb0] at hB0 hB1 hB2 ⊢
 clear hb0 hs3
 obtain ⟨x00, x01⟩ := pair_cells hB0
 obtain ⟨x10, x11⟩ := pair_cells hB1
 have l0 : b0 + 2 < W3.heap.size := by have := HS.out; omega
 go_wp2_with fail
 refine (F1.out _).mono ?_; rintro r1 w1 ⟨rfl, hb1⟩
 replace x00 := (hb1.cells _ _ (show b0 < _ from by have := l0; omega)).trans x00
 replace x01 := (hb1.cells _ _ (show b0 < _ from by have := l0; omega)).trans x01
 replace x10 := (hb1.cells _ _ (show b0 + 1 < _ from by have := l0; omega)).trans x10
 replace x11 := (hb1.cells _ _ (show b0 + 1 < _ from by have := l0; omega)).trans x11
 replace l0 := Nat.lt_of_lt_of_le l0 hb1.size
 go_wp2_with fail
 refine (F2.out _).mono ?_; rintro r2 w2 ⟨rfl, hb2⟩
 have hc2 := hb1.trans hb2
 replace x00 := (hb2.cells _ _ (show b0 < _ from by have := l0; omega)).trans x00
 replace x01 := (hb2.cells _ _ (show b0 < _ from by have := l0; omega)).trans x01
 replace x10 := (hb2.cells _ _ (show b0 + 1 < _ from by have := l0; omega)).trans x10
 replace x11 := (hb2.cells _ _ (show b0 + 1 < _ from by have := l0; omega)).trans x11
 replace l0 := Nat.lt_of_lt_of_le l0 hb2.size
 go_wp2_with fail
 refine (MK.out _).mono ?_; rintro r3 w3 ⟨a, b, rfl, sa, sb, ua, ub, hb3⟩
 have hc3 := hc2.trans hb3
 have HE := Hh (And.intro sa (And.intro sb (And.intro (ua.trans un_zero) (ub.trans un_zero))))
 clear sa sb ua ub
 have hBr := (hc3.block (b0 + 2) (by have := HS.out; omega)).trans hB2
 obtain ⟨k0, k1, kf, kg, k2, r0, r1⟩ := iv_block hBr (.float .f64 a) (.float .f64 b)
 have kf0 := kf 0; have kf1 := kf 1; have kg1 := kg 1
 have hww := hwN.trans hc3
 go_wp2
 (try simp only [Exit.inBlock, Exit.then]); refine bodyPost_ret (v := .agg #[.float .f64 a, .float .f64 b]) (by simp [results, Tryz.results42, go_sem, r0, r1]) rfl ?_
 have k0_ : Holds a b 0 := ⟨⟨HE.out.1, by rw [(en_zero HE.out.1 HE.out.2.2.1).2]; exact En.le_self _⟩, ⟨HE.out.2.1, by rw [(en_zero HE.out.2.1 HE.out.2.2.2).2]; exact En.le_self _⟩⟩
 exact ⟨a, b, rfl, .inl k0_.full, mid_holds HV.out.1 HV.out.2 HE.out.1 HE.out.2.1 HE.out.2.2.1 HE.out.2.2.2, (hww.setCell (p := ⟨b0 + 2, 0, none⟩) (by have := HS.out; show w.heap.size ≤ b0 + 2; omega) _).setCell (p := ⟨b0 + 2, 1, none⟩) (by have := HS.out; show w.heap.size ≤ b0 + 2; omega) _⟩
theorem zz16 {p : Prop} (h : p := by
 obtain ⟨hwN, hB0, hB1, hB2⟩ := box3 w #[.float .f64 l1, .float .f64 h1] #[.float .f64 l2, .float .f64 h2] #[.float .f64 0, .float .f64 0] 30 30 30
 go_enter Tryz.func42, Tryz.ntmps42
 go_upto_region 1 with fail
 obtain ⟨W3, hW3⟩ : ∃ W3, W3 = (((w.alloc (.cells #[.float .f64 l1, .float .f64 h1] 30)).alloc (.cells #[.float .f64 l2, .float .f64 h2] 30)).alloc (.cells #[.float .f64 0, .float .f64 0] 30)) := ⟨_, rfl⟩
 have hs3 : W3.heap.size = w.heap.size + 3 := by rw [hW3]; simp
 rw [← hW3] at hwN hB0 hB1 hB2 ⊢
 clear hW3
 obtain ⟨b0, hb0⟩ : ∃ b, b = w.heap.size := ⟨_, rfl⟩
 have HS := Hh (And.intro hs3 hb0)
 rw [← hb0] at hB0 hB1 hB2 ⊢
 clear hb0 hs3
 obtain ⟨x00, x01⟩ := pair_cells hB0
 obtain ⟨x10, x11⟩ := pair_cells hB1
 have l0 : b0 + 2 < W3.heap.size := by have := HS.out; omega
 go_wp2_with fail
 refine (F1.out _).mono ?_; rintro r1 w1 ⟨rfl, hb1⟩
 replace x00 := (hb1.cells _ _ (show b0 < _ from by have := l0; omega)).trans x00
 replace x01 := (hb1.cells _ _ (show b0 < _ from by have := l0; omega)).trans x01
 replace x10 := (hb1.cells _ _ (show b0 + 1 < _ from by have := l0; omega)).trans x10
 replace x11 := (hb1.cells _ _ (show b0 + 1 < _ from by have := l0; omega)).trans x11
 replace l0 := Nat.lt_of_lt_of_le l0 hb1.size
 go_wp2_with fail
 refine (F2.out _).mono ?_; rintro r2 w2 ⟨rfl, hb2⟩
 have hc2 := hb1.trans hb2
 replace x00 := (hb2.cells _ _ (show b0 < _ from by have := l0; omega)).trans x00
 replace x01 := (hb2.cells _ _ (show b0 < _ from by have := l0; omega)).trans x01
 replace x10 := (hb2.cells _ _ (show b0 + 1 < _ from by have := l0; omega)).trans x10
 replace x11 := (hb2.cells _ _ (show b0 + 1 < _ from by have := l0; omega)).trans x11
 replace l0 := Nat.lt_of_lt_of_le l0 hb2.size
 go_wp2_with fail
 refine (AL.out _).mono ?_; rintro r3 w3 ⟨rfl, hb3⟩
 have hc3 := hc2.trans hb3
 have hBr := (hc3.block (b0 + 2) (by have := HS.out; omega)).trans hB2
 obtain ⟨k0, k1, kf, kg, k2, r0, r1⟩ := iv_block hBr (.float .f64 18442240474082181120) (.float .f64 9218868437227405312)
 have kf0 := kf 0; have kf1 := kf 1; have kg1 := kg 1
 have hww := hwN.trans hc3
 go_wp2
 (try simp only [Exit.inBlock, Exit.then]); refine bodyPost_ret (v := .agg #[.float .f64 18442240474082181120, .float .f64 9218868437227405312]) (by simp [results, Tryz.results42, go_sem, r0, r1]) rfl ?_
 exact ⟨_, _, rfl, .inl (all_holds 0).full, fun e _ => all_holds e, (hww.setCell (p := ⟨b0 + 2, 0, none⟩) (by have := HS.out; show w.heap.size ≤ b0 + 2; omega) _).setCell (p := ⟨b0 + 2, 1, none⟩) (by have := HS.out; show w.heap.size ≤ b0 + 2; omega) _⟩) : p := h
theorem iDiv_m1 (l1 h1 l2 h2 : Nat) (i1 : Iv l1 h1) (i2 : Iv l2 h2) (k1 : Full l1 h1) (k2 : Full l2 h2) (u1 : ¬ Fp.un Ieee.double l2 = 0) (g : ¬ 0 ≤ Fp.un Ieee.double l2) (g2 : ¬ Fp.un Ieee.double h2 ≤ 0) (v1 : ¬ Fp.un Ieee.double l1 = 0) (w : World) (hT : Tab w) : Calls Tryz.prog 42 #[.agg #[.float .f64 l1, .float .f64 h1], .agg #[.float .f64 l2, .float .f64 h2]] w (IvH w (DivS l1 h1 l2 h2)) := by
 have F1 := Hh (fun w => ifull l1 h1 i1.sane.1 i1.sane.2 w); have F2 := Hh (fun w => ifull l2 h2 i2.sane.1 i2.sane.2 w)
 rw [decide_eq_true k1] at F1
 rw [decide_eq_true k2] at F2
 have c1 := c_eq (x := l2) (y := 0) k2.1.2 dc
 rw [un_zero, decide_eq_false u1] at c1
 have c3 := c_gt (x := l2) (y := 0) k2.1.2 dc
 rw [un_zero, decide_eq_false om] at c3
 have c4 := c_le (x := h2) (y := 0) k2.2.1.2 dc
 rw [un_zero, decide_eq_false g2] at c4
 have c5 := c_eq (x := l1) (y := 0) k1.1.2 dc
 rw [un_zero, decide_eq_false v1] at c5
 have AL := Hh iAll
 have HT := Hh hT
 clear hT i1 i2 k1 k2 u1 g g2 v1
 exact zz16
theorem iDiv_m2 (l1 h1 l2 h2 : Nat) (i1 : Iv l1 h1) (i2 : Iv l2 h2) (k1 : Full l1 h1) (k2 : Full l2 h2) (u1 : ¬ Fp.un Ieee.double l2 = 0) (g : ¬ 0 ≤ Fp.un Ieee.double l2) (g2 : ¬ Fp.un Ieee.double h2 ≤ 0) (v1 : Fp.un Ieee.double l1 = 0) (v2 : ¬ Fp.un Ieee.double h1 = 0) (w : World) (hT : Tab w) : Calls Tryz.prog 42 #[.agg #[.float .f64 l1, .float .f64 h1], .agg #[.float .f64 l2, .float .f64 h2]] w (IvH w (DivS l1 h1 l2 h2)) := by
 have F1 := Hh (fun w => ifull l1 h1 i1.sane.1 i1.sane.2 w); have F2 := Hh (fun w => ifull l2 h2 i2.sane.1 i2.sane.2 w)
 rw [decide_eq_true k1] at F1
 rw [decide_eq_true k2] at F2
 have c1 := c_eq (x := l2) (y := 0) k2.1.2 dc
 rw [un_zero, decide_eq_false u1] at c1
 have c3 := c_gt (x := l2) (y := 0) k2.1.2 dc
 rw [un_zero, decide_eq_false om] at c3
 have c4 := c_le (x := h2) (y := 0) k2.2.1.2 dc
 rw [un_zero, decide_eq_false g2] at c4
 have c5 := c_eq (x := l1) (y := 0) k1.1.2 dc
 rw [un_zero, decide_eq_true v1] at c5
 have c6 := c_eq (x := h1) (y := 0) k1.2.1.2 dc
 rw [un_zero, decide_eq_false v2] at c6
 have AL := Hh iAll
 have HT := Hh hT
 clear hT i1 i2 k1 k2 u1 g g2 v1 v2
 exact zz16
theorem iDiv (l1 h1 l2 h2 : Nat) (i1 : Iv l1 h1) (i2 : Iv l2 h2) (w : World) (hT : Tab w) : Calls Tryz.prog 42 #[.agg #[.float .f64 l1, .float .f64 h1], .agg #[.float .f64 l2, .float .f64 h2]] w (IvH w (DivS l1 h1 l2 h2)) := by
 by_cases k1 : Full l1 h1
 ·by_cases k2 : Full l2 h2
  ·by_cases u1 : Fp.un Ieee.double l2 = 0
   ·by_cases u2 : Fp.un Ieee.double h2 = 0
    ·exact iDiv_zz l1 h1 l2 h2 i1 i2 k1 k2 u1 u2 w hT
    ·exact iDiv_pz l1 h1 l2 h2 i1 i2 k1 k2 u1 u2 w hT
   ·by_cases g : 0 ≤ Fp.un Ieee.double l2
    ·exact iDiv_pp l1 h1 l2 h2 i1 i2 k1 k2 u1 g w hT
    ·by_cases g2 : Fp.un Ieee.double h2 ≤ 0
     ·exact iDiv_neg l1 h1 l2 h2 i1 i2 k1 k2 u1 g g2 w hT
     ·by_cases v1 : Fp.un Ieee.double l1 = 0
      ·by_cases v2 : Fp.un Ieee.double h1 = 0
       ·exact iDiv_mz l1 h1 l2 h2 i1 i2 k1 k2 u1 g g2 v1 v2 w hT
       ·exact iDiv_m2 l1 h1 l2 h2 i1 i2 k1 k2 u1 g g2 v1 v2 w hT
      ·exact iDiv_m1 l1 h1 l2 h2 i1 i2 k1 k2 u1 g g2 v1 w hT
  ·exact iDiv_yn l1 h1 l2 h2 i1 i2 k1 k2 w hT
 ·exact iDiv_n l1 h1 l2 h2 i1 i2 k1 w hT
theorem iNew (l h : Nat) (k : Full l h) (w : World) : Calls Tryz.prog 31 #[.float .f64 l, .float .f64 h] w (fun r w' => ∃ a b, r = .returned (.tuple #[.agg #[.float .f64 a, .float .f64 b], .int .i64 0]) ∧ Sane a ∧ Sane b ∧ Fp.un Ieee.double a = Fp.un Ieee.double l ∧ Fp.un Ieee.double b = Fp.un Ieee.double h ∧ Within w w') := by
 have F1 := Hh (fun w => ifull l h k.1 k.2.1 w)
 rw [decide_eq_true k] at F1
 have MK := Hh (fun w => imake l h k.1 k.2.1 w)
 clear k
 have hB0 := heap_alloc_new w (.cells #[.float .f64 0, .float .f64 0] 30)
 have hw1 : Within w (w.alloc (.cells #[.float .f64 0, .float .f64 0] 30)) := (Within.refl w).alloc _
 go_enter Tryz.func31, Tryz.ntmps31
 go_wp2_with fail
 refine (F1.out _).mono ?_; rintro r1 w1 ⟨rfl, hb1⟩
 have hB1 := (hb1.block w.heap.size (by simp)).trans hB0
 have hw2 := hw1.trans hb1
 go_wp2_with fail
 refine (MK.out _).mono ?_; rintro r2 w2 ⟨a, b, rfl, sa, sb, ua, ub, hb2⟩
 have hBr := (hb2.block w.heap.size (by have := hb1.size; simp at this; omega)).trans hB1
 have hww := hw2.trans hb2
 have HE := Hh (And.intro sa (And.intro sb (And.intro ua ub)))
 clear sa sb ua ub
 obtain ⟨k0, k1, kf, kg, k2, r0, r1⟩ := iv_block hBr (.float .f64 a) (.float .f64 b)
 have kf0 := kf 0; have kf1 := kf 1; have kg1 := kg 1
 go_wp2
 (try simp only [Exit.inBlock, Exit.then]); refine bodyPost_ret (v := .tuple #[.agg #[.float .f64 a, .float .f64 b], .int .i64 0]) (by simp [results, Tryz.results31, go_sem, r0, r1]) rfl ?_
 exact ⟨a, b, rfl, HE.out.1, HE.out.2.1, HE.out.2.2.1, HE.out.2.2.2, (hww.setCell (p := ⟨w.heap.size, 0, none⟩) (Nat.le_refl _) _).setCell (p := ⟨w.heap.size, 1, none⟩) (Nat.le_refl _) _⟩
theorem iIs_y (l h : Nat) (k : Full l h) (w : World) : Calls Tryz.prog 8 #[.agg #[.float .f64 l, .float .f64 h]] w (fun r w' => r = .returned (.bool true) ∧ Within w w') := by
 have F1 := Hh (fun w => ifull l h k.1 k.2.1 w)
 rw [decide_eq_true k] at F1
 clear k
 go_enter Tryz.func8, Tryz.ntmps8
 go_upto_region 1 with fail
 refine wp_region_schG (fun W => W.cell? ⟨w.heap.size, 0, none⟩ = some (.float .f64 l) ∧ W.cell? ⟨w.heap.size, 1, none⟩ = some (.float .f64 h) ∧ w.heap.size < W.heap.size ∧ Within w W) 7 (.firm 0 (.one 1 (.firm 2 (.firm 3 (.one 4 (.firm 5 (.firm 6 (.one 7 .nil)))))))) kr kr ⟨by go_simp, by go_simp, by first | (simp; done) | (simp; omega), (Within.refl w).alloc _⟩ ?_
 rintro w0 ⟨c0, c1, lt, hw0⟩
 try simp only [pu]
 apply sch_firm rfl rfl wi
 ·intro wq hq
  have hcq := hq.cells
  clear hq
  go_simp
  rfl
 try simp only [pu]
 refine sch_one rfl rfl (fun K hK => ?_)
 go_simp
 refine (F1.out _).mono ?_; rintro r1 w1 ⟨rfl, hb1⟩
 refine hK _ _ (fun _ => wi) ?_
 clear hK K
 try simp only [pu]
 apply sch_firm rfl rfl wi
 ·intro wq hq
  have hcq := hq.cells
  clear hq
  go_simp
  rfl
 try simp only [pu]
 refine sch_skip rfl wnt wi ?_
 try simp only [pu]
 refine sch_one_skip rfl wnt wi ?_
 try simp only [pu]
 refine sch_skip rfl wnt wi ?_
 try simp only [pu]
 apply sch_firm rfl rfl wi
 ·intro wq hq
  have hcq := hq.cells
  clear hq
  go_simp
  rfl
 try simp only [pu]
 refine sch_one rfl rfl (fun K hK => ?_)
 go_simp
 refine hK _ _ ab ?_
 clear hK K
 try simp only [pu]
 refine sch_nil ?_
 go_wp2
 go_ret
 exact ⟨rfl, hw0.drew.trans hb1⟩
theorem iIs_n (w : World) : Calls Tryz.prog 8 #[.agg #[.float .f64 9218868437227405312, .float .f64 18442240474082181120]] w (fun r w' => r = .returned (.bool true) ∧ Within w w') := by
 have F1 := Hh (fun w => ifull 9218868437227405312 18442240474082181120 sane_inf.1 sane_inf.2 w)
 rw [decide_eq_false (fun k => by obtain ⟨e, he⟩ := k.point; exact empty_no he)] at F1
 have EM := Hh iEmpty
 have heq : ∀ w, (binOp .eql 30 (.agg #[.float .f64 9218868437227405312, .float .f64 18442240474082181120]) (.agg #[.float .f64 9218868437227405312, .float .f64 18442240474082181120])).run Tryz.prog w = .ok (.bool true) w := fun w => by kernel_rfl
 go_enter Tryz.func8, Tryz.ntmps8
 go_upto_region 1 with fail
 refine wp_region_schG (fun W => W.cell? ⟨w.heap.size, 0, none⟩ = some (.float .f64 9218868437227405312) ∧ W.cell? ⟨w.heap.size, 1, none⟩ = some (.float .f64 18442240474082181120) ∧ w.heap.size < W.heap.size ∧ Within w W) 7 (.firm 0 (.one 1 (.firm 2 (.firm 3 (.one 4 (.firm 5 (.firm 6 (.one 7 .nil)))))))) kr kr ⟨by go_simp, by go_simp, by first | (simp; done) | (simp; omega), (Within.refl w).alloc _⟩ ?_
 rintro w0 ⟨c0, c1, lt, hw0⟩
 try simp only [pu]
 apply sch_firm rfl rfl wi
 ·intro wq hq
  have hcq := hq.cells
  clear hq
  go_simp
  rfl
 try simp only [pu]
 refine sch_one rfl rfl (fun K hK => ?_)
 go_simp
 refine (F1.out _).mono ?_; rintro r1 w1 ⟨rfl, hb1⟩
 have hv1 : Within w0 w1 := (Within.refl _).drew.trans hb1
 refine hK _ _ (fun _ => wi) ?_
 clear hK K
 try simp only [pu]
 apply sch_firm rfl rfl wi
 ·intro wq hq
  have hcq := hq.cells
  clear hq
  go_simp
  rfl
 try simp only [pu]
 apply sch_want rfl wnt wi
 ·intro wq hq
  have hcq := hq.cells
  clear hq
  go_simp
  rfl
 try simp only [pu]
 refine sch_one_want rfl wnt (fun K hK => ?_)
 go_simp
 refine (EM.out _).mono ?_; rintro r2 w2 ⟨rfl, hb2⟩
 have hv2 : Within w0 w2 := hv1.trans hb2
 refine hK _ _ (fun _ => wi) ?_
 clear hK K
 try simp only [pu]
 apply sch_want rfl wnt wi
 ·intro wq hq
  have hcq := hq.cells
  clear hq
  go_simp
  rfl
 try simp only [pu]
 apply sch_firm rfl rfl wi
 ·intro wq hq
  have hcq := hq.cells
  clear hq
  go_simp
  rfl
 try simp only [pu]
 refine sch_one rfl rfl (fun K hK => ?_)
 go_simp
 refine hK _ _ ab ?_
 clear hK K
 try simp only [pu]
 refine sch_nil ?_
 go_wp2
 go_ret
 exact ⟨rfl, hw0.trans hv2⟩
theorem iIs (l h : Nat) (i : Iv l h) (w : World) : Calls Tryz.prog 8 #[.agg #[.float .f64 l, .float .f64 h]] w (fun r w' => r = .returned (.bool true) ∧ Within w w') := by
 rcases i with k | ⟨rfl, rfl⟩
 ·exact iIs_y l h k w
 ·exact iIs_n w
theorem iHas (l h x : Nat) (hx : Fi x) (k : Holds l h (rvD x)) (w : World) : Calls Tryz.prog 9 #[.agg #[.float .f64 l, .float .f64 h], .float .f64 x] w (fun r w' => r = .returned (.bool true) ∧ Within w w') := by
 have F1 := Hh (fun w => ifull l h k.full.1 k.full.2.1 w)
 rw [decide_eq_true k.full] at F1
 have FX := Hh (fun w => ifinite x hx.sane w)
 rw [decide_eq_true hx] at FX
 have c1 := c_le (x := l) (y := x) k.1.1.2 hx.sane.2
 rw [decide_eq_true (un_of_lo hx k.1)] at c1
 have c2 := c_le (x := x) (y := h) hx.sane.2 k.2.1.2
 rw [decide_eq_true (un_of_hi hx k.2)] at c2
 clear k hx
 have hw1 : Within w (w.alloc (.cells #[.float .f64 l, .float .f64 h] 30)) := (Within.refl w).alloc _
 have hB0 := heap_alloc_new w (.cells #[.float .f64 l, .float .f64 h] 30)
 obtain ⟨x0, x1⟩ := pair_cells hB0
 have l0 : w.heap.size < (w.alloc (.cells #[.float .f64 l, .float .f64 h] 30)).heap.size := by simp
 go_enter Tryz.func9, Tryz.ntmps9
 go_wp2_with fail
 refine (F1.out _).mono ?_; rintro r1 w1 ⟨rfl, hb1⟩
 have y0 := (hb1.cells _ _ l0).trans x0; have y1 := (hb1.cells _ _ l0).trans x1
 have l1 := Nat.lt_of_lt_of_le l0 hb1.size
 go_wp2_with fail
 refine (FX.out _).mono ?_; rintro r2 w2 ⟨rfl, hb2⟩
 have z0 := (hb2.cells _ _ l1).trans y0; have z1 := (hb2.cells _ _ l1).trans y1
 clear x0 x1 y0 y1 hB0
 go_wp2
 go_ret
 exact ⟨rfl, hw1.trans (hb1.trans hb2)⟩
theorem iadd_lit (up : Bool) (a b s t u p q : Nat) (h1 : floatBits .add .f64 a b = some s) (h2 : floatBits .sub .f64 s a = some t) (h3 : floatBits .sub .f64 s t = some u) (h4 : floatBits .sub .f64 a u = some p) (h5 : floatBits .sub .f64 b t = some q) (h6 : floatBits .add .f64 p q = some 0) (hS : Fi s) (hu : usualB s = true) (ha : a < 18446744073709551616) (hb : b < 18446744073709551616) (ta : belowT a = true) (tb : belowT b = true) (w : World) : Calls Tryz.prog 206 #[.float .f64 a, .float .f64 b, .int .i64 (upM up)] w (fun r w' => r = .returned (.float .f64 s) ∧ Within w w') := by
 have US := Hh (fun w => iusual s hS.sane w)
 rw [hu] at US
 have A1 := Hh (fun w => m_abs a ha w); have A2 := Hh (fun w => m_abs b hb w)
 unfold belowT at ta tb
 have ST := Hh (fun w => istep up s 0 hS dc w)
 rw [un_zero] at ST
 have g1 := fun (ty : TypeId) w => run_float_arith (P := Tryz.prog) w .add ty .f64 a b s h1
 have g2 := fun (ty : TypeId) w => run_float_arith (P := Tryz.prog) w .sub ty .f64 s a t h2
 have g3 := fun (ty : TypeId) w => run_float_arith (P := Tryz.prog) w .sub ty .f64 s t u h3
 have g4 := fun (ty : TypeId) w => run_float_arith (P := Tryz.prog) w .sub ty .f64 a u p h4
 have g5 := fun (ty : TypeId) w => run_float_arith (P := Tryz.prog) w .sub ty .f64 b t q h5
 have g6 := fun (ty : TypeId) w => run_float_arith (P := Tryz.prog) w .add ty .f64 p q 0 h6
 clear h1 h2 h3 h4 h5 h6 hu ha hb hS
 go_enter Tryz.func206, Tryz.ntmps206
 go_wp2_with fail
 refine (US.out _).mono ?_; rintro r1 w1 ⟨rfl, hb1⟩
 go_wp2_with fail
 refine (A1.out _).mono ?_; rintro r2 w2 ⟨rfl, rfl⟩
 go_wp2_with fail
 refine (A2.out _).mono ?_; rintro r3 w3 ⟨rfl, rfl⟩
 go_wp2_with fail
 refine (ST.out _).mono ?_; rintro r4 w4 ⟨rfl, hb4⟩
 rw [show stepW s (decide ((0 : Int) < 0)) (decide ((0 : Int) < 0)) up = s from by unfold stepW; cases up <;> simp]
 go_wp2
 go_ret
 exact ⟨rfl, hb1.trans hb4⟩
theorem isum_lit (m : Int) (a b s : Nat) (fa : Fi a) (fb : Fi b) (AD : Hid (∀ w, Calls Tryz.prog 206 #[.float .f64 a, .float .f64 b, .int .i64 m] w (fun r w' => r = .returned (.float .f64 s) ∧ Within w w'))) (w : World) : Calls Tryz.prog 110 #[.float .f64 a, .float .f64 b, .int .i64 m] w (fun r w' => r = .returned (.float .f64 s) ∧ Within w w') := by
 have FA := Hh (fun w => ifinite a fa.sane w); have FB := Hh (fun w => ifinite b fb.sane w)
 rw [decide_eq_true fa] at FA
 rw [decide_eq_true fb] at FB
 clear fa fb
 go_enter Tryz.func110, Tryz.ntmps110
 go_wp2_with fail
 refine (FA.out _).mono ?_; rintro r1 w1 ⟨rfl, hb1⟩
 go_wp2_with fail
 refine (FB.out _).mono ?_; rintro r2 w2 ⟨rfl, hb2⟩
 go_wp2_with fail
 refine (AD.out _).mono ?_; rintro r3 w3 ⟨rfl, hb3⟩
 go_wp2
 go_ret
 exact ⟨rfl, hb1.trans (hb2.trans hb3)⟩
theorem iAdd_lit (l1 h1 l2 h2 x1 x2 : Nat) (k1 : Full l1 h1) (k2 : Full l2 h2) (S1 : Hid (∀ w, Calls Tryz.prog 110 #[.float .f64 l1, .float .f64 l2, .int .i64 4] w (fun r w' => r = .returned (.float .f64 x1) ∧ Within w w'))) (S2 : Hid (∀ w, Calls Tryz.prog 110 #[.float .f64 h1, .float .f64 h2, .int .i64 3] w (fun r w' => r = .returned (.float .f64 x2) ∧ Within w w'))) (MK : Hid (∀ w, Calls Tryz.prog 109 #[.float .f64 x1, .float .f64 x2] w (fun r w' => r = .returned (.agg #[.float .f64 x1, .float .f64 x2]) ∧ Within w w'))) (w : World) : Calls Tryz.prog 32 #[.agg #[.float .f64 l1, .float .f64 h1], .agg #[.float .f64 l2, .float .f64 h2]] w (fun r w' => r = .returned (.agg #[.float .f64 x1, .float .f64 x2]) ∧ Within w w') := by
 have F1 := Hh (fun w => ifull l1 h1 k1.1 k1.2.1 w); have F2 := Hh (fun w => ifull l2 h2 k2.1 k2.2.1 w)
 rw [decide_eq_true k1] at F1
 rw [decide_eq_true k2] at F2
 clear k1 k2
 obtain ⟨hwN, hB0, hB1, hB2⟩ := box3 w #[.float .f64 l1, .float .f64 h1] #[.float .f64 l2, .float .f64 h2] #[.float .f64 0, .float .f64 0] 30 30 30
 go_enter Tryz.func32, Tryz.ntmps32
 go_upto_region 1 with fail
 obtain ⟨W3, hW3⟩ : ∃ W3, W3 = (((w.alloc (.cells #[.float .f64 l1, .float .f64 h1] 30)).alloc (.cells #[.float .f64 l2, .float .f64 h2] 30)).alloc (.cells #[.float .f64 0, .float .f64 0] 30)) := ⟨_, rfl⟩
 have hs3 : W3.heap.size = w.heap.size + 3 := by rw [hW3]; simp
 rw [← hW3] at hwN hB0 hB1 hB2 ⊢
 clear hW3
 obtain ⟨b0, hb0⟩ : ∃ b, b = w.heap.size := ⟨_, rfl⟩
 have HS := Hh (And.intro hs3 hb0)
 rw [← hb0] at hB0 hB1 hB2 ⊢
 clear hb0 hs3
 obtain ⟨x00, x01⟩ := pair_cells hB0
 obtain ⟨x10, x11⟩ := pair_cells hB1
 have l0 : b0 + 2 < W3.heap.size := by have := HS.out; omega
 go_wp2_with fail
 refine (F1.out _).mono ?_; rintro r1 w1 ⟨rfl, hb1⟩
 replace x00 := (hb1.cells _ _ (show b0 < _ from by have := l0; omega)).trans x00
 replace x01 := (hb1.cells _ _ (show b0 < _ from by have := l0; omega)).trans x01
 replace x10 := (hb1.cells _ _ (show b0 + 1 < _ from by have := l0; omega)).trans x10
 replace x11 := (hb1.cells _ _ (show b0 + 1 < _ from by have := l0; omega)).trans x11
 replace l0 := Nat.lt_of_lt_of_le l0 hb1.size
 go_wp2_with fail
 refine (F2.out _).mono ?_; rintro r2 w2 ⟨rfl, hb2⟩
 have hc2 := hb1.trans hb2
 replace x00 := (hb2.cells _ _ (show b0 < _ from by have := l0; omega)).trans x00
 replace x01 := (hb2.cells _ _ (show b0 < _ from by have := l0; omega)).trans x01
 replace x10 := (hb2.cells _ _ (show b0 + 1 < _ from by have := l0; omega)).trans x10
 replace x11 := (hb2.cells _ _ (show b0 + 1 < _ from by have := l0; omega)).trans x11
 replace l0 := Nat.lt_of_lt_of_le l0 hb2.size
 go_upto_region 3 with fail
 refine wp_region_schG (fun W => W.cell? ⟨b0, 0, none⟩ = some (.float .f64 l1) ∧ W.cell? ⟨b0, 1, none⟩ = some (.float .f64 h1) ∧ W.cell? ⟨b0 + 1, 0, none⟩ = some (.float .f64 l2) ∧ W.cell? ⟨b0 + 1, 1, none⟩ = some (.float .f64 h2) ∧ b0 < W.heap.size ∧ b0 + 1 < W.heap.size ∧ Within W3 W) 11 (.firm 0 (.firm 1 (.firm 2 (.firm 3 (.firm 5 (.firm 6 (.firm 7 (.firm 8 (.one 4 (.one 9 (.one 10 (.one 11 .nil)))))))))))) kr kr ⟨x00, x01, x10, x11, by omega, by omega, hc2⟩ ?_
 rintro w0 ⟨p0, p1, s0, s1, pl, sl, hw0⟩
 try simp only [pu]
 iterate 8
  apply sch_firm rfl rfl wi
  ·intro wq hq
   have hcq := hq.cells
   clear hq
   go_simp
   rfl
  try simp only [pu]
 refine sch_one rfl rfl (fun K hK => ?_)
 go_simp
 refine (S1.out _).mono ?_; rintro r3 w3 ⟨rfl, hb3⟩
 have hv3 : Within w0 w3 := (Within.refl _).drew.trans hb3
 refine hK _ _ (fun _ => wi) ?_
 clear hK K
 try simp only [pu]
 refine sch_one rfl rfl (fun K hK => ?_)
 go_simp
 refine (S2.out _).mono ?_; rintro r4 w4 ⟨rfl, hb4⟩
 have hv4 : Within w0 w4 := hv3.trans hb4
 refine hK _ _ (fun _ => wi) ?_
 clear hK K
 try simp only [pu]
 refine sch_one rfl rfl (fun K hK => ?_)
 go_simp
 refine (MK.out _).mono ?_; rintro r5 w5 ⟨rfl, hb5⟩
 have hv5 : Within w0 w5 := hv4.trans hb5
 have hc5 := hw0.trans hv5
 have hBr := (hc5.block (b0 + 2) (by have := HS.out; omega)).trans hB2
 obtain ⟨k0, k1, kf, kg, k2, r0, r1⟩ := iv_block hBr (.float .f64 x1) (.float .f64 x2)
 have kf0 := kf 0; have kf1 := kf 1; have kg1 := kg 1
 have hww := hwN.trans hc5
 refine hK _ _ (fun _ => wi) ?_
 clear hK K
 try simp only [pu]
 refine sch_one rfl rfl (fun K hK => ?_)
 go_simp
 refine hK _ _ ab ?_
 clear hK K
 try simp only [pu]
 refine sch_nil ?_
 go_wp2
 (try simp only [Exit.inBlock, Exit.then]); refine bodyPost_ret (v := .agg #[.float .f64 x1, .float .f64 x2]) (by simp [results, Tryz.results32, go_sem, r0, r1]) rfl ?_
 exact ⟨rfl, (hww.setCell (p := ⟨b0 + 2, 0, none⟩) (by have := HS.out; show w.heap.size ≤ b0 + 2; omega) _).setCell (p := ⟨b0 + 2, 1, none⟩) (by have := HS.out; show w.heap.size ≤ b0 + 2; omega) _⟩
theorem lit_fi : Fi 4607182418800017408 ∧ Fi 4611686018427387904 ∧ Fi 4616189618054758400 := by unfold Fi; decide
theorem lit_full : Full 4607182418800017408 4611686018427387904 := (full_iff lit_fi.1.sane lit_fi.2.1.sane).2 (by decide +kernel)
theorem iAdd_one (w : World) : Calls Tryz.prog 32 #[.agg #[.float .f64 4607182418800017408, .float .f64 4611686018427387904], .agg #[.float .f64 4607182418800017408, .float .f64 4611686018427387904]] w (fun r w' => r = .returned (.agg #[.float .f64 4611686018427387904, .float .f64 4616189618054758400]) ∧ Within w w') :=
 iAdd_lit _ _ _ _ _ _ lit_full lit_full
  (Hh fun w => isum_lit 4 4607182418800017408 4607182418800017408 4611686018427387904 lit_fi.1 lit_fi.1 (Hh fun w => iadd_lit false 4607182418800017408 4607182418800017408 4611686018427387904 4607182418800017408 4607182418800017408 0 0 (by decide +kernel) (by decide +kernel) (by decide +kernel) (by decide +kernel) (by decide +kernel) (by decide +kernel) lit_fi.2.1 (by decide +kernel) dc dc (by decide +kernel) (by decide +kernel) w) w)
  (Hh fun w => isum_lit 3 4611686018427387904 4611686018427387904 4616189618054758400 lit_fi.2.1 lit_fi.2.1 (Hh fun w => iadd_lit true 4611686018427387904 4611686018427387904 4616189618054758400 4611686018427387904 4611686018427387904 0 0 (by decide +kernel) (by decide +kernel) (by decide +kernel) (by decide +kernel) (by decide +kernel) (by decide +kernel) lit_fi.2.2 (by decide +kernel) dc dc (by decide +kernel) (by decide +kernel) w) w)
  (Hh fun w => imake_of 4611686018427387904 4616189618054758400 4611686018427387904 4616189618054758400 (by decide +kernel) (by decide +kernel) w) w
def RatTy (w : World) (g : Nat) : Prop := ∃ b s b' s', w.heap[g]? = some (.cells #[.bool b, s, .bool b', s'] 96 (0, 0))
def RatB (w : World) (g : Nat) (a : Int) (b : Nat) : Prop :=
 ∃ A c Bv cb, w.heap[g]? = some (.cells #[.bool (decide (a < 0)), .slice A (dg a.natAbs).length c, .bool false, .slice Bv (dg b).length cb] 96 (0, 0)) ∧ (dg a.natAbs).length ≤ c ∧ RowAt w A (dg a.natAbs) ∧ (dg b).length ≤ cb ∧ RowAt w Bv (dg b)
theorem rowIs_neR {w : World} {g h : Nat} {m : Nat} {f : Nat → Value} (k : w.rowIs g 153 m f) (hz : RatTy w h) : g ≠ h := by
 rintro rfl
 obtain ⟨c, hb, _⟩ := k
 obtain ⟨b, s, b', s', hz⟩ := hz
 exact zz94
theorem intTy_neR {w : World} {g h : Nat} (k : IntTy w g) (hz : RatTy w h) : g ≠ h := by
 rintro rfl
 obtain ⟨c, s0, hb⟩ := k
 obtain ⟨b, s, b', s', hz⟩ := hz
 exact zz94
theorem RatTy.lt {w : World} {g : Nat} (h : RatTy w g) : g < w.heap.size := by
 obtain ⟨_, _, _, _, hb⟩ := h
 exact (Array.getElem?_eq_some_iff.1 hb).1
theorem RatB.ty {w : World} {g : Nat} {a : Int} {b : Nat} (h : RatB w g a b) : RatTy w g := by
 obtain ⟨_, _, _, _, hb, _⟩ := h
 exact ⟨_, _, _, _, hb⟩
theorem RatB.lt {w : World} {g : Nat} {a : Int} {b : Nat} (h : RatB w g a b) : g < w.heap.size := h.ty.lt
theorem RatTy.of {w w' : World} {g : Nat} (h : RatTy w g) (k : Within w w') : RatTy w' g := by
 have := h.lt
 obtain ⟨b, s, b', s', hb⟩ := h
 exact ⟨b, s, b', s', (k.block _ this).trans hb⟩
theorem RatB.of {w w' : World} {g : Nat} {a : Int} {b : Nat} (h : RatB w g a b) (k : Within w w') : RatB w' g a b := by
 have hl := h.lt
 obtain ⟨A, c, Bv, cb, hb, h1, h2, h3, h4⟩ := h
 exact ⟨A, c, Bv, cb, (k.block _ hl).trans hb, h1, h2.of k, h3, h4.of k⟩
theorem RowAt.grownR {w w' : World} {A : Option Addr} {l : List Nat} {z : Nat} (h : RowAt w A l) (hz : RatTy w z) (k : w.grownBy w' (some z)) : RowAt w' A l :=
 h.of_block fun _ _ _ hr => k.block _ hr.lt (fun e => rowIs_neR hr hz (by injection e))
theorem RatB.grown {w w' : World} {g z : Nat} {a : Int} {b : Nat} (h : RatB w g a b) (hz : RatTy w z) (hne : g ≠ z) (k : w.grownBy w' (some z)) : RatB w' g a b := by
 have hl := h.lt
 obtain ⟨A, c, Bv, cb, hb, h1, h2, h3, h4⟩ := h
 exact ⟨A, c, Bv, cb, (k.block _ hl (fun e => hne (by injection e))).trans hb, h1, h2.grownR hz k, h3, h4.grownR hz k⟩
theorem RatTy.grown {w w' : World} {g z : Nat} (h : RatTy w g) (hne : g ≠ z) (k : w.grownBy w' (some z)) : RatTy w' g := by
 have hl := h.lt
 obtain ⟨b, s, b', s', hb⟩ := h
 exact ⟨b, s, b', s', (k.block _ hl (fun e => hne (by injection e))).trans hb⟩
theorem RatB.rd {w : World} {g : Nat} {a : Int} {b : Nat} (h : RatB w g a b) : ∃ A c Bv cb, w.cell? ⟨g, 0, none⟩ = some (.bool (decide (a < 0))) ∧ w.cell? ⟨g, 1, none⟩ = some (.slice A (dg a.natAbs).length c) ∧
 w.cell? ⟨g, 2, none⟩ = some (.bool false) ∧ w.cell? ⟨g, 3, none⟩ = some (.slice Bv (dg b).length cb) ∧ RowAt w A (dg a.natAbs) ∧ RowAt w Bv (dg b) := by
 obtain ⟨A, c, Bv, cb, hb, h1, h2, h3, h4⟩ := h
 exact ⟨A, c, Bv, cb, by simp [World.cell?, hb], by simp [World.cell?, hb], by simp [World.cell?, hb], by simp [World.cell?, hb], h2, h4⟩
theorem RatTy.frozen {w : World} {g : Nat} (h : RatTy w g) (i : Nat) : w.frozen? ⟨g, i, none⟩ = false := by
 obtain ⟨_, _, _, _, hb⟩ := h
 simp [World.frozen?, hb]
theorem RatTy.cells {w : World} {g : Nat} (h : RatTy w g) : ∃ b s b' s', w.cell? ⟨g, 0, none⟩ = some (.bool b) ∧ w.cell? ⟨g, 1, none⟩ = some s ∧ w.cell? ⟨g, 2, none⟩ = some (.bool b') ∧ w.cell? ⟨g, 3, none⟩ = some s' := by
 obtain ⟨b, s, b', s', hb⟩ := h
 exact ⟨b, s, b', s', by simp [World.cell?, hb], by simp [World.cell?, hb], by simp [World.cell?, hb], by simp [World.cell?, hb]⟩
theorem RatTy.made (w : World) : RatTy (w.alloc (.cells #[.bool false, .slice none 0 0, .bool false, .slice none 0 0] 96)) w.heap.size := ⟨_, _, _, _, heap_alloc_new w _⟩
theorem RputC_a (z : Nat) (neg : Bool) (k : Nat) (A : Option Addr) (c : Nat) (b0 : Bool) (s0 : Value) (n : Nat) (B : Bool) (w : World)
 (c0 : w.cell? ⟨z, 0, none⟩ = some (.bool b0)) (c1 : w.cell? ⟨z, 1, none⟩ = some s0) (f0 : w.frozen? ⟨z, 0, none⟩ = false) (f1 : w.frozen? ⟨z, 1, none⟩ = false)
 (hB : (neg && decide (0 < n)) = B)
 (CT : Hid (∀ w', w = w' → Calls Tryz.prog 211 #[.slice A k c] w' fun e w'' => e = .returned (.slice A n c) ∧ w' = w'')) :
 Calls Tryz.prog 114 #[.pointer (some ⟨z, 0, none⟩), .bool neg, .slice A k c] w fun e w' => e = .returned (.pointer (some ⟨z, 0, none⟩)) ∧ (w.setCell ⟨z, 1, none⟩ (.slice A n c)).setCell ⟨z, 0, none⟩ (.bool B) = w' := by
 exact zz32
theorem zz76 {p : Prop} (h : p := by
 rw [sgv_neg]
 congr 1
 rw [decide_eq_decide]
 constructor
 ·intro h
  rcases Nat.eq_zero_or_pos m with h0 | h0
  ·rw [h0, dg_zero] at h; simp at h
  ·exact h0
 ·intro h; exact dg_len_pos om) : p := h
theorem Rput_a (z : Nat) (neg : Bool) (m : Nat) (A : Option Addr) (c : Nat) (hc : (dg m).length ≤ c) (hl : (dg m).length ≤ 2000000) (w : World) (hr : RowAt w A (dg m)) (hz : RatTy w z) :
 Calls Tryz.prog 114 #[.pointer (some ⟨z, 0, none⟩), .bool neg, .slice A (dg m).length c] w fun e w' => e = .returned (.pointer (some ⟨z, 0, none⟩)) ∧ (w.setCell ⟨z, 1, none⟩ (.slice A (dg m).length c)).setCell ⟨z, 0, none⟩ (.bool (decide (sgv neg m < 0))) = w' := by
 obtain ⟨b0, s0, b1, s1, c0, c1, c2, c3⟩ := hz.cells
 refine RputC_a z neg (dg m).length A c _ _ (dg m).length _ w c0 c1 (hz.frozen _) (hz.frozen _) ?_ (Hh fun w' e => ?_)
 ·exact zz76
 ·have k := Bcut (dg m) A c (words_dg m) hc hl w hr
  rw [wval_dg] at k
  exact e ▸ k
theorem RputC_b (z : Nat) (neg : Bool) (k : Nat) (A : Option Addr) (c : Nat) (b0 : Bool) (s0 : Value) (n : Nat) (B : Bool) (w : World)
 (c0 : w.cell? ⟨z, 2, none⟩ = some (.bool b0)) (c1 : w.cell? ⟨z, 3, none⟩ = some s0) (f0 : w.frozen? ⟨z, 2, none⟩ = false) (f1 : w.frozen? ⟨z, 3, none⟩ = false)
 (hB : (neg && decide (0 < n)) = B)
 (CT : Hid (∀ w', w = w' → Calls Tryz.prog 211 #[.slice A k c] w' fun e w'' => e = .returned (.slice A n c) ∧ w' = w'')) :
 Calls Tryz.prog 114 #[.pointer (some ⟨z, 2, none⟩), .bool neg, .slice A k c] w fun e w' => e = .returned (.pointer (some ⟨z, 2, none⟩)) ∧ (w.setCell ⟨z, 3, none⟩ (.slice A n c)).setCell ⟨z, 2, none⟩ (.bool B) = w' := by
 exact zz32
theorem Rput_b (z : Nat) (neg : Bool) (m : Nat) (A : Option Addr) (c : Nat) (hc : (dg m).length ≤ c) (hl : (dg m).length ≤ 2000000) (w : World) (hr : RowAt w A (dg m)) (hz : RatTy w z) :
 Calls Tryz.prog 114 #[.pointer (some ⟨z, 2, none⟩), .bool neg, .slice A (dg m).length c] w fun e w' => e = .returned (.pointer (some ⟨z, 2, none⟩)) ∧ (w.setCell ⟨z, 3, none⟩ (.slice A (dg m).length c)).setCell ⟨z, 2, none⟩ (.bool (decide (sgv neg m < 0))) = w' := by
 obtain ⟨b0, s0, b1, s1, c0, c1, c2, c3⟩ := hz.cells
 refine RputC_b z neg (dg m).length A c _ _ (dg m).length _ w c2 c3 (hz.frozen _) (hz.frozen _) ?_ (Hh fun w' e => ?_)
 ·exact zz76
 ·have k := Bcut (dg m) A c (words_dg m) hc hl w hr
  rw [wval_dg] at k
  exact e ▸ k
def HalfA (w : World) (z : Nat) (a : Int) : Prop := ∃ A c b' s', w.heap[z]? = some (.cells #[.bool (decide (a < 0)), .slice A (dg a.natAbs).length c, .bool b', s'] 96 (0, 0)) ∧ (dg a.natAbs).length ≤ c ∧ RowAt w A (dg a.natAbs)
theorem HalfA.ty {w : World} {z : Nat} {a : Int} (h : HalfA w z a) : RatTy w z := by
 obtain ⟨A, c, b', s', hb, _⟩ := h
 exact ⟨_, _, _, _, hb⟩
theorem HalfA.of {w w' : World} {z : Nat} {a : Int} (h : HalfA w z a) (k : Within w w') : HalfA w' z a := by
 have hl := h.ty.lt
 obtain ⟨A, c, b', s', hb, h1, h2⟩ := h
 exact ⟨A, c, b', s', (k.block _ hl).trans hb, h1, h2.of k⟩
theorem half_set {w : World} {z : Nat} (h : RatTy w z) (a : Int) (A : Option Addr) (c : Nat) (hc : (dg a.natAbs).length ≤ c) (hr : RowAt w A (dg a.natAbs)) :
 HalfA ((w.setCell ⟨z, 1, none⟩ (.slice A (dg a.natAbs).length c)).setCell ⟨z, 0, none⟩ (.bool (decide (a < 0)))) z a ∧ w.grownBy ((w.setCell ⟨z, 1, none⟩ (.slice A (dg a.natAbs).length c)).setCell ⟨z, 0, none⟩ (.bool (decide (a < 0)))) (some z) := by
 have g : w.grownBy ((w.setCell ⟨z, 1, none⟩ (.slice A (dg a.natAbs).length c)).setCell ⟨z, 0, none⟩ (.bool (decide (a < 0)))) (some z) := grown_set (grown_set (World.grownBy.refl _ _) _) _
 obtain ⟨b0, s0, b1, s1, hb⟩ := h
 refine ⟨⟨A, c, b1, s1, ?_, hc, hr.grownR ⟨b0, s0, b1, s1, hb⟩ g⟩, g⟩
 simp [World.setCell, Array.getElem?_modify, hb]
theorem whole_set {w : World} {z : Nat} {a : Int} (h : HalfA w z a) (b : Nat) (A : Option Addr) (c : Nat) (hc : (dg b).length ≤ c) (hr : RowAt w A (dg b)) :
 RatB ((w.setCell ⟨z, 3, none⟩ (.slice A (dg b).length c)).setCell ⟨z, 2, none⟩ (.bool false)) z a b ∧ w.grownBy ((w.setCell ⟨z, 3, none⟩ (.slice A (dg b).length c)).setCell ⟨z, 2, none⟩ (.bool false)) (some z) := by
 have g : w.grownBy ((w.setCell ⟨z, 3, none⟩ (.slice A (dg b).length c)).setCell ⟨z, 2, none⟩ (.bool false)) (some z) := grown_set (grown_set (World.grownBy.refl _ _) _) _
 have ht := h.ty
 obtain ⟨A0, c0, b1, s1, hb, h1, h2⟩ := h
 refine ⟨⟨A0, c0, A, c, ?_, h1, h2.grownR ht g, hc, hr.grownR ht g⟩, g⟩
 simp [World.setCell, Array.getElem?_modify, hb]
theorem Rput_num (z : Nat) (neg : Bool) (m : Nat) (A : Option Addr) (c : Nat) (hc : (dg m).length ≤ c) (hl : (dg m).length ≤ 2000000) (w : World) (hr : RowAt w A (dg m)) (hz : RatTy w z) :
 Calls Tryz.prog 114 #[.pointer (some ⟨z, 0, none⟩), .bool neg, .slice A (dg m).length c] w fun e w' => e = .returned (.pointer (some ⟨z, 0, none⟩)) ∧ HalfA w' z (sgv neg m) ∧ w.grownBy w' (some z) := by
 refine (Rput_a z neg m A c hc hl w hr hz).mono fun e w' h => ⟨h.1, ?_⟩
 have k := half_set hz (sgv neg m) A c (by rw [sgv_abs]; exact hc) (by rw [sgv_abs]; exact hr)
 rw [sgv_abs] at k
 rw [← h.2]
 exact k
theorem Rput_den (z : Nat) (a : Int) (m : Nat) (A : Option Addr) (c : Nat) (hc : (dg m).length ≤ c) (hl : (dg m).length ≤ 2000000) (w : World) (hr : RowAt w A (dg m)) (hz : HalfA w z a) :
 Calls Tryz.prog 114 #[.pointer (some ⟨z, 2, none⟩), .bool false, .slice A (dg m).length c] w fun e w' => e = .returned (.pointer (some ⟨z, 2, none⟩)) ∧ RatB w' z a m ∧ w.grownBy w' (some z) := by
 refine (Rput_b z false m A c hc hl w hr hz.ty).mono fun e w' h => ⟨h.1, ?_⟩
 have k := whole_set hz m A c hc hr
 rw [← h.2]
 exact k
theorem int_store {w : World} {g n : Nat} {v : Int} {A : Option Addr} {c : Nat} (h : IntB w g v) (hv : 0 ≤ v) (hc : (dg n).length ≤ c) (hr : RowAt w A (dg n)) : IntB (w.setCell ⟨g, 1, none⟩ (.slice A (dg n).length c)) g (n : Int) := by
 have ht := h.ty
 obtain ⟨A0, c0, hb, _, _⟩ := h
 rw [decide_eq_false om] at hb
 refine ⟨A, c, ?_, by rw [Int.natAbs_natCast]; exact hc, by rw [Int.natAbs_natCast]; exact hr.setInt ht _⟩
 rw [Int.natAbs_natCast, decide_eq_false om]
 simp [World.setCell, Array.getElem?_modify, hb]
theorem Bone (w : World) : Calls Tryz.prog 212 #[] w (RetW w 1) := by
 go_enter Tryz.func212, Tryz.ntmps212
 go_wp2
 go_ret
 exact ⟨some ⟨w.heap.size, 0, none⟩, 1, by rw [dg_one]; rfl, by rw [dg_one]; exact Nat.le_refl _, by rw [dg_one]; exact (OwnW.one w).at, (Within.refl w).alloc _⟩
def MadeP (w : World) (z : Nat) (neg : Bool) (a b : Nat) (e : Ending) (w' : World) : Prop := e = .returned (.pointer (some ⟨z, 0, none⟩)) ∧ ∃ a' b' g : Nat, 0 < g ∧ 0 < b' ∧ a = g * a' ∧ b = g * b' ∧ RatB w' z (sgv neg a') b' ∧ w.grownBy w' (some z)
theorem Rmade_zero (z : Nat) (neg : Bool) (b nb : Nat) (A Bv : Option Addr) (ca cb : Nat) (hb : 0 < b) (w : World) (hz : RatTy w z) : Calls Tryz.prog 119 #[.pointer (some ⟨z, 0, none⟩), .bool neg, .slice A 0 ca, .slice Bv nb cb] w (MadeP w z neg 0 b) := by
 have hw2 : Within w ((w.alloc (.cells #[.bool false, .slice A 0 ca] 94)).alloc (.cells #[.bool false, .slice Bv nb cb] 94)) := ((Within.refl w).alloc _).alloc _
 have HZ2 := Hh (hz.of hw2)
 have HZL := Hh hz.lt
 have P1 := Hh (fun w h => Rput_num z false 0 none 0 (by rw [dg_zero]; exact Nat.le_refl _) (by rw [dg_zero]; decide) w (by rw [dg_zero]; exact RowAt.nil) h)
 rw [show (dg 0).length = 0 by rw [dg_zero]; rfl, show sgv false 0 = 0 from rfl] at P1
 have ON := Hh Bone
 have P2 := Hh (fun w (A1 : Option Addr) (c1 : Nat) hc h1 h2 => Rput_den z 0 1 A1 c1 hc (by rw [dg_one]; decide) w h1 h2)
 clear hz
 go_enter Tryz.func119, Tryz.ntmps119
 go_wp2_with fail
 refine (P1.out _ HZ2.out).mono ?_; rintro e3 w3 ⟨rfl, hH, hG⟩
 have HH := Hh hH; have HG := Hh hG; clear hH hG
 go_wp2
 refine wp_region_schG (fun W => HalfA W z 0 ∧ Within w3 W) 4 (.firm 0 (.firm 1 (.firm 2 (.one 3 (.one 4 .nil))))) kr kr ⟨HH.out, Within.refl _⟩ ?_
 rintro w0 ⟨hH0, hw0⟩
 try simp only [pu]
 iterate 3
  apply sch_firm rfl rfl wi
  ·intro wq hq
   have hcq := hq.cells
   clear hq
   go_simp
   rfl
  try simp only [pu]
 refine sch_one rfl rfl (fun K hK => ?_)
 go_simp
 refine (ON.out _).mono ?_; rintro e6 w6 ⟨A1, c1, rfl, hc1, hr1, hb6⟩
 refine hK _ _ (fun _ => wi) ?_
 clear hK K
 try simp only [pu]
 refine sch_one rfl rfl (fun K hK => ?_)
 go_simp
 refine (P2.out _ A1 c1 hc1 hr1 (hH0.of (by first | assumption | exact (Within.refl _).drew.trans hb6))).mono ?_; rintro e7 w7 ⟨rfl, hR, hG7⟩
 refine hK _ _ ab ?_
 clear hK K
 try simp only [pu]
 refine sch_nil ?_
 have HR := Hh hR; clear hR hc1 hr1
 go_wp2
 go_ret
 refine ⟨rfl, 0, 1, b, hb, by decide, by omega, by omega, by rw [show sgv neg 0 = 0 by unfold sgv; split <;> rfl]; exact HR.out, ?_⟩
 exact grown_trans (grown_trans (grown_within z hw2) HG.out) (grown_trans (grown_within z (hw0.trans ((Within.refl _).drew.trans hb6))) hG7)
theorem blen_len {n K : Nat} (h : (dg n).length ≤ K) : blen n ≤ 32 * K :=
 blen_up (Nat.lt_of_lt_of_le (lt_of_dg n) (by rw [show (4294967296 : Nat) = 2 ^ 32 from rfl, ← Nat.pow_mul]; exact Nat.pow_le_pow_right dc om))
theorem pow_part {v n t m : Nat} (h : v = 2 ^ t * (2 * m + 1)) (hn : n ≤ t) : v = 2 ^ n * (v / 2 ^ n) := by
 have : 2 ^ n ∣ v := by rw [h]; exact Nat.dvd_trans (Nat.pow_dvd_pow 2 hn) (Nat.dvd_mul_right _ _)
 exact (Nat.mul_div_cancel' this).symm
theorem zz6 {p : Prop} (h : p := by
 rw [← hG0] at ea1 ea2 hp
 have p1 : 0 < a1 := Nat.pos_of_ne_zero fun h => by rw [h, Nat.mul_zero] at ea1; omega
 have p2 : 0 < b1 := Nat.pos_of_ne_zero fun h => by rw [h, Nat.mul_zero] at ea2; omega
 have l1 : (dg a1).length ≤ 300000 := Nat.le_trans (dg_len_mono hle1) hl1
 have l2 : (dg b1).length ≤ 300000 := Nat.le_trans (dg_len_mono hle2) hl2
 have EE := Hh (And.intro ea1 (And.intro ea2 hp)); clear ea1 ea2 hp ha1 hb1' hG0
 have BL1 := Hh (fun w h => BL.out b1 l2 w h)
 have TY1 := Hh (fun w hT h => TY.out b1 p2 om w hT h)
 rw [Int.natAbs_natCast] at BL1
 have hbl := blen_len l2
 obtain ⟨bl, hble⟩ : ∃ bl, bl = blen b1 := ⟨_, rfl⟩
 rw [← hble] at BL1 hbl
 clear hble
 have wb : IntKind.i64.wrap ((bl : Int) - 1) = (bl : Int) - 1 := i64_is om om
 have CO := Hh (fun w (A1 B1 : Option Addr) (c1 c2 : Nat) h1 h2 h3 h4 => Bcommon a1 b1 (max a1 b1) A1 B1 c1 c2 p1 p2 ⟨Nat.le_max_left _ _, Nat.le_max_right _ _⟩ (by rcases Nat.le_total a1 b1 with h | h; rw [Nat.max_eq_right h]; exact l2; rw [Nat.max_eq_left h]; exact l1) h1 h2 w h3 h4)
 go_wp2_with fail
 refine (RIA.out _ RA2.out).mono ?_; rintro e5 w5 ⟨A1, c1, rfl, hc1, hr1, hb5⟩
 go_wp2_with fail
 refine (RIB.out _ (RB2.out.of hb5)).mono ?_; rintro e6 w6 ⟨B1, c2, rfl, hc2, hr2, hb6⟩
 have hb56 := hb5.trans hb6
 have IY6 := IY.of hb56
 obtain ⟨bq, sq, k0, k1⟩ := IY6.ty.cells
 have f1 := IY6.ty.frozen 1
 have IY7 := Hh (int_store IY6 om hc2 hr2)
 have hb7 : Within w (w6.setCell ⟨w.heap.size + 1, 1, none⟩ (.slice B1 (dg b1).length c2)) := (hw2.trans hb56).setCell (by simp) _
 have R17 := Hh (RowAt.setInt (hr1.of hb6) IY6.ty (o := 1) (.slice B1 (dg b1).length c2))
 have R27 := Hh (RowAt.setInt hr2 IY6.ty (o := 1) (.slice B1 (dg b1).length c2))
 clear IY6
 go_wp2_with fail
 obtain ⟨w7, hw7⟩ : ∃ w7, w7 = w6.setCell ⟨w.heap.size + 1, 1, none⟩ (.slice B1 (dg b1).length c2) := ⟨_, rfl⟩
 rw [← hw7] at IY7 hb7 R17 R27 ⊢
 clear hw7 k0 k1 f1
 refine (TY1.out _ (HT.out.of hb7) IY7.out).mono ?_; rintro e8 w8 ⟨t3, m3, rfl, -, ht3, rfl⟩
 have wt : IntKind.i64.wrap (t3 : Int) = (t3 : Int) := i64_is om om
 go_wp2_with fail
 refine (BL1.out _ IY7.out).mono ?_; rintro e9 w9 ⟨rfl, hb9⟩
 have hb79 := hb7.trans hb9
 have R19 := Hh (R17.out.of hb9); have R29 := Hh (R27.out.of hb9)
 by_cases hq : (t3 : Int) = (bl : Int) - 1
 ·have dq : ((t3 : Int) != (bl : Int) - 1) = false := by rw [hq]; simp
  clear hq
  go_wp2_with fail
  refine (Rput_num z neg a1 A1 c1 hc1 om w9 R19.out (RatTy.of HZ.out hb79)).mono ?_; rintro e20 w20 ⟨rfl, hH, hG⟩
  have hzt : RatTy w9 z := RatTy.of HZ.out hb79
  go_wp2_with fail
  refine (Rput_den z _ b1 B1 c2 hc2 om w20 (RowAt.grownR R29.out hzt hG) hH).mono ?_; rintro e21 w21 ⟨rfl, hR, hG2⟩
  have HR := Hh hR; have HG := Hh (grown_trans (grown_within z hb79) (grown_trans hG hG2)); clear hR hH hG hG2
  go_wp2
  go_ret
  exact ⟨rfl, a1, b1, G, EE.out.2.2, p2, EE.out.1, EE.out.2.1, HR.out, HG.out⟩
 ·have dq : ((t3 : Int) != (bl : Int) - 1) = true := bne_iff_ne.2 hq
  clear hq
  go_wp2_with fail
  refine (CO.out _ A1 B1 c1 c2 hc1 hc2 R19.out R29.out).mono ?_; rintro e10 w10 ⟨g, hg, ⟨a2, ha2⟩, ⟨b2, hb2⟩, A3, c3, rfl, hc3, hr3, hb10⟩
  have hgl : g ≤ a1 := Nat.le_of_dvd p1 ⟨a2, ha2⟩
  have lg : (dg g).length ≤ 300000 := Nat.le_trans (dg_len_mono hgl) l1
  have q2 : 0 < b2 := Nat.pos_of_ne_zero fun h => by rw [h, Nat.mul_zero] at hb2; omega
  have d1 : a1 / g = a2 := by rw [ha2, Nat.mul_div_cancel_left _ hg]
  have d2 : b1 / g = b2 := by rw [hb2, Nat.mul_div_cancel_left _ hg]
  have la2 : (dg a2).length ≤ 300000 := Nat.le_trans (dg_len_mono (by rw [← d1]; exact Nat.div_le_self _ _)) l1
  have lb2 : (dg b2).length ≤ 300000 := Nat.le_trans (dg_len_mono (by rw [← d2]; exact Nat.div_le_self _ _)) l2
  have CM := Hh (fun w (Bx : Option Addr) (cx : Nat) h1 h2 => Bcompare g 1 A3 Bx c3 cx om (by rw [dg_one]; decide) w h1 h2)
  have OV1 := Hh (fun w h1 h2 => Bover a1 g A1 A3 c1 c3 om om hg w h1 h2)
  have OV2 := Hh (fun w h1 h2 => Bover b1 g B1 A3 c2 c3 om om hg w h1 h2)
  rw [d1] at OV1; rw [d2] at OV2
  have ON := Hh Bone
  have EF := Hh (show a = G * g * a2 ∧ b = G * g * b2 ∧ 0 < G * g from ⟨by rw [Nat.mul_assoc, ← ha2]; exact EE.out.1, by rw [Nat.mul_assoc, ← hb2]; exact EE.out.2.1, Nat.mul_pos EE.out.2.2 hg⟩)
  clear ha2 hb2 d1 d2 hgl
  have R3 := Hh hr3; clear hr3
  go_wp2_with fail
  refine (ON.out _).mono ?_; rintro e11 w11 ⟨A4, c4, rfl, hc4, hr4, hb11⟩
  have R4 := Hh hr4; clear hr4
  go_wp2_with fail
  refine (CM.out _ A4 c4 (R3.out.of hb11) R4.out).mono ?_; rintro e12 w12 ⟨rfl, hb12⟩
  have hb12' := hb10.trans (hb11.trans hb12)
  have hb712 := hb79.trans hb12'
  have R112 := Hh (R19.out.of hb12'); have R212 := Hh (R29.out.of hb12'); have R312 := Hh (R3.out.of (hb11.trans hb12))
  obtain ⟨cm, hcm⟩ : ∃ cm, cm = cmpN g 1 := ⟨_, rfl⟩
  rw [← hcm]
  clear hcm
  by_cases hz0 : cm = 0
  ·have dz : (cm != 0) = false := by rw [hz0]; rfl
   clear hz0
   go_wp2_with fail
   refine (Rput_num z neg a1 A1 c1 hc1 om w12 R112.out (RatTy.of HZ.out hb712)).mono ?_; rintro e20 w20 ⟨rfl, hH, hG⟩
   have hzt : RatTy w12 z := RatTy.of HZ.out hb712
   go_wp2_with fail
   refine (Rput_den z _ b1 B1 c2 hc2 om w20 (RowAt.grownR R212.out hzt hG) hH).mono ?_; rintro e21 w21 ⟨rfl, hR, hG2⟩
   have HR := Hh hR; have HG := Hh (grown_trans (grown_within z hb712) (grown_trans hG hG2)); clear hR hH hG hG2
   go_wp2
   go_ret
   exact ⟨rfl, a1, b1, G, EE.out.2.2, p2, EE.out.1, EE.out.2.1, HR.out, HG.out⟩
  ·have dz : (cm != 0) = true := bne_iff_ne.2 hz0
   clear hz0
   go_wp2_with fail
   refine (OV1.out _ R112.out R312.out).mono ?_; rintro e13 w13 ⟨A5, c5, A6, c6, rfl, hc5, hc6, hr5, hr6, hb13⟩
   have R5 := Hh hr5; clear hr5 hr6
   go_wp2_with fail
   refine (OV2.out _ (R212.out.of hb13) (R312.out.of hb13)).mono ?_; rintro e14 w14 ⟨A7, c7, A8, c8, rfl, hc7, hc8, hr7, hr8, hb14⟩
   have R7 := Hh hr7; have R514 := Hh (R5.out.of hb14); clear hr7 hr8
   have hb714 := hb712.trans (hb13.trans hb14)
   go_wp2_with fail
   refine (Rput_num z neg a2 A5 c5 hc5 om w14 R514.out (RatTy.of HZ.out hb714)).mono ?_; rintro e20 w20 ⟨rfl, hH, hG⟩
   have hzt : RatTy w14 z := RatTy.of HZ.out hb714
   go_wp2_with fail
   refine (Rput_den z _ b2 A7 c7 hc7 om w20 (RowAt.grownR R7.out hzt hG) hH).mono ?_; rintro e21 w21 ⟨rfl, hR, hG2⟩
   have HR := Hh hR; have HG := Hh (grown_trans (grown_within z hb714) (grown_trans hG hG2)); clear hR hH hG hG2
   go_wp2
   go_ret
   exact ⟨rfl, a2, b2, G * g, EF.out.2.2, q2, EF.out.1, EF.out.2.1, HR.out, HG.out⟩) : p := h
theorem Rmade_pos (z : Nat) (neg : Bool) (a b : Nat) (A Bv : Option Addr) (ca cb : Nat) (h0 : 0 < a) (hb : 0 < b) (hl1 : (dg a).length ≤ 300000) (hl2 : (dg b).length ≤ 300000) (hca : (dg a).length ≤ ca) (hcb : (dg b).length ≤ cb) (w : World) (hT : Tab32 w) (hz : RatTy w z) (hra : RowAt w A (dg a)) (hrb : RowAt w Bv (dg b)) : Calls Tryz.prog 119 #[.pointer (some ⟨z, 0, none⟩), .bool neg, .slice A (dg a).length ca, .slice Bv (dg b).length cb] w (MadeP w z neg a b) := by
 have la0 : (dg a).length ≠ 0 := by have := dg_len_pos (n := a) om; omega
 have d0 : (((dg a).length : Int) == 0) = false := beq_eq_false_iff_ne.2 om
 have hw1 : Within w (w.alloc (.cells #[.bool false, .slice A (dg a).length ca] 94)) := (Within.refl w).alloc _
 have hw2 : Within w ((w.alloc (.cells #[.bool false, .slice A (dg a).length ca] 94)).alloc (.cells #[.bool false, .slice Bv (dg b).length cb] 94)) := hw1.alloc _
 have IX : IntB ((w.alloc (.cells #[.bool false, .slice A (dg a).length ca] 94)).alloc (.cells #[.bool false, .slice Bv (dg b).length cb] 94)) w.heap.size (a : Int) := (int_box w a A ca hca hra).of ((Within.refl _).alloc _)
 have IY : IntB ((w.alloc (.cells #[.bool false, .slice A (dg a).length ca] 94)).alloc (.cells #[.bool false, .slice Bv (dg b).length cb] 94)) (w.heap.size + 1) (b : Int) := by
  have := int_box (w.alloc (.cells #[.bool false, .slice A (dg a).length ca] 94)) b Bv cb hcb (hrb.of hw1)
  simpa using this
 have HT2 := Hh (hT.of hw2)
 have HZ2 := Hh (hz.of hw2)
 have HZL := Hh hz.lt
 have RA2 := Hh (hra.of hw2); have RB2 := Hh (hrb.of hw2)
 have TX := Hh (fun u hT h => Btzb w.heap.size (a : Int) om (by rw [Int.natAbs_natCast]; omega) u hT h)
 have TY := Hh (fun (v : Nat) (h0 : 0 < v) (hl : (dg v).length ≤ 1000000) u hT h => Btzb (w.heap.size + 1) (v : Int) om (by rw [Int.natAbs_natCast]; omega) u hT h)
 have RI := Hh (fun (v n : Nat) (Av : Option Addr) (c : Nat) (hl : (dg v).length ≤ 300000) (hn : n ≤ 32000000) w h => Bright v Av c n om om w h)
 have BL := Hh (fun (v : Nat) (hl : (dg v).length ≤ 300000) u h => Bbitlen (w.heap.size + 1) (v : Int) (by rw [Int.natAbs_natCast]; omega) u h)
 have LN := Hh (show (dg a).length ≤ 300000 ∧ (dg b).length ≤ 300000 ∧ 0 < a ∧ 0 < b from ⟨hl1, hl2, h0, hb⟩)
 have HT := Hh hT; have HZ := Hh hz
 clear hra hrb hca hcb hz hT
 have HW2 := Hh hw2
 have hxy := IY.lt
 go_enter Tryz.func119, Tryz.ntmps119
 go_wp2_with fail
 obtain ⟨W2, hW2⟩ : ∃ W2, W2 = (w.alloc (.cells #[.bool false, .slice A (dg a).length ca] 94)).alloc (.cells #[.bool false, .slice Bv (dg b).length cb] 94) := ⟨_, rfl⟩
 rw [← hW2] at HT2 HZ2 RA2 RB2 IX IY hw2 HW2 hxy ⊢
 clear hW2
 refine (TX.out _ HT2.out IX).mono ?_; rintro e3 w3 ⟨t1, m1, rfl, hm1, ht1, rfl⟩
 rw [Int.natAbs_natCast] at hm1
 have HM1 := Hh hm1; clear hm1
 go_wp2_with fail
 refine (TY.out b hb om _ HT2.out IY).mono ?_; rintro e4 w4 ⟨t2, m2, rfl, hm2, ht2, rfl⟩
 rw [Int.natAbs_natCast] at hm2
 have HM2 := Hh hm2; clear hm2
 by_cases hlt : t2 < t1
 ·have dl : decide ((t2 : Int) < (t1 : Int)) = true := decide_eq_true om
  have hn : t2 ≤ 32000000 := by omega
  have ea1 : a = 2 ^ t2 * (a / 2 ^ t2) := pow_part HM1.out om
  have ea2 : b = 2 ^ t2 * (b / 2 ^ t2) := pow_part HM2.out om
  have RIA := Hh (fun w h => RI.out a t2 A ca hl1 hn w h)
  have RIB := Hh (fun w h => RI.out b t2 Bv cb hl2 hn w h)
  obtain ⟨a1, ha1⟩ : ∃ a1, a1 = a / 2 ^ t2 := ⟨_, rfl⟩
  obtain ⟨b1, hb1'⟩ : ∃ b1, b1 = b / 2 ^ t2 := ⟨_, rfl⟩
  rw [← ha1] at RIA ea1
  rw [← hb1'] at RIB ea2
  have hle1 : a1 ≤ a := by rw [ha1]; exact Nat.div_le_self _ _
  have hle2 : b1 ≤ b := by rw [hb1']; exact Nat.div_le_self _ _
  have hp : 0 < 2 ^ t2 := Nat.two_pow_pos _
  obtain ⟨G, hG0⟩ : ∃ G, G = 2 ^ t2 := ⟨_, rfl⟩
  exact zz6
 ·have dl : decide ((t2 : Int) < (t1 : Int)) = false := decide_eq_false om
  have hn : t1 ≤ 32000000 := by omega
  have ea1 : a = 2 ^ t1 * (a / 2 ^ t1) := pow_part HM1.out om
  have ea2 : b = 2 ^ t1 * (b / 2 ^ t1) := pow_part HM2.out om
  have RIA := Hh (fun w h => RI.out a t1 A ca hl1 hn w h)
  have RIB := Hh (fun w h => RI.out b t1 Bv cb hl2 hn w h)
  obtain ⟨a1, ha1⟩ : ∃ a1, a1 = a / 2 ^ t1 := ⟨_, rfl⟩
  obtain ⟨b1, hb1'⟩ : ∃ b1, b1 = b / 2 ^ t1 := ⟨_, rfl⟩
  rw [← ha1] at RIA ea1
  rw [← hb1'] at RIB ea2
  have hle1 : a1 ≤ a := by rw [ha1]; exact Nat.div_le_self _ _
  have hle2 : b1 ≤ b := by rw [hb1']; exact Nat.div_le_self _ _
  have hp : 0 < 2 ^ t1 := Nat.two_pow_pos _
  obtain ⟨G, hG0⟩ : ∃ G, G = 2 ^ t1 := ⟨_, rfl⟩
  exact zz6
theorem Rmade (z : Nat) (neg : Bool) (a b : Nat) (A Bv : Option Addr) (ca cb : Nat) (hb : 0 < b) (hl1 : (dg a).length ≤ 300000) (hl2 : (dg b).length ≤ 300000) (hca : (dg a).length ≤ ca) (hcb : (dg b).length ≤ cb) (w : World) (hT : Tab32 w) (hz : RatTy w z) (hra : RowAt w A (dg a)) (hrb : RowAt w Bv (dg b)) : Calls Tryz.prog 119 #[.pointer (some ⟨z, 0, none⟩), .bool neg, .slice A (dg a).length ca, .slice Bv (dg b).length cb] w (MadeP w z neg a b) := by
 rcases Nat.eq_zero_or_pos a with h | h
 ·subst h
  have := Rmade_zero z neg b (dg b).length A Bv ca cb hb w hz
  rw [show (dg 0).length = 0 by rw [dg_zero]; rfl]
  exact this
 ·exact Rmade_pos z neg a b A Bv ca cb h hb hl1 hl2 hca hcb w hT hz hra hrb
end Go.Proofs.YtgkcpnidmfejeaaGreatDoor
section
namespace Go.Proofs.YtgkcpnidmfejeaaGreatDoor
def frQ (a : Int) (b : Nat) : Rat := (a : Rat) / (b : Rat)
theorem nat_pos {b : Nat} (h : 0 < b) : (0 : Rat) < (b : Rat) := by exact_mod_cast h
theorem frQ_one (a : Int) : frQ a 1 = (a : Rat) := by unfold frQ; grind
theorem frQ_zero (b : Nat) : frQ 0 b = 0 := by unfold frQ; grind
theorem zz75 {p : Prop} (h : p := by
 have h1 := nat_pos hb; have h2 := nat_pos hd
 unfold frQ; push_cast
 generalize (b : Rat) = B at *; generalize (d : Rat) = D at *; generalize (a : Rat) = A; generalize (c : Rat) = C
 have : B ≠ 0 := by grind
 have : D ≠ 0 := by grind
 grind) : p := h
theorem frQ_add {a c : Int} {b d : Nat} (hb : 0 < b) (hd : 0 < d) : frQ (a * d + c * b) (b * d) = frQ a b + frQ c d := by
 exact zz75
theorem frQ_sub {a c : Int} {b d : Nat} (hb : 0 < b) (hd : 0 < d) : frQ (a * d - c * b) (b * d) = frQ a b - frQ c d := by
 exact zz75
theorem frQ_mul {a c : Int} {b d : Nat} : frQ (a * c) (b * d) = frQ a b * frQ c d := by
 unfold frQ; push_cast; grind
theorem frQ_red {a a' : Int} {b b' g : Nat} (hg : 0 < g) (h1 : a = g * a') (h2 : b = g * b') : frQ a b = frQ a' b' := by
 have h := nat_pos hg
 subst h1 h2
 unfold frQ; push_cast
 generalize (b' : Rat) = B at *; generalize (g : Rat) = G at *; generalize (a' : Rat) = A
 have : G ≠ 0 := by grind
 grind
theorem frQ_le {a c : Int} {b d : Nat} (hb : 0 < b) (hd : 0 < d) : frQ a b ≤ frQ c d ↔ a * d ≤ c * b := by
 have h1 := nat_pos hb; have h2 := nat_pos hd
 have hn : (0 : Rat) < (b : Rat) * (d : Rat) := Rat.mul_pos h1 h2
 have e1 : frQ a b * ((b : Rat) * (d : Rat)) = ((a * d : Int) : Rat) := by
  unfold frQ; push_cast
  generalize (b : Rat) = B at *; generalize (d : Rat) = D at *
  have : B ≠ 0 := by grind
  grind
 have e2 : frQ c d * ((b : Rat) * (d : Rat)) = ((c * b : Int) : Rat) := by
  unfold frQ; push_cast
  generalize (b : Rat) = B at *; generalize (d : Rat) = D at *
  have : D ≠ 0 := by grind
  grind
 constructor
 ·intro h
  have := rmul_le h (Rat.le_of_lt hn)
  rw [e1, e2] at this
  exact_mod_cast this
 ·intro h
  apply le_of_mul hn
  rw [e1, e2]
  exact_mod_cast h
theorem frQ_neg (a : Int) (b : Nat) : frQ (-a) b = -frQ a b := by unfold frQ; push_cast; grind
theorem frQ_nonneg {a : Int} {b : Nat} (hb : 0 < b) : 0 ≤ frQ a b ↔ 0 ≤ a := by
 have := frQ_le (a := 0) (c := a) (b := 1) (d := b) dc hb
 rw [frQ_one] at this
 simpa using this
theorem frQ_eq_zero {a : Int} {b : Nat} (hb : 0 < b) : frQ a b = 0 ↔ a = 0 := by
 have h1 := frQ_nonneg (a := a) hb
 have h2 := frQ_nonneg (a := -a) hb
 rw [frQ_neg] at h2
 constructor
 ·intro h; rw [h] at h1 h2; have := h1.1 Rat.le_refl; have := h2.1 (by grind); omega
 ·intro h; rw [h, frQ_zero]
theorem frQ_quo {a c : Int} {b d : Nat} (hb : 0 < b) (hd : 0 < d) (hc : c ≠ 0) : frQ (if (decide (a < 0) != decide (c < 0)) then -((a.natAbs * d : Nat) : Int) else ((a.natAbs * d : Nat) : Int)) (b * c.natAbs) = frQ a b / frQ c d := by
 have h1 := nat_pos hb; have h2 := nat_pos hd
 have key : ∀ (A C : Nat), 0 < C → (A : Rat) * (d : Rat) / ((b : Rat) * (C : Rat)) = ((A : Rat) / (b : Rat)) / ((C : Rat) / (d : Rat)) := by
  intro A C hC
  have h3 := nat_pos hC
  generalize (b : Rat) = B at *; generalize (d : Rat) = D at *; generalize (C : Rat) = X at *; generalize (A : Rat) = Y
  have : B ≠ 0 := by grind
  have : D ≠ 0 := by grind
  have : X ≠ 0 := by grind
  grind
 have k := key a.natAbs c.natAbs om
 obtain ⟨A, hA⟩ : ∃ A, A = a.natAbs := ⟨_, rfl⟩
 obtain ⟨C, hC⟩ : ∃ C, C = c.natAbs := ⟨_, rfl⟩
 rw [← hA, ← hC] at k ⊢
 unfold frQ
 have ea : (a : Rat) = if a < 0 then -(A : Rat) else (A : Rat) := by
  split
  ·have : a = -(A : Int) := by omega
   rw [this]; push_cast; rfl
  ·have : a = (A : Int) := by omega
   rw [this]; push_cast; rfl
 have ec : (c : Rat) = if c < 0 then -(C : Rat) else (C : Rat) := by
  split
  ·have : c = -(C : Int) := by omega
   rw [this]; push_cast; rfl
  ·have : c = (C : Int) := by omega
   rw [this]; push_cast; rfl
 rw [ea, ec]
 push_cast at k ⊢
 by_cases na : a < 0 <;> by_cases nc : c < 0 <;> simp only [na, nc, decide_true, decide_false, if_true, if_false, bne_self_eq_false, Bool.true_bne, Bool.false_bne, Bool.not_false, Bool.not_true, Bool.false_eq_true, ite_true, ite_false] <;> push_cast <;> grind
end Go.Proofs.YtgkcpnidmfejeaaGreatDoor
end
namespace Go.Proofs.YtgkcpnidmfejeaaGreatDoor
open Go.RowKit
theorem int_box2 (w : World) (neg : Bool) (v : Int) (A : Option Addr) (c : Nat) (hn : decide (v < 0) = neg) (hc : (dg v.natAbs).length ≤ c) (hr : RowAt w A (dg v.natAbs)) :
 IntB (w.alloc (.cells #[.bool neg, .slice A (dg v.natAbs).length c] 94)) w.heap.size v := by
 refine ⟨A, c, ?_, hc, hr.of ((Within.refl w).alloc _)⟩
 rw [hn]
 exact heap_alloc_new w _
theorem mul_abs (a : Int) (d : Nat) : (a * (d : Int)).natAbs = a.natAbs * d := by rw [Int.natAbs_mul, Int.natAbs_natCast]
theorem mul_neg_iff {a : Int} {d : Nat} (hd : 0 < d) : decide (a * (d : Int) < 0) = decide (a < 0) := by
 refine decide_eq_decide.2 ⟨fun h => ?_, fun h => Int.mul_neg_of_neg_of_pos h om⟩
 rcases Int.lt_or_le a 0 with g | g
 ·exact g
 ·have := Int.mul_nonneg g (show (0 : Int) ≤ d by omega); omega
def RatP (w : World) (z : Nat) (q : Rat) (M D : Nat) (e : Ending) (w' : World) : Prop := e = .returned (.pointer (some ⟨z, 0, none⟩)) ∧ ∃ (a : Int) (b : Nat), 0 < b ∧ RatB w' z a b ∧ frQ a b = q ∧ a.natAbs ≤ M ∧ b ≤ D ∧ w.grownBy w' (some z)
theorem MadeP.rat {w w0 w' : World} {z : Nat} {neg : Bool} {a b : Nat} {e : Ending} {q : Rat} (h : MadeP w0 z neg a b e w') (hb : 0 < b) (hw : Within w w0) (hq : frQ (sgv neg a) b = q) : RatP w z q a b e w' := by
 obtain ⟨h1, a', b', g, hg, hb', ea, eb, hR, hG⟩ := h
 refine ⟨h1, sgv neg a', b', hb', hR, ?_, ?_, ?_, grown_trans (grown_within z hw) hG⟩
 ·rw [← hq]
  refine (frQ_red hg ?_ eb).symm
  unfold sgv; rw [ea]; split
  ·rw [Int.natCast_mul, Int.mul_neg]
  ·rw [Int.natCast_mul]
 ·rw [sgv_abs, ea]; exact Nat.le_mul_of_pos_left _ hg
 ·rw [eb]; exact Nat.le_mul_of_pos_left _ hg
theorem Rbottom (r L : Nat) (Bv : Option Addr) (cb : Nat) (h : 0 < L) (w : World) (c3 : w.cell? ⟨r, 3, none⟩ = some (.slice Bv L cb)) : Calls Tryz.prog 115 #[.pointer (some ⟨r, 0, none⟩)] w (fun e w' => e = .returned (.slice Bv L cb) ∧ w = w') := by
 have d0 : ((L : Int) == 0) = false := beq_eq_false_iff_ne.2 om
 have d1 : ¬ L = 0 := by omega
 clear h
 go_enter Tryz.func115, Tryz.ntmps115
 go_wp2
 go_ret
 exact ⟨rfl, rfl⟩
structure Two (w : World) (x y : Nat) (a1 : Int) (b1 : Nat) (a2 : Int) (b2 : Nat) (A1 B1 A2 B2 : Option Addr) (ca1 cb1 ca2 cb2 : Nat) : Prop where
 x0 : w.cell? ⟨x, 0, none⟩ = some (.bool (decide (a1 < 0)))
 x1 : w.cell? ⟨x, 1, none⟩ = some (.slice A1 (dg a1.natAbs).length ca1)
 x3 : w.cell? ⟨x, 3, none⟩ = some (.slice B1 (dg b1).length cb1)
 y0 : w.cell? ⟨y, 0, none⟩ = some (.bool (decide (a2 < 0)))
 y1 : w.cell? ⟨y, 1, none⟩ = some (.slice A2 (dg a2.natAbs).length ca2)
 y3 : w.cell? ⟨y, 3, none⟩ = some (.slice B2 (dg b2).length cb2)
 ra1 : RowAt w A1 (dg a1.natAbs)
 rb1 : RowAt w B1 (dg b1)
 ra2 : RowAt w A2 (dg a2.natAbs)
 rb2 : RowAt w B2 (dg b2)
theorem two_of {w : World} {x y : Nat} {a1 : Int} {b1 : Nat} {a2 : Int} {b2 : Nat} (hx : RatB w x a1 b1) (hy : RatB w y a2 b2) : ∃ A1 B1 A2 B2 ca1 cb1 ca2 cb2, Two w x y a1 b1 a2 b2 A1 B1 A2 B2 ca1 cb1 ca2 cb2 := by
 obtain ⟨A1, c1, B1, d1, x0, x1, _, x3, ra1, rb1⟩ := hx.rd
 obtain ⟨A2, c2, B2, d2, y0, y1, _, y3, ra2, rb2⟩ := hy.rd
 exact ⟨A1, B1, A2, B2, c1, d1, c2, d2, x0, x1, x3, y0, y1, y3, ra1, rb1, ra2, rb2⟩
def CrossP (W : World) (u v : Int) (e : Ending) (w' : World) : Prop := ∃ g1 g2, e = .returned (.tuple #[.pointer (some ⟨g1, 0, none⟩), .pointer (some ⟨g2, 0, none⟩)]) ∧ IntB w' g1 u ∧ IntB w' g2 v ∧ W.heap.size ≤ g1 ∧ W.heap.size ≤ g2 ∧ Within W w'
theorem mul_len' {a : Int} {d n m : Nat} (ha : (dg a.natAbs).length ≤ n) (hd : (dg d).length ≤ m) : (dg (a * (d : Int)).natAbs).length ≤ n + m := by
 rw [mul_abs]; exact dg_mul_len ha hd
theorem Rcross (x y : Nat) (a1 : Int) (b1 : Nat) (a2 : Int) (b2 : Nat) (h1 : 0 < b1) (h2 : 0 < b2) (l1 : (dg a1.natAbs).length ≤ 1000) (m1 : (dg b1).length ≤ 1000) (l2 : (dg a2.natAbs).length ≤ 1000) (m2 : (dg b2).length ≤ 1000) (w : World) (hx : RatB w x a1 b1) (hy : RatB w y a2 b2) : Calls Tryz.prog 116 #[.pointer (some ⟨x, 0, none⟩), .pointer (some ⟨y, 0, none⟩)] w (CrossP w (a1 * (b2 : Int)) (a2 * (b1 : Int))) := by
 obtain ⟨A1, B1, A2, B2, ca1, cb1, ca2, cb2, T⟩ := two_of hx hy
 obtain ⟨x0, x1, x3, y0, y1, y3, ra1, rb1, ra2, rb2⟩ := T
 have lx := hx.lt; have ly := hy.lt
 have BX := Hh (fun w c => Rbottom x (dg b1).length B1 cb1 (dg_len_pos om) w c)
 have BY := Hh (fun w c => Rbottom y (dg b2).length B2 cb2 (dg_len_pos om) w c)
 have T1 := Hh (fun w h1 h2 => Btimes a1.natAbs b2 A1 B2 ca1 cb2 om om w h1 h2)
 have T2 := Hh (fun w h1 h2 => Btimes a2.natAbs b1 A2 B1 ca2 cb1 om om w h1 h2)
 have K1 := Hh (fun (w : World) A c hc hr => int_box2 w (decide (a1 < 0)) (a1 * (b2 : Int)) A c (mul_neg_iff h2) hc hr)
 have K2 := Hh (fun (w : World) A c hc hr => int_box2 w (decide (a2 < 0)) (a2 * (b1 : Int)) A c (mul_neg_iff h1) hc hr)
 rw [mul_abs] at K1 K2
 have RA1 := Hh ra1; have RB1 := Hh rb1; have RA2 := Hh ra2; have RB2 := Hh rb2
 clear ra1 rb1 ra2 rb2 hx hy l1 m1 l2 m2 h1 h2
 generalize a1 * (b2 : Int) = u at *
 generalize a2 * (b1 : Int) = v at *
 generalize decide (a1 < 0) = s1 at *
 generalize decide (a2 < 0) = s2 at *
 generalize a1.natAbs = n1 at *
 generalize a2.natAbs = n2 at *
 generalize hL1 : (dg n1).length = L1 at *; generalize hM1 : (dg b1).length = M1 at *; generalize hL2 : (dg n2).length = L2 at *; generalize hM2 : (dg b2).length = M2 at *
 clear hL1 hM1 hL2 hM2
 go_enter Tryz.func116, Tryz.ntmps116
 go_wp2
 have q0 := x0; have q1 := x1; have q3 := y3; have qx := lx; have qy := ly
 refine wp_region_schG (fun W => W.cell? ⟨x, 0, none⟩ = some (.bool s1) ∧ W.cell? ⟨x, 1, none⟩ = some (.slice A1 L1 ca1) ∧ W.cell? ⟨y, 3, none⟩ = some (.slice B2 M2 cb2) ∧ x < W.heap.size ∧ y < W.heap.size ∧ Within w W) 15 (.firm 0 (.firm 1 (.firm 2 (.firm 3 (.firm 4 (.firm 5 (.firm 6 (.firm 7 (.firm 8 (.firm 9 (.firm 10 (.one 11 (.one 12 (.firm 13 (.one 14 (.one 15 .nil)))))))))))))))) kr kr ⟨q0, q1, q3, qx, qy, Within.refl _⟩ ?_
 rintro w0 ⟨p0, p1, p3, px, py, hw1⟩
 try simp only [pu]
 iterate 11
  apply sch_firm rfl rfl wi
  ·intro wq hq
   have hcq := hq.cells
   clear hq
   go_simp
   rfl
  try simp only [pu]
 refine sch_one rfl rfl (fun K hK => ?_)
 go_simp
 refine (BY.out _ (by first | exact p3 | simpa using p3)).mono ?_; rintro f1 v1 ⟨rfl, rfl⟩
 refine hK _ _ (fun _ => wi) ?_
 clear hK K
 try simp only [pu]
 refine sch_one rfl rfl (fun K hK => ?_)
 go_simp
 refine (T1.out _ (RA1.out.of (hw1.drew)) (RB2.out.of (hw1.drew))).mono ?_; rintro f2 v1 ⟨D1, d1, rfl, hd1, hrd1, hv1⟩
 refine hK _ _ (fun _ => wi) ?_
 clear hK K
 try simp only [pu]
 apply sch_firm rfl rfl wi
 ·intro wq hq
  have hcq := hq.cells
  clear hq
  go_simp
  rfl
 try simp only [pu]
 refine sch_one rfl rfl (fun K hK => ?_)
 go_simp
 refine hK _ _ (fun _ => wi) ?_
 clear hK K
 try simp only [pu]
 refine sch_one rfl rfl (fun K hK => ?_)
 go_simp
 refine hK _ _ ab ?_
 clear hK K
 try simp only [pu]
 refine sch_nil ?_
 have I1 := K1.out v1 D1 d1 hd1 hrd1
 have hs1 := (hw1.drew.trans hv1).size
 have hw3 : Within w (v1.alloc (.cells #[.bool s1, .slice D1 (dg (n1 * b2)).length d1] 94)) := (hw1.drew.trans hv1).alloc _
 go_wp2
 generalize v1.alloc (.cells #[.bool s1, .slice D1 (dg (n1 * b2)).length d1] 94) = W3 at *
 generalize v1.heap.size = g1 at *
 clear hd1 hrd1 hv1 hw1 qx qy q0 q1 q3
 have q0 := (hw3.cells _ _ ly).trans y0; have q1 := (hw3.cells _ _ ly).trans y1; have q3 := (hw3.cells _ _ lx).trans x3; have qx : y < W3.heap.size := Nat.lt_of_lt_of_le ly hw3.size; have qy : x < W3.heap.size := Nat.lt_of_lt_of_le lx hw3.size
 refine wp_region_schG (fun W => W.cell? ⟨y, 0, none⟩ = some (.bool s2) ∧ W.cell? ⟨y, 1, none⟩ = some (.slice A2 L2 ca2) ∧ W.cell? ⟨x, 3, none⟩ = some (.slice B1 M1 cb1) ∧ y < W.heap.size ∧ x < W.heap.size ∧ Within W3 W) 15 (.firm 0 (.firm 1 (.firm 2 (.firm 3 (.firm 4 (.firm 5 (.firm 6 (.firm 7 (.firm 8 (.firm 9 (.firm 10 (.one 11 (.one 12 (.firm 13 (.one 14 (.one 15 .nil)))))))))))))))) kr kr ⟨q0, q1, q3, qx, qy, Within.refl _⟩ ?_
 rintro w0 ⟨p0, p1, p3, px, py, hw2⟩
 try simp only [pu]
 iterate 11
  apply sch_firm rfl rfl wi
  ·intro wq hq
   have hcq := hq.cells
   clear hq
   go_simp
   rfl
  try simp only [pu]
 refine sch_one rfl rfl (fun K hK => ?_)
 go_simp
 refine (BX.out _ (by first | exact p3 | simpa using p3)).mono ?_; rintro f1 v1 ⟨rfl, rfl⟩
 refine hK _ _ (fun _ => wi) ?_
 clear hK K
 try simp only [pu]
 refine sch_one rfl rfl (fun K hK => ?_)
 go_simp
 refine (T2.out _ (RA2.out.of (hw3.trans hw2.drew)) (RB1.out.of (hw3.trans hw2.drew))).mono ?_; rintro f2 v2 ⟨D2, d2, rfl, hd2, hrd2, hv2⟩
 refine hK _ _ (fun _ => wi) ?_
 clear hK K
 try simp only [pu]
 apply sch_firm rfl rfl wi
 ·intro wq hq
  have hcq := hq.cells
  clear hq
  go_simp
  rfl
 try simp only [pu]
 refine sch_one rfl rfl (fun K hK => ?_)
 go_simp
 refine hK _ _ (fun _ => wi) ?_
 clear hK K
 try simp only [pu]
 refine sch_one rfl rfl (fun K hK => ?_)
 go_simp
 refine hK _ _ ab ?_
 clear hK K
 try simp only [pu]
 refine sch_nil ?_
 have I2 := K2.out v2 D2 d2 hd2 hrd2
 have hs2 := (hw2.drew.trans hv2).size
 have hs3 := hw3.size
 have hw4 : Within W3 (v2.alloc (.cells #[.bool s2, .slice D2 (dg (n2 * b1)).length d2] 94)) := (hw2.drew.trans hv2).alloc _
 go_wp2
 go_ret2
 exact ⟨g1, v2.heap.size, rfl, I1.of hw4, I2, by omega, by omega, hw3.trans hw4⟩
theorem Rcmp (x y : Nat) (a1 : Int) (b1 : Nat) (a2 : Int) (b2 : Nat) (h1 : 0 < b1) (h2 : 0 < b2) (l1 : (dg a1.natAbs).length ≤ 1000) (m1 : (dg b1).length ≤ 1000) (l2 : (dg a2.natAbs).length ≤ 1000) (m2 : (dg b2).length ≤ 1000) (w : World) (hx : RatB w x a1 b1) (hy : RatB w y a2 b2) : Calls Tryz.prog 56 #[.pointer (some ⟨x, 0, none⟩), .pointer (some ⟨y, 0, none⟩)] w (fun e w' => e = .returned (.int .i64 (cmpI (a1 * (b2 : Int)) (a2 * (b1 : Int)))) ∧ Within w w') := by
 have CR := Hh (Rcross x y a1 b1 a2 b2 h1 h2 l1 m1 l2 m2 w hx hy)
 have e1 := mul_len' l1 m2; have e2 := mul_len' l2 m1
 have CP := Hh (fun (g1 g2 : Nat) w h1 h2 => Bcmp g1 g2 (a1 * (b2 : Int)) (a2 * (b1 : Int)) om om w h1 h2)
 clear hx hy l1 m1 l2 m2 e1 e2 h1 h2
 generalize a1 * (b2 : Int) = u at *
 generalize a2 * (b1 : Int) = v at *
 generalize hcm : cmpI u v = cm at *
 clear hcm
 go_enter Tryz.func56, Tryz.ntmps56
 go_wp2_with fail
 refine (CR.out).mono ?_; rintro e1 w1 ⟨g1, g2, rfl, hI1, hI2, hg1, hg2, hb1⟩
 go_wp2_with fail
 refine (CP.out g1 g2 _ hI1 hI2).mono ?_; rintro e2 w2 ⟨rfl, hb2⟩
 go_wp2
 go_ret
 exact ⟨rfl, hb1.trans hb2⟩
theorem Rnum (r : Nat) (w : World) (hz : RatTy w r) : Calls Tryz.prog 34 #[.pointer (some ⟨r, 0, none⟩)] w (fun e w' => e = .returned (.pointer (some ⟨r, 0, none⟩)) ∧ w = w') := by
 obtain ⟨b, s, b', s', c0, c1, c2, c3⟩ := hz.cells
 clear hz
 go_enter Tryz.func34, Tryz.ntmps34
 go_wp2
 go_ret
 exact ⟨rfl, rfl⟩
theorem zz64 {p : Prop} (h : p := by
 go_enter Tryz.func43, Tryz.ntmps43
 go_wp2_with fail
 refine (SG.out _ rfl).mono ?_; rintro e1 w1 ⟨rfl, rfl⟩
 go_wp2
 go_ret
 exact ⟨rfl, rfl⟩) : p := h
theorem Rsign_neg (r : Nat) (v : Int) (b : Nat) (h : v < 0) (w : World) (hx : RatB w r v b) : Calls Tryz.prog 43 #[.pointer (some ⟨r, 0, none⟩)] w (fun e w' => e = .returned (.int .i64 (-1)) ∧ w = w') := by
 obtain ⟨A, c, Bv, cb, c0, c1, c2, c3, _, _⟩ := hx.rd
 rw [decide_eq_true h] at c0
 have hp := dg_len_pos (n := v.natAbs) om
 obtain ⟨k, hk⟩ : ∃ k, k = (dg v.natAbs).length := ⟨_, rfl⟩
 rw [← hk] at c1 hp
 clear hk
 have d : ((k : Int) == 0) = false := beq_eq_false_iff_ne.2 om
 have d2 : ¬ k = 0 := by omega
 have SG : Hid (∀ w', w = w' → Calls Tryz.prog 126 #[.pointer (some ⟨r, 0, none⟩)] w' (fun e w'' => e = .returned (.int .i64 (-1)) ∧ w' = w'')) := Hh (fun w' hw => by
  subst hw
  go_enter Tryz.func126, Tryz.ntmps126
  go_wp2
  go_ret
  exact ⟨rfl, rfl⟩)
 clear hx h
 exact zz64
theorem Rsign_zero (r : Nat) (v : Int) (b : Nat) (h : v = 0) (w : World) (hx : RatB w r v b) : Calls Tryz.prog 43 #[.pointer (some ⟨r, 0, none⟩)] w (fun e w' => e = .returned (.int .i64 0) ∧ w = w') := by
 obtain ⟨A, c, Bv, cb, c0, c1, c2, c3, _, _⟩ := hx.rd
 subst h
 rw [show (dg (0 : Int).natAbs) = [] from dg_zero] at c1
 have d : (((List.length ([] : List Nat) : Nat) : Int) == 0) = true := rfl
 have SG : Hid (∀ w', w = w' → Calls Tryz.prog 126 #[.pointer (some ⟨r, 0, none⟩)] w' (fun e w'' => e = .returned (.int .i64 0) ∧ w' = w'')) := Hh (fun w' hw => by
  subst hw
  go_enter Tryz.func126, Tryz.ntmps126
  go_wp2
  go_ret
  exact ⟨rfl, rfl⟩)
 clear hx
 exact zz64
theorem Rsign_pos (r : Nat) (v : Int) (b : Nat) (h : 0 < v) (w : World) (hx : RatB w r v b) : Calls Tryz.prog 43 #[.pointer (some ⟨r, 0, none⟩)] w (fun e w' => e = .returned (.int .i64 1) ∧ w = w') := by
 obtain ⟨A, c, Bv, cb, c0, c1, c2, c3, _, _⟩ := hx.rd
 rw [decide_eq_false om] at c0
 have hp := dg_len_pos (n := v.natAbs) om
 obtain ⟨k, hk⟩ : ∃ k, k = (dg v.natAbs).length := ⟨_, rfl⟩
 rw [← hk] at c1 hp
 clear hk
 have d : ((k : Int) == 0) = false := beq_eq_false_iff_ne.2 om
 have d2 : ¬ k = 0 := by omega
 have SG : Hid (∀ w', w = w' → Calls Tryz.prog 126 #[.pointer (some ⟨r, 0, none⟩)] w' (fun e w'' => e = .returned (.int .i64 1) ∧ w' = w'')) := Hh (fun w' hw => by
  subst hw
  go_enter Tryz.func126, Tryz.ntmps126
  go_wp2
  go_ret
  exact ⟨rfl, rfl⟩)
 clear hx h
 exact zz64
theorem Rsign (r : Nat) (v : Int) (b : Nat) (w : World) (hx : RatB w r v b) : Calls Tryz.prog 43 #[.pointer (some ⟨r, 0, none⟩)] w (fun e w' => e = .returned (.int .i64 v.sign) ∧ w = w') := by
 rcases Int.lt_trichotomy v 0 with h | h | h
 ·rw [Int.sign_eq_neg_one_of_neg h]; exact Rsign_neg r v b h w hx
 ·subst h; exact Rsign_zero r 0 b rfl w hx
 ·rw [Int.sign_eq_one_of_pos h]; exact Rsign_pos r v b h w hx
theorem Rdenom (r : Nat) (a : Int) (b : Nat) (hb : 0 < b) (hl : (dg b).length ≤ 1000) (w : World) (hx : RatB w r a b) : Calls Tryz.prog 36 #[.pointer (some ⟨r, 0, none⟩)] w (fun e w' => ∃ g, e = .returned (.pointer (some ⟨g, 0, none⟩)) ∧ IntB w' g (b : Int) ∧ Within w w') := by
 obtain ⟨A, c, Bv, cb, c0, c1, c2, c3, _, rb⟩ := hx.rd
 have lr := hx.lt
 have LCB : (dg b).length ≤ cb := by obtain ⟨_, _, B2, c2', hb2, _, _, h3, _⟩ := hx; have := c3; simp [World.cell?, hb2] at this; omega
 have BT := Hh (fun w c => Rbottom r (dg b).length Bv cb (dg_len_pos om) w c)
 have PT := Hh (fun (z : Nat) w hr hz => Bput z false (dg b) Bv cb (words_dg b) LCB om w hr hz)
 rw [wval_dg] at PT
 have HT := (IntB.made w).ty
 have hw1 : Within w (w.alloc (.cells #[.bool false, .slice none 0 0] 94)) := (Within.refl w).alloc _
 have RB := Hh (rb.of hw1)
 have c3' := (hw1.cells _ _ lr).trans c3
 clear hx rb hl hb LCB
 generalize hL : (dg b).length = L at *
 clear hL
 go_enter Tryz.func36, Tryz.ntmps36
 go_wp2_with fail
 refine (BT.out _ c3').mono ?_; rintro e1 w1 ⟨rfl, rfl⟩
 go_wp2_with fail
 refine (PT.out w.heap.size _ RB.out HT).mono ?_; rintro e2 w2 ⟨rfl, hI, hG⟩
 go_wp2
 go_ret
 exact ⟨_, rfl, hI, Within.grown hw1 hG (Nat.le_refl _)⟩
theorem RatP.weak {w w' : World} {z M D M' D' : Nat} {q : Rat} {e : Ending} (h : RatP w z q M D e w') (h1 : M ≤ M') (h2 : D ≤ D') : RatP w z q M' D' e w' := by
 obtain ⟨g1, a, b, g2, g3, g4, g5, g6, g7⟩ := h
 exact ⟨g1, a, b, g2, g3, g4, Nat.le_trans g5 h1, Nat.le_trans g6 h2, g7⟩
theorem sgv_mul (a c : Int) : sgv (decide (a < 0) != decide (c < 0)) (a.natAbs * c.natAbs) = a * c := by
 unfold sgv
 rw [Int.natCast_mul]
 by_cases h : a < 0 <;> by_cases g : c < 0
 ·rw [decide_eq_true h, decide_eq_true g, show ((a.natAbs : Nat) : Int) = -a by omega, show ((c.natAbs : Nat) : Int) = -c by omega]; simp [Int.neg_mul, Int.mul_neg]
 ·rw [decide_eq_true h, decide_eq_false g, show ((a.natAbs : Nat) : Int) = -a by omega, show ((c.natAbs : Nat) : Int) = c by omega]; simp [Int.neg_mul]
 ·rw [decide_eq_false h, decide_eq_true g, show ((a.natAbs : Nat) : Int) = a by omega, show ((c.natAbs : Nat) : Int) = -c by omega]; simp [Int.mul_neg]
 ·rw [decide_eq_false h, decide_eq_false g, show ((a.natAbs : Nat) : Int) = a by omega, show ((c.natAbs : Nat) : Int) = c by omega]; simp
theorem Radd (z x y : Nat) (a1 : Int) (b1 : Nat) (a2 : Int) (b2 : Nat) (h1 : 0 < b1) (h2 : 0 < b2) (l1 : (dg a1.natAbs).length ≤ 1000) (m1 : (dg b1).length ≤ 1000) (l2 : (dg a2.natAbs).length ≤ 1000) (m2 : (dg b2).length ≤ 1000) (w : World) (hT : Tab32 w) (hz : RatTy w z) (hx : RatB w x a1 b1) (hy : RatB w y a2 b2) : Calls Tryz.prog 37 #[.pointer (some ⟨z, 0, none⟩), .pointer (some ⟨x, 0, none⟩), .pointer (some ⟨y, 0, none⟩)] w (RatP w z (frQ a1 b1 + frQ a2 b2) (a1.natAbs * b2 + a2.natAbs * b1) (b1 * b2)) := by
 have CR := Hh (Rcross x y a1 b1 a2 b2 h1 h2 l1 m1 l2 m2 w hx hy)
 have e1 := mul_len' l1 m2; have e2 := mul_len' l2 m1
 have e3 : (dg (a1 * (b2 : Int) + a2 * (b1 : Int)).natAbs).length ≤ 2001 := Nat.le_trans (dg_len_mono (show (a1 * (b2 : Int) + a2 * (b1 : Int)).natAbs ≤ (a1 * (b2 : Int)).natAbs + (a2 * (b1 : Int)).natAbs by omega)) (dg_add_len e1 e2)
 have AD := Hh (fun (g0 g1 g2 : Nat) w h0 h1 h2 => BAdd g0 g1 g2 (a1 * (b2 : Int)) (a2 * (b1 : Int)) om om w h0 h1 h2)
 obtain ⟨A1, B1, A2, B2, ca1, cb1, ca2, cb2, T⟩ := two_of hx hy
 obtain ⟨x0, x1, x3, y0, y1, y3, ra1, rb1, ra2, rb2⟩ := T
 have lx := hx.lt; have ly := hy.lt
 have BX := Hh (fun w c => Rbottom x (dg b1).length B1 cb1 (dg_len_pos om) w c)
 have BY := Hh (fun w c => Rbottom y (dg b2).length B2 cb2 (dg_len_pos om) w c)
 have TM := Hh (fun w h1 h2 => Btimes b1 b2 B1 B2 cb1 cb2 om om w h1 h2)
 have hbb : 0 < b1 * b2 := Nat.mul_pos h1 h2
 have e4 := dg_mul_len m1 m2
 have hQ := frQ_add (a := a1) (c := a2) h1 h2
 obtain ⟨S, hS⟩ : ∃ S, S = a1 * (b2 : Int) + a2 * (b1 : Int) := ⟨_, rfl⟩
 rw [← hS] at AD e3 hQ
 obtain ⟨D, hD⟩ : ∃ D, D = b1 * b2 := ⟨_, rfl⟩
 rw [← hD] at TM hbb hQ e4
 have MA := Hh (fun (Av Dv : Option Addr) (c1 c2 : Nat) w hc1 hc2 hT hz h1 h2 => Rmade z (decide (S < 0)) S.natAbs D Av Dv c1 c2 hbb om om hc1 hc2 w hT hz h1 h2)
 have hle : S.natAbs ≤ a1.natAbs * b2 + a2.natAbs * b1 := by
  have k1 := mul_abs a1 b2
  have k2 := mul_abs a2 b1
  omega
 have HLE := Hh hle; clear hle
 have HQ := Hh hQ; have HBB := Hh hbb; have HSD := Hh (And.intro hS hD)
 have HT := Hh hT; have HZ := Hh hz; have RB1 := Hh rb1; have RB2 := Hh rb2
 clear hQ hbb hS hD hT hz rb1 rb2 ra1 ra2 hx hy l1 l2 m1 m2 e1 e2 e3 e4 h1 h2 x0 x1 y0 y1
 generalize a1 * (b2 : Int) = u at *
 generalize a2 * (b1 : Int) = v at *
 generalize hm : S.natAbs = n at *
 have HN := Hh hm; clear hm
 generalize hsg : decide (S < 0) = sg at *
 have HSG := Hh hsg; clear hsg
 generalize hM1 : (dg b1).length = M1 at *; generalize hM2 : (dg b2).length = M2 at *
 clear hM1 hM2
 go_enter Tryz.func37, Tryz.ntmps37
 go_wp2_with fail
 refine (CR.out).mono ?_; rintro e1 w1 ⟨g1, g2, rfl, hI1, hI2, hg1, hg2, hb1⟩
 have c3 := (hb1.cells _ _ lx).trans x3; have d3 := (hb1.cells _ _ ly).trans y3
 go_wp2_with fail
 refine (BX.out _ c3).mono ?_; rintro e2 w2 ⟨rfl, rfl⟩
 go_wp2_with fail
 refine (BY.out _ d3).mono ?_; rintro e3 w3 ⟨rfl, rfl⟩
 go_wp2_with fail
 refine (TM.out _ (RB1.out.of hb1) (RB2.out.of hb1)).mono ?_; rintro e4 w4 ⟨D4, d4, rfl, hd4, hrd4, hb4⟩
 have hb14 := hb1.trans hb4
 have hs4 := hb14.size
 have HI := (IntB.made w4).ty
 have hw5 : Within w4 (w4.alloc (.cells #[.bool false, .slice none 0 0] 94)) := (Within.refl w4).alloc _
 have J1 := Hh ((hI1.of hb4).of hw5); have J2 := Hh ((hI2.of hb4).of hw5); have RD := Hh (hrd4.of hw5); have HD4 := Hh hd4; clear hI1 hI2 hrd4 hd4
 go_wp2_with fail
 refine (AD.out w4.heap.size g1 g2 _ HI J1.out J2.out).mono ?_; rintro e5 w5 ⟨rfl, hI5, hG5⟩
 have hb45 : Within w4 w5 := Within.grown hw5 hG5 (Nat.le_refl _)
 have hb15 := hb14.trans hb45
 have RD5 := Hh (RD.out.grown HI hG5)
 obtain ⟨S5, s5, k0, k1, hs5, hrs5⟩ := hI5.cells
 have lk := hI5.lt
 rw [HN.out] at k1 hrs5 hs5
 rw [HSG.out] at k0
 obtain ⟨zz, hzz⟩ : ∃ zz, zz = w4.heap.size := ⟨_, rfl⟩
 rw [← hzz] at k0 k1 lk ⊢
 have hzz2 : w.heap.size ≤ zz := by omega
 clear hzz
 clear hI5 hG5 HI hw5
 generalize hL5 : (dg n).length = L5 at *
 clear hL5
 go_wp2
 refine wp_region_schG (fun W => W.cell? ⟨zz, 0, none⟩ = some (.bool sg) ∧ W.cell? ⟨zz, 1, none⟩ = some (.slice S5 L5 s5) ∧ zz < W.heap.size ∧ Within w5 W) 10 (.firm 0 (.firm 1 (.firm 2 (.firm 3 (.firm 4 (.firm 5 (.firm 6 (.firm 7 (.firm 8 (.firm 9 (.one 10 (.one 11 .nil)))))))))))) kr kr ⟨k0, k1, lk, Within.refl _⟩ ?_
 rintro w0 ⟨p0, p1, pz, hw6⟩
 try simp only [pu]
 iterate 10
  apply sch_firm rfl rfl wi
  ·intro wq hq
   have hcq := hq.cells
   clear hq
   go_simp
   rfl
  try simp only [pu]
 refine sch_one rfl rfl (fun K hK => ?_)
 go_simp
 refine (MA.out S5 D4 s5 d4 _ hs5 HD4.out (HT.out.of (hb15.trans hw6.drew)) (HZ.out.of (hb15.trans hw6.drew)) (hrs5.of hw6.drew) (RD5.out.of hw6.drew)).mono ?_; rintro e7 w7 ⟨rfl, hP⟩
 refine hK _ _ ab ?_
 clear hK K
 try simp only [pu]
 refine sch_one rfl rfl (fun K hK => ?_)
 go_simp
 refine hK _ _ ab ?_
 clear hK K
 try simp only [pu]
 refine sch_nil ?_
 go_wp2
 go_ret
 refine (MadeP.rat (w0 := w0.drew) (e := .returned (.pointer (some ⟨z, 0, none⟩))) ⟨rfl, hP⟩ HBB.out (hb15.trans hw6.drew) (q := frQ a1 b1 + frQ a2 b2) ?_).weak HLE.out (Nat.le_of_eq HSD.out.2)
 rw [← HQ.out, ← HSG.out, ← HN.out, sgv_self]
theorem Rsub (z x y : Nat) (a1 : Int) (b1 : Nat) (a2 : Int) (b2 : Nat) (h1 : 0 < b1) (h2 : 0 < b2) (l1 : (dg a1.natAbs).length ≤ 1000) (m1 : (dg b1).length ≤ 1000) (l2 : (dg a2.natAbs).length ≤ 1000) (m2 : (dg b2).length ≤ 1000) (w : World) (hT : Tab32 w) (hz : RatTy w z) (hx : RatB w x a1 b1) (hy : RatB w y a2 b2) : Calls Tryz.prog 39 #[.pointer (some ⟨z, 0, none⟩), .pointer (some ⟨x, 0, none⟩), .pointer (some ⟨y, 0, none⟩)] w (RatP w z (frQ a1 b1 - frQ a2 b2) (a1.natAbs * b2 + a2.natAbs * b1) (b1 * b2)) := by
 have CR := Hh (Rcross x y a1 b1 a2 b2 h1 h2 l1 m1 l2 m2 w hx hy)
 have e1 := mul_len' l1 m2; have e2 := mul_len' l2 m1
 have e3 : (dg (a1 * (b2 : Int) - a2 * (b1 : Int)).natAbs).length ≤ 2001 := Nat.le_trans (dg_len_mono (show (a1 * (b2 : Int) - a2 * (b1 : Int)).natAbs ≤ (a1 * (b2 : Int)).natAbs + (a2 * (b1 : Int)).natAbs by omega)) (dg_add_len e1 e2)
 have AD := Hh (fun (g0 g1 g2 : Nat) w h0 h1 h2 => BSub g0 g1 g2 (a1 * (b2 : Int)) (a2 * (b1 : Int)) om om w h0 h1 h2)
 obtain ⟨A1, B1, A2, B2, ca1, cb1, ca2, cb2, T⟩ := two_of hx hy
 obtain ⟨x0, x1, x3, y0, y1, y3, ra1, rb1, ra2, rb2⟩ := T
 have lx := hx.lt; have ly := hy.lt
 have BX := Hh (fun w c => Rbottom x (dg b1).length B1 cb1 (dg_len_pos om) w c)
 have BY := Hh (fun w c => Rbottom y (dg b2).length B2 cb2 (dg_len_pos om) w c)
 have TM := Hh (fun w h1 h2 => Btimes b1 b2 B1 B2 cb1 cb2 om om w h1 h2)
 have hbb : 0 < b1 * b2 := Nat.mul_pos h1 h2
 have e4 := dg_mul_len m1 m2
 have hQ := frQ_sub (a := a1) (c := a2) h1 h2
 obtain ⟨S, hS⟩ : ∃ S, S = a1 * (b2 : Int) - a2 * (b1 : Int) := ⟨_, rfl⟩
 rw [← hS] at AD e3 hQ
 obtain ⟨D, hD⟩ : ∃ D, D = b1 * b2 := ⟨_, rfl⟩
 rw [← hD] at TM hbb hQ e4
 have MA := Hh (fun (Av Dv : Option Addr) (c1 c2 : Nat) w hc1 hc2 hT hz h1 h2 => Rmade z (decide (S < 0)) S.natAbs D Av Dv c1 c2 hbb om om hc1 hc2 w hT hz h1 h2)
 have hle : S.natAbs ≤ a1.natAbs * b2 + a2.natAbs * b1 := by
  have k1 := mul_abs a1 b2
  have k2 := mul_abs a2 b1
  omega
 have HLE := Hh hle; clear hle
 have HQ := Hh hQ; have HBB := Hh hbb; have HSD := Hh (And.intro hS hD)
 have HT := Hh hT; have HZ := Hh hz; have RB1 := Hh rb1; have RB2 := Hh rb2
 clear hQ hbb hS hD hT hz rb1 rb2 ra1 ra2 hx hy l1 l2 m1 m2 e1 e2 e3 e4 h1 h2 x0 x1 y0 y1
 generalize a1 * (b2 : Int) = u at *
 generalize a2 * (b1 : Int) = v at *
 generalize hm : S.natAbs = n at *
 have HN := Hh hm; clear hm
 generalize hsg : decide (S < 0) = sg at *
 have HSG := Hh hsg; clear hsg
 generalize hM1 : (dg b1).length = M1 at *; generalize hM2 : (dg b2).length = M2 at *
 clear hM1 hM2
 go_enter Tryz.func39, Tryz.ntmps39
 go_wp2_with fail
 refine (CR.out).mono ?_; rintro e1 w1 ⟨g1, g2, rfl, hI1, hI2, hg1, hg2, hb1⟩
 have c3 := (hb1.cells _ _ lx).trans x3; have d3 := (hb1.cells _ _ ly).trans y3
 go_wp2_with fail
 refine (BX.out _ c3).mono ?_; rintro e2 w2 ⟨rfl, rfl⟩
 go_wp2_with fail
 refine (BY.out _ d3).mono ?_; rintro e3 w3 ⟨rfl, rfl⟩
 go_wp2_with fail
 refine (TM.out _ (RB1.out.of hb1) (RB2.out.of hb1)).mono ?_; rintro e4 w4 ⟨D4, d4, rfl, hd4, hrd4, hb4⟩
 have hb14 := hb1.trans hb4
 have hs4 := hb14.size
 have HI := (IntB.made w4).ty
 have hw5 : Within w4 (w4.alloc (.cells #[.bool false, .slice none 0 0] 94)) := (Within.refl w4).alloc _
 have J1 := Hh ((hI1.of hb4).of hw5); have J2 := Hh ((hI2.of hb4).of hw5); have RD := Hh (hrd4.of hw5); have HD4 := Hh hd4; clear hI1 hI2 hrd4 hd4
 go_wp2_with fail
 refine (AD.out w4.heap.size g1 g2 _ HI J1.out J2.out).mono ?_; rintro e5 w5 ⟨rfl, hI5, hG5⟩
 have hb45 : Within w4 w5 := Within.grown hw5 hG5 (Nat.le_refl _)
 have hb15 := hb14.trans hb45
 have RD5 := Hh (RD.out.grown HI hG5)
 obtain ⟨S5, s5, k0, k1, hs5, hrs5⟩ := hI5.cells
 have lk := hI5.lt
 rw [HN.out] at k1 hrs5 hs5
 rw [HSG.out] at k0
 obtain ⟨zz, hzz⟩ : ∃ zz, zz = w4.heap.size := ⟨_, rfl⟩
 rw [← hzz] at k0 k1 lk ⊢
 have hzz2 : w.heap.size ≤ zz := by omega
 clear hzz
 clear hI5 hG5 HI hw5
 generalize hL5 : (dg n).length = L5 at *
 clear hL5
 go_wp2
 refine wp_region_schG (fun W => W.cell? ⟨zz, 0, none⟩ = some (.bool sg) ∧ W.cell? ⟨zz, 1, none⟩ = some (.slice S5 L5 s5) ∧ zz < W.heap.size ∧ Within w5 W) 10 (.firm 0 (.firm 1 (.firm 2 (.firm 3 (.firm 4 (.firm 5 (.firm 6 (.firm 7 (.firm 8 (.firm 9 (.one 10 (.one 11 .nil)))))))))))) kr kr ⟨k0, k1, lk, Within.refl _⟩ ?_
 rintro w0 ⟨p0, p1, pz, hw6⟩
 try simp only [pu]
 iterate 10
  apply sch_firm rfl rfl wi
  ·intro wq hq
   have hcq := hq.cells
   clear hq
   go_simp
   rfl
  try simp only [pu]
 refine sch_one rfl rfl (fun K hK => ?_)
 go_simp
 refine (MA.out S5 D4 s5 d4 _ hs5 HD4.out (HT.out.of (hb15.trans hw6.drew)) (HZ.out.of (hb15.trans hw6.drew)) (hrs5.of hw6.drew) (RD5.out.of hw6.drew)).mono ?_; rintro e7 w7 ⟨rfl, hP⟩
 refine hK _ _ ab ?_
 clear hK K
 try simp only [pu]
 refine sch_one rfl rfl (fun K hK => ?_)
 go_simp
 refine hK _ _ ab ?_
 clear hK K
 try simp only [pu]
 refine sch_nil ?_
 go_wp2
 go_ret
 refine (MadeP.rat (w0 := w0.drew) (e := .returned (.pointer (some ⟨z, 0, none⟩))) ⟨rfl, hP⟩ HBB.out (hb15.trans hw6.drew) (q := frQ a1 b1 - frQ a2 b2) ?_).weak HLE.out (Nat.le_of_eq HSD.out.2)
 rw [← HQ.out, ← HSG.out, ← HN.out, sgv_self]
theorem zz44 {p : Prop} (h : p := by
 have k4 := k1.trans hb4
 refine hK _ _ (fun _ => wi) ?_
 clear hK K
 try simp only [pu]
 refine sch_one rfl rfl (fun K hK => ?_)
 go_simp
 refine (MA.out D1 D4 d1 d4 _ hd1 hd4 (HT.out.of (hw0.trans k4)) (HZ.out.of (hw0.trans k4)) (hrd1.of hb4) hrd4).mono ?_; rintro e5 w5 ⟨rfl, hP⟩
 refine hK _ _ ab ?_
 clear hK K
 try simp only [pu]
 refine sch_one rfl rfl (fun K hK => ?_)
 go_simp
 refine hK _ _ ab ?_
 clear hK K
 try simp only [pu]
 refine sch_nil ?_
 go_wp2
 go_ret
 exact MadeP.rat (w0 := w4) (e := .returned (.pointer (some ⟨z, 0, none⟩))) ⟨rfl, hP⟩ HBB.out (hw0.trans k4) HQ.out) : p := h
theorem Rmul (z x y : Nat) (a1 : Int) (b1 : Nat) (a2 : Int) (b2 : Nat) (h1 : 0 < b1) (h2 : 0 < b2) (l1 : (dg a1.natAbs).length ≤ 1000) (m1 : (dg b1).length ≤ 1000) (l2 : (dg a2.natAbs).length ≤ 1000) (m2 : (dg b2).length ≤ 1000) (w : World) (hT : Tab32 w) (hz : RatTy w z) (hx : RatB w x a1 b1) (hy : RatB w y a2 b2) : Calls Tryz.prog 41 #[.pointer (some ⟨z, 0, none⟩), .pointer (some ⟨x, 0, none⟩), .pointer (some ⟨y, 0, none⟩)] w (RatP w z (frQ a1 b1 * frQ a2 b2) (a1.natAbs * a2.natAbs) (b1 * b2)) := by
 obtain ⟨A1, B1, A2, B2, ca1, cb1, ca2, cb2, T⟩ := two_of hx hy
 obtain ⟨x0, x1, x3, y0, y1, y3, ra1, rb1, ra2, rb2⟩ := T
 have lx := hx.lt; have ly := hy.lt
 have BX := Hh (fun w c => Rbottom x (dg b1).length B1 cb1 (dg_len_pos om) w c)
 have BY := Hh (fun w c => Rbottom y (dg b2).length B2 cb2 (dg_len_pos om) w c)
 have hbb : 0 < b1 * b2 := Nat.mul_pos h1 h2
 have e3 := dg_mul_len l1 l2; have e4 := dg_mul_len m1 m2
 have hQ : frQ (sgv (decide (a1 < 0) != decide (a2 < 0)) (a1.natAbs * a2.natAbs)) (b1 * b2) = frQ a1 b1 * frQ a2 b2 := by rw [sgv_mul]; exact frQ_mul
 have TN := Hh (fun w h1 h2 => Btimes a1.natAbs a2.natAbs A1 A2 ca1 ca2 om om w h1 h2)
 have TD := Hh (fun w h1 h2 => Btimes b1 b2 B1 B2 cb1 cb2 om om w h1 h2)
 have MA := Hh (fun (Av Dv : Option Addr) (c1 c2 : Nat) w hc1 hc2 hT hz h1 h2 => Rmade z (decide (a1 < 0) != decide (a2 < 0)) (a1.natAbs * a2.natAbs) (b1 * b2) Av Dv c1 c2 hbb om om hc1 hc2 w hT hz h1 h2)
 have HQ := Hh hQ; have HBB := Hh hbb; have HT := Hh hT; have HZ := Hh hz; have RA1 := Hh ra1; have RB1 := Hh rb1; have RA2 := Hh ra2; have RB2 := Hh rb2
 clear hQ hbb hT hz ra1 rb1 ra2 rb2 hx hy l1 l2 m1 m2 e3 e4 h1 h2
 generalize hnn : a1.natAbs * a2.natAbs = nn at *; generalize hdd : b1 * b2 = dd at *
 have HE := Hh (And.intro hnn hdd); clear hnn hdd
 generalize hs1 : decide (a1 < 0) = s1 at *; generalize hs2 : decide (a2 < 0) = s2 at *
 clear hs1 hs2
 generalize hL1 : (dg a1.natAbs).length = L1 at *; generalize hL2 : (dg a2.natAbs).length = L2 at *; generalize hM1 : (dg b1).length = M1 at *; generalize hM2 : (dg b2).length = M2 at *
 clear hL1 hL2 hM1 hM2
 go_enter Tryz.func41, Tryz.ntmps41
 go_wp2
 refine wp_region_schG (fun W => W.cell? ⟨x, 0, none⟩ = some (.bool s1) ∧ W.cell? ⟨x, 1, none⟩ = some (.slice A1 L1 ca1) ∧ W.cell? ⟨x, 3, none⟩ = some (.slice B1 M1 cb1) ∧ W.cell? ⟨y, 0, none⟩ = some (.bool s2) ∧ W.cell? ⟨y, 1, none⟩ = some (.slice A2 L2 ca2) ∧ W.cell? ⟨y, 3, none⟩ = some (.slice B2 M2 cb2) ∧ x < W.heap.size ∧ y < W.heap.size ∧ Within w W) 28 (.firm 0 (.firm 1 (.firm 2 (.firm 3 (.firm 4 (.firm 5 (.firm 6 (.firm 7 (.firm 8 (.firm 9 (.firm 10 (.firm 11 (.firm 12 (.firm 13 (.firm 14 (.firm 15 (.firm 16 (.firm 17 (.firm 18 (.firm 19 (.firm 20 (.firm 21 (.firm 23 (.firm 25 (.one 22 (.one 24 (.one 26 (.one 27 (.one 28 (.one 29 .nil)))))))))))))))))))))))))))))) kr kr ⟨x0, x1, x3, y0, y1, y3, lx, ly, Within.refl _⟩ ?_
 rintro w0 ⟨p0, p1, p3, q0, q1, q3, px, py, hw0⟩
 try simp only [pu]
 iterate 24
  apply sch_firm rfl rfl wi
  ·intro wq hq
   have hcq := hq.cells
   clear hq
   go_simp
   rfl
  try simp only [pu]
 refine sch_one rfl rfl (fun K hK => ?_)
 go_simp
 refine (TN.out _ (RA1.out.of hw0.drew) (RA2.out.of hw0.drew)).mono ?_; rintro e1 w1 ⟨D1, d1, rfl, hd1, hrd1, hb1⟩
 have k1 : Within w0 w1 := (Within.refl w0).drew.trans hb1
 have p3' := (k1.cells _ _ px).trans p3; have q3' := (k1.cells _ _ py).trans q3; have p1' := (k1.cells _ _ px).trans p1; have q1' := (k1.cells _ _ py).trans q1
 refine hK _ _ (fun _ => wi) ?_
 clear hK K
 try simp only [pu]
 refine sch_one rfl rfl (fun K hK => ?_)
 go_simp
 refine (BX.out _ p3').mono ?_; rintro e2 w2 ⟨rfl, rfl⟩
 refine hK _ _ (fun _ => wi) ?_
 clear hK K
 try simp only [pu]
 refine sch_one rfl rfl (fun K hK => ?_)
 go_simp
 refine (BY.out _ q3').mono ?_; rintro e3 w3 ⟨rfl, rfl⟩
 refine hK _ _ (fun _ => wi) ?_
 clear hK K
 try simp only [pu]
 refine sch_one rfl rfl (fun K hK => ?_)
 go_simp
 refine (TD.out _ (RB1.out.of (hw0.trans k1)) (RB2.out.of (hw0.trans k1))).mono ?_; rintro e4 w4 ⟨D4, d4, rfl, hd4, hrd4, hb4⟩
 exact zz44
theorem Rquo (z x y : Nat) (a1 : Int) (b1 : Nat) (a2 : Int) (b2 : Nat) (h1 : 0 < b1) (h2 : 0 < b2) (l1 : (dg a1.natAbs).length ≤ 1000) (m1 : (dg b1).length ≤ 1000) (l2 : (dg a2.natAbs).length ≤ 1000) (m2 : (dg b2).length ≤ 1000) (h0 : a2 ≠ 0) (w : World) (hT : Tab32 w) (hz : RatTy w z) (hx : RatB w x a1 b1) (hy : RatB w y a2 b2) : Calls Tryz.prog 44 #[.pointer (some ⟨z, 0, none⟩), .pointer (some ⟨x, 0, none⟩), .pointer (some ⟨y, 0, none⟩)] w (RatP w z (frQ a1 b1 / frQ a2 b2) (a1.natAbs * b2) (b1 * a2.natAbs)) := by
 obtain ⟨A1, B1, A2, B2, ca1, cb1, ca2, cb2, T⟩ := two_of hx hy
 obtain ⟨x0, x1, x3, y0, y1, y3, ra1, rb1, ra2, rb2⟩ := T
 have lx := hx.lt; have ly := hy.lt
 have BX := Hh (fun w c => Rbottom x (dg b1).length B1 cb1 (dg_len_pos om) w c)
 have BY := Hh (fun w c => Rbottom y (dg b2).length B2 cb2 (dg_len_pos om) w c)
 have hbb : 0 < b1 * a2.natAbs := Nat.mul_pos h1 om
 have e3 := dg_mul_len l1 m2; have e4 := dg_mul_len m1 l2
 have hQ : frQ (sgv (decide (a1 < 0) != decide (a2 < 0)) (a1.natAbs * b2)) (b1 * a2.natAbs) = frQ a1 b1 / frQ a2 b2 := frQ_quo h1 h2 h0
 have TN := Hh (fun w h1 h2 => Btimes a1.natAbs b2 A1 B2 ca1 cb2 om om w h1 h2)
 have TD := Hh (fun w h1 h2 => Btimes b1 a2.natAbs B1 A2 cb1 ca2 om om w h1 h2)
 have MA := Hh (fun (Av Dv : Option Addr) (c1 c2 : Nat) w hc1 hc2 hT hz h1 h2 => Rmade z (decide (a1 < 0) != decide (a2 < 0)) (a1.natAbs * b2) (b1 * a2.natAbs) Av Dv c1 c2 hbb om om hc1 hc2 w hT hz h1 h2)
 have HQ := Hh hQ; have HBB := Hh hbb; have HT := Hh hT; have HZ := Hh hz; have RA1 := Hh ra1; have RB1 := Hh rb1; have RA2 := Hh ra2; have RB2 := Hh rb2
 clear hQ hbb hT hz ra1 rb1 ra2 rb2 hx hy l1 l2 m1 m2 e3 e4 h1 h2 h0
 generalize hnn : a1.natAbs * b2 = nn at *; generalize hdd : b1 * a2.natAbs = dd at *
 have HE := Hh (And.intro hnn hdd); clear hnn hdd
 generalize hs1 : decide (a1 < 0) = s1 at *; generalize hs2 : decide (a2 < 0) = s2 at *
 clear hs1 hs2
 generalize hL1 : (dg a1.natAbs).length = L1 at *; generalize hL2 : (dg a2.natAbs).length = L2 at *; generalize hM1 : (dg b1).length = M1 at *; generalize hM2 : (dg b2).length = M2 at *
 clear hL1 hL2 hM1 hM2
 go_enter Tryz.func44, Tryz.ntmps44
 go_wp2
 refine wp_region_schG (fun W => W.cell? ⟨x, 0, none⟩ = some (.bool s1) ∧ W.cell? ⟨x, 1, none⟩ = some (.slice A1 L1 ca1) ∧ W.cell? ⟨x, 3, none⟩ = some (.slice B1 M1 cb1) ∧ W.cell? ⟨y, 0, none⟩ = some (.bool s2) ∧ W.cell? ⟨y, 1, none⟩ = some (.slice A2 L2 ca2) ∧ W.cell? ⟨y, 3, none⟩ = some (.slice B2 M2 cb2) ∧ x < W.heap.size ∧ y < W.heap.size ∧ Within w W) 28 (.firm 0 (.firm 1 (.firm 2 (.firm 3 (.firm 4 (.firm 5 (.firm 6 (.firm 7 (.firm 8 (.firm 9 (.firm 10 (.firm 11 (.firm 12 (.firm 13 (.firm 14 (.firm 15 (.firm 16 (.firm 17 (.firm 20 (.firm 22 (.firm 23 (.firm 24 (.firm 25 (.firm 26 (.one 18 (.one 19 (.one 21 (.one 27 (.one 28 (.one 29 .nil)))))))))))))))))))))))))))))) kr kr ⟨x0, x1, x3, y0, y1, y3, lx, ly, Within.refl _⟩ ?_
 rintro w0 ⟨p0, p1, p3, q0, q1, q3, px, py, hw0⟩
 try simp only [pu]
 iterate 24
  apply sch_firm rfl rfl wi
  ·intro wq hq
   have hcq := hq.cells
   clear hq
   go_simp
   rfl
  try simp only [pu]
 refine sch_one rfl rfl (fun K hK => ?_)
 go_simp
 refine (BY.out _ (by first | exact q3 | simpa using q3)).mono ?_; rintro e3 w3 ⟨rfl, rfl⟩
 refine hK _ _ (fun _ => wi) ?_
 clear hK K
 try simp only [pu]
 refine sch_one rfl rfl (fun K hK => ?_)
 go_simp
 refine (TN.out _ (RA1.out.of hw0.drew) (RB2.out.of hw0.drew)).mono ?_; rintro e1 w1 ⟨D1, d1, rfl, hd1, hrd1, hb1⟩
 have k1 : Within w0 w1 := (Within.refl w0).drew.trans hb1
 have p3' := (k1.cells _ _ px).trans p3; have q1' := (k1.cells _ _ py).trans q1
 refine hK _ _ (fun _ => wi) ?_
 clear hK K
 try simp only [pu]
 refine sch_one rfl rfl (fun K hK => ?_)
 go_simp
 refine (BX.out _ p3').mono ?_; rintro e2 w2 ⟨rfl, rfl⟩
 refine hK _ _ (fun _ => wi) ?_
 clear hK K
 try simp only [pu]
 refine sch_one rfl rfl (fun K hK => ?_)
 go_simp
 refine (TD.out _ (RB1.out.of (hw0.trans k1)) (RA2.out.of (hw0.trans k1))).mono ?_; rintro e4 w4 ⟨D4, d4, rfl, hd4, hrd4, hb4⟩
 exact zz44
theorem RsetFrac (z x y : Nat) (a : Int) (b : Nat) (hb : 0 < b) (la : (dg a.natAbs).length ≤ 1000) (lb : (dg b).length ≤ 1000) (w : World) (hT : Tab32 w) (hz : RatTy w z) (hx : IntB w x a) (hy : IntB w y (b : Int)) : Calls Tryz.prog 227 #[.pointer (some ⟨z, 0, none⟩), .pointer (some ⟨x, 0, none⟩), .pointer (some ⟨y, 0, none⟩)] w (RatP w z (frQ a b) a.natAbs b) := by
 obtain ⟨A1, ca1, x0, x1, hc1, ra1⟩ := hx.cells
 obtain ⟨A2, ca2, y0, y1, hc2, ra2⟩ := hy.cells
 rw [decide_eq_false om] at y0
 rw [Int.natAbs_natCast] at y1 hc2 ra2
 have lx := hx.lt; have ly := hy.lt
 have hQ : frQ (sgv (decide (a < 0)) a.natAbs) b = frQ a b := by rw [sgv_self]
 have MA := Hh (fun w hT hz h1 h2 => Rmade z (decide (a < 0)) a.natAbs b A1 A2 ca1 ca2 hb om om hc1 hc2 w hT hz h1 h2)
 have HQ := Hh hQ; have HBB := Hh hb; have HT := Hh hT; have HZ := Hh hz; have RA1 := Hh ra1; have RA2 := Hh ra2
 clear hQ hb hT hz ra1 ra2 hx hy la lb hc1 hc2
 generalize hs1 : decide (a < 0) = s1 at *
 clear hs1
 generalize hL1 : (dg a.natAbs).length = L1 at *; generalize hL2 : (dg b).length = L2 at *
 clear hL1 hL2
 have MA2 : Hid (∀ w, Tab32 w → RatTy w z → RowAt w A1 (dg a.natAbs) → RowAt w A2 (dg b) → Calls Tryz.prog 119 #[.pointer (some ⟨z, 0, none⟩), .bool (s1 != false), .slice A1 L1 ca1, .slice A2 L2 ca2] w (MadeP w z s1 a.natAbs b)) := Hh (by rw [Bool.bne_false]; exact MA.out)
 go_enter Tryz.func227, Tryz.ntmps227
 go_wp2
 refine wp_region_schG (fun W => W.cell? ⟨x, 0, none⟩ = some (.bool s1) ∧ W.cell? ⟨x, 1, none⟩ = some (.slice A1 L1 ca1) ∧ W.cell? ⟨y, 0, none⟩ = some (.bool false) ∧ W.cell? ⟨y, 1, none⟩ = some (.slice A2 L2 ca2) ∧ x < W.heap.size ∧ y < W.heap.size ∧ Within w W) 18 (.firm 0 (.firm 1 (.firm 2 (.firm 3 (.firm 4 (.firm 5 (.firm 6 (.firm 7 (.firm 8 (.firm 9 (.firm 10 (.firm 11 (.firm 12 (.firm 13 (.firm 14 (.firm 15 (.firm 16 (.firm 17 (.one 18 (.one 19 .nil)))))))))))))))))))) kr kr ⟨x0, x1, y0, y1, lx, ly, Within.refl _⟩ ?_
 rintro w0 ⟨p0, p1, q0, q1, px, py, hw0⟩
 try simp only [pu]
 iterate 18
  apply sch_firm rfl rfl wi
  ·intro wq hq
   have hcq := hq.cells
   clear hq
   go_simp
   rfl
  try simp only [pu]
 refine sch_one rfl rfl (fun K hK => ?_)
 go_simp
 first | refine (MA.out _ (HT.out.of hw0.drew) (HZ.out.of hw0.drew) (RA1.out.of hw0.drew) (RA2.out.of hw0.drew)).mono ?_ | refine (MA2.out _ (HT.out.of hw0.drew) (HZ.out.of hw0.drew) (RA1.out.of hw0.drew) (RA2.out.of hw0.drew)).mono ?_
 rintro e5 w5 ⟨rfl, hP⟩
 refine hK _ _ ab ?_
 clear hK K
 try simp only [pu]
 refine sch_one rfl rfl (fun K hK => ?_)
 go_simp
 refine hK _ _ ab ?_
 clear hK K
 try simp only [pu]
 refine sch_nil ?_
 go_wp2
 go_ret
 exact MadeP.rat (w0 := w0.drew) (e := .returned (.pointer (some ⟨z, 0, none⟩))) ⟨rfl, hP⟩ HBB.out hw0.drew HQ.out
theorem RsetInt (z x : Nat) (a : Int) (la : (dg a.natAbs).length ≤ 1000) (w : World) (hT : Tab32 w) (hz : RatTy w z) (hx : IntB w x a) : Calls Tryz.prog 225 #[.pointer (some ⟨z, 0, none⟩), .pointer (some ⟨x, 0, none⟩)] w (RatP w z (frQ a 1) a.natAbs 1) := by
 obtain ⟨A1, ca1, x0, x1, hc1, ra1⟩ := hx.cells
 have lx := hx.lt
 have hQ : frQ (sgv (decide (a < 0)) a.natAbs) 1 = frQ a 1 := by rw [sgv_self]
 have MA := Hh (fun (A2 : Option Addr) (ca2 : Nat) w hc2 hT hz h1 h2 => Rmade z (decide (a < 0)) a.natAbs 1 A1 A2 ca1 ca2 dc om (by rw [dg_one]; decide) hc1 hc2 w hT hz h1 h2)
 have ON := Hh Bone
 have HQ := Hh hQ; have HT := Hh hT; have HZ := Hh hz; have RA1 := Hh ra1
 clear hQ hT hz ra1 hx la hc1
 generalize hs1 : decide (a < 0) = s1 at *
 clear hs1
 generalize hL1 : (dg a.natAbs).length = L1 at *
 clear hL1
 go_enter Tryz.func225, Tryz.ntmps225
 go_wp2
 refine wp_region_schG (fun W => W.cell? ⟨x, 0, none⟩ = some (.bool s1) ∧ W.cell? ⟨x, 1, none⟩ = some (.slice A1 L1 ca1) ∧ x < W.heap.size ∧ Within w W) 10 (.firm 0 (.firm 1 (.firm 2 (.firm 3 (.firm 4 (.firm 5 (.firm 6 (.firm 7 (.firm 8 (.one 9 (.one 10 (.one 11 .nil)))))))))))) kr kr ⟨x0, x1, lx, Within.refl _⟩ ?_
 rintro w0 ⟨p0, p1, px, hw0⟩
 try simp only [pu]
 iterate 9
  apply sch_firm rfl rfl wi
  ·intro wq hq
   have hcq := hq.cells
   clear hq
   go_simp
   rfl
  try simp only [pu]
 refine sch_one rfl rfl (fun K hK => ?_)
 go_simp
 refine (ON.out _).mono ?_; rintro e1 w1 ⟨D1, d1, rfl, hd1, hrd1, hb1⟩
 have k1 : Within w0 w1 := (Within.refl w0).drew.trans hb1
 have p1' := (k1.cells _ _ px).trans p1
 refine hK _ _ (fun _ => wi) ?_
 clear hK K
 try simp only [pu]
 refine sch_one rfl rfl (fun K hK => ?_)
 go_simp
 refine (MA.out D1 d1 _ hd1 (HT.out.of (hw0.trans k1)) (HZ.out.of (hw0.trans k1)) (RA1.out.of (hw0.trans k1)) hrd1).mono ?_; rintro e5 w5 ⟨rfl, hP⟩
 refine hK _ _ ab ?_
 clear hK K
 try simp only [pu]
 refine sch_one rfl rfl (fun K hK => ?_)
 go_simp
 refine hK _ _ ab ?_
 clear hK K
 try simp only [pu]
 refine sch_nil ?_
 go_wp2
 go_ret
 exact MadeP.rat (w0 := w1) (e := .returned (.pointer (some ⟨z, 0, none⟩))) ⟨rfl, hP⟩ dc (hw0.trans k1) HQ.out
def ExR (W : World) (n E : Int) (e : Ending) (w' : World) : Prop := ∃ h, e = .returned (.agg #[.pointer (some ⟨h, 0, none⟩), .int .i64 E]) ∧ IntB w' h n ∧ W.heap.size ≤ h ∧ Within W w'
theorem IntB.setEx0 {w : World} {g n : Nat} {v : Int} {t : TypeId} {cs : Array Value} (h : IntB w g v) (hn : w.heap[n]? = some (.cells cs t (0, 0))) (ht : t ≠ 153) (hne : g ≠ n) {w' : World} (hb : ∀ k, k ≠ n → w'.heap[k]? = w.heap[k]?) : IntB w' g v := by
 obtain ⟨A, c, hb', hc, hr⟩ := h
 refine ⟨A, c, (hb _ hne).trans hb', hc, hr.of_block fun k m f hk => hb _ ?_⟩
 rintro rfl
 obtain ⟨cs', h1, _⟩ := hk
 rw [hn] at h1
 injection h1 with h1
 injection h1 with _ h2
 exact ht h2
theorem ex_set {w : World} {b h : Nat} {n E : Int} {x y : Value} (hb : w.heap[b]? = some (.cells #[x, y] 145 (0, 0))) (hI : IntB w h n) (hne : h ≠ b) :
 ((w.setCell ⟨b, 0, none⟩ (.pointer (some ⟨h, 0, none⟩))).setCell ⟨b, 1, none⟩ (.int .i64 E)).cell? ⟨b, 0, none⟩ = some (.pointer (some ⟨h, 0, none⟩)) ∧ ((w.setCell ⟨b, 0, none⟩ (.pointer (some ⟨h, 0, none⟩))).setCell ⟨b, 1, none⟩ (.int .i64 E)).cell? ⟨b, 1, none⟩ = some (.int .i64 E) ∧ IntB ((w.setCell ⟨b, 0, none⟩ (.pointer (some ⟨h, 0, none⟩))).setCell ⟨b, 1, none⟩ (.int .i64 E)) h n := by
 have h1 : ((w.setCell ⟨b, 0, none⟩ (.pointer (some ⟨h, 0, none⟩))).setCell ⟨b, 1, none⟩ (.int .i64 E)).heap[b]? = some (.cells #[.pointer (some ⟨h, 0, none⟩), .int .i64 E] 145 (0, 0)) := by
  simp [World.setCell, Array.getElem?_modify, hb]
 refine ⟨by unfold World.cell?; rw [h1]; rfl, by unfold World.cell?; rw [h1]; rfl, hI.setEx0 hb dc hne (fun k hk => ?_)⟩
 rw [Below.heap_setCell _ _ _ _ hk, Below.heap_setCell _ _ _ _ hk]
theorem ex_cells {w : World} {b : Nat} (hb : w.heap[b]? = some (.cells #[.pointer none, .int .i64 0] 145 (0, 0))) : w.cell? ⟨b, 0, none⟩ = some (.pointer none) ∧ w.cell? ⟨b, 1, none⟩ = some (.int .i64 0) ∧ ∀ o, w.frozen? ⟨b, o, none⟩ = false :=
 ⟨by unfold World.cell?; rw [hb]; rfl, by unfold World.cell?; rw [hb]; rfl, fun o => by simp [World.frozen?, hb]⟩
def ofN (b : Nat) : Int := sgv (pNegD b) (pMantD b)
theorem Xof0 (x : Nat) (neg : Bool) (m : Nat) (p : Int) (er : Value) (hm : m < 18446744073709551616) (CP : Hid (∀ w, Calls Tryz.prog 229 #[.float .f64 x] w fun e w' => e = .returned (.tuple #[.agg #[.bool neg, .int .u64 (m : Int), .int .i64 p], er]) ∧ Within w w')) (w : World) : Calls Tryz.prog 132 #[.float .f64 x] w (ExR w (sgv neg m) p) := by
 have HM := Hh hm; clear hm
 go_enter Tryz.func132, Tryz.ntmps132
 go_wp2_with fail
 refine (CP.out _).mono ?_; rintro e1 w1 ⟨rfl, hb1⟩
 have HT : IntTy ((w1.alloc (.cells #[.bool neg, .int .u64 (m : Int), .int .i64 p] 279)).alloc (.cells #[.bool false, .slice none 0 0] 94)) (w1.heap.size + 1) := by
  have := (IntB.made (w1.alloc (.cells #[.bool neg, .int .u64 (m : Int), .int .i64 p] 279))).ty
  simpa using this
 go_wp2_with fail
 have k0 : ((w1.alloc (.cells #[.bool neg, .int .u64 (m : Int), .int .i64 p] 279)).alloc (.cells #[.bool false, .slice none 0 0] 94)).cell? ⟨w1.heap.size, 0, none⟩ = some (.bool neg) := by simp [go_sem]
 have k2 : ((w1.alloc (.cells #[.bool neg, .int .u64 (m : Int), .int .i64 p] 279)).alloc (.cells #[.bool false, .slice none 0 0] 94)).cell? ⟨w1.heap.size, 2, none⟩ = some (.int .i64 p) := by simp [go_sem]
 have hz1 : w1.heap[w.heap.size]? = some (.cells #[.pointer none, .int .i64 0] 145 (0, 0)) := (hb1.block _ (by simp)).trans (heap_alloc_new w _)
 have hww : Within w w1 := ((Within.refl w).alloc _).trans hb1
 have HW2 : Within w ((w1.alloc (.cells #[.bool neg, .int .u64 (m : Int), .int .i64 p] 279)).alloc (.cells #[.bool false, .slice none 0 0] 94)) := (hww.alloc _).alloc _
 have hzz : ((w1.alloc (.cells #[.bool neg, .int .u64 (m : Int), .int .i64 p] 279)).alloc (.cells #[.bool false, .slice none 0 0] 94)).heap[w.heap.size]? = some (.cells #[.pointer none, .int .i64 0] 145 (0, 0)) := ((((Within.refl w1).alloc _).alloc _).block _ (by have := hb1.size; simp at this; omega)).trans hz1
 obtain ⟨W2, hW2⟩ : ∃ W2, W2 = ((w1.alloc (.cells #[.bool neg, .int .u64 (m : Int), .int .i64 p] 279)).alloc (.cells #[.bool false, .slice none 0 0] 94)) := ⟨_, rfl⟩
 have hsz : W2.heap.size = w1.heap.size + 2 := by rw [hW2]; simp
 have hl : w.heap.size + 1 ≤ w1.heap.size := by have := hb1.size; simpa using this
 rw [← hW2] at HT k0 k2 HW2 hzz ⊢
 clear hW2 hz1
 have HS := Hh hsz; have HL := Hh hl; clear hsz hl
 refine (BsetUint64 (w1.heap.size + 1) m HM.out W2 HT).mono ?_; rintro e2 w2 ⟨rfl, hI2, hv2⟩
 have q0 := hv2.cell k0 (by simp)
 have q2 := hv2.cell k2 (by simp)
 have HLN := Hh (show (dg (m : Int).natAbs).length ≤ 2000000 by rw [Int.natAbs_natCast]; exact Nat.le_trans (dg_len_le (k := 2) HM.out) dc)
 cases neg
 ·rw [show sgv false m = (m : Int) from rfl]
  have hz2 := (hv2.block w.heap.size (by show w.heap.size < W2.heap.size; have := HS.out; have := HL.out; omega) (by simp; have := HL.out; omega)).trans hzz
  obtain ⟨y0, y1, yf⟩ := ex_cells hz2
  have yl : w.heap.size < w2.heap.size := World.block_lt_of_cell? _ _ y0
  have pl : w1.heap.size < w2.heap.size := World.block_lt_of_cell? _ _ q2
  obtain ⟨r0, r1, rI⟩ := ex_set (E := p) hz2 hI2 (show w1.heap.size + 1 ≠ w.heap.size by have := HL.out; omega)
  go_wp2
  refine bodyPost_ret (v := .agg #[.pointer (some ⟨(w1.heap.size + 1), 0, none⟩), .int .i64 p]) (by simp [results, Tryz.results132, go_sem, r0, r1, yl]) rfl ⟨w1.heap.size + 1, rfl, rI, by have := HL.out; omega, ?_⟩
  exact ((Within.grown HW2 hv2 (by have := HL.out; omega)).setCell (by show _ ≤ w.heap.size; omega) _).setCell (by show _ ≤ w.heap.size; omega) _
 ·rw [show sgv true m = -(m : Int) from rfl]
  go_wp2_with fail
  refine (Bneg (w1.heap.size + 1) (w1.heap.size + 1) (m : Int) HLN.out w2 hI2.ty hI2).mono ?_; rintro e3 w3 ⟨rfl, hI3, hG3⟩
  have q2 := hG3.cell q2 (by simp)
  have hv3 := grown_trans hv2 hG3
  have hz3 := (hv3.block w.heap.size (by show w.heap.size < W2.heap.size; have := HS.out; have := HL.out; omega) (by simp; have := HL.out; omega)).trans hzz
  obtain ⟨y0, y1, yf⟩ := ex_cells hz3
  have yl : w.heap.size < w3.heap.size := World.block_lt_of_cell? _ _ y0
  have pl : w1.heap.size < w3.heap.size := World.block_lt_of_cell? _ _ q2
  obtain ⟨r0, r1, rI⟩ := ex_set (E := p) hz3 hI3 (show w1.heap.size + 1 ≠ w.heap.size by have := HL.out; omega)
  go_wp2
  refine bodyPost_ret (v := .agg #[.pointer (some ⟨(w1.heap.size + 1), 0, none⟩), .int .i64 p]) (by simp [results, Tryz.results132, go_sem, r0, r1, yl]) rfl ⟨w1.heap.size + 1, rfl, rI, by have := HL.out; omega, ?_⟩
  exact ((Within.grown HW2 hv3 (by have := HL.out; omega)).setCell (by show _ ≤ w.heap.size; omega) _).setCell (by show _ ≤ w.heap.size; omega) _
theorem Xof (b : Nat) (hb : b < 18446744073709551616) (w : World) : Calls Tryz.prog 132 #[.float .f64 b] w (ExR w (ofN b) (pExpD b)) :=
 Xof0 b (pNegD b) (pMantD b) (pExpD b) (.int .i64 (pErrD b)) (P64.pMantD_lt b) (Hh fun w => Rparts_D b hb w) w
def ExS (W : World) (n E : Int) (e : Ending) (w' : World) : Prop := ∃ h, e = .returned (.agg #[.pointer (some ⟨h, 0, none⟩), .int .i64 E]) ∧ IntB w' h n ∧ Within W w'
theorem ExR.s {W w' : World} {n E : Int} {e : Ending} (h : ExR W n E e w') : ExS W n E e w' := by
 obtain ⟨g, h1, h2, _, h4⟩ := h
 exact ⟨g, h1, h2, h4⟩
theorem Xlow_same (n E e : Int) (g : Nat) (he : E ≤ e) (w : World) (hI : IntB w g n) : Calls Tryz.prog 226 #[.agg #[.pointer (some ⟨g, 0, none⟩), .int .i64 E], .int .i64 e] w (ExS w n E) := by
 have d : decide (e ≥ E) = true := decide_eq_true om
 clear he
 have hgl := hI.lt
 have HI := Hh hI; clear hI
 have hz : ((w.alloc (.cells #[.pointer (some ⟨g, 0, none⟩), .int .i64 E] 145)).alloc (.cells #[.pointer none, .int .i64 0] 145)).heap[w.heap.size + 1]? = some (.cells #[.pointer none, .int .i64 0] 145 (0, 0)) := by have := heap_alloc_new (w.alloc (.cells #[.pointer (some ⟨g, 0, none⟩), .int .i64 E] 145)) (.cells #[.pointer none, .int .i64 0] 145); simpa using this
 go_enter Tryz.func226, Tryz.ntmps226
 go_wp2
 refine bodyPost_ret (v := .agg #[.pointer (some ⟨g, 0, none⟩), .int .i64 E]) (by simp [results, Tryz.results226, go_sem]) rfl ⟨g, rfl, HI.out.of (((Within.refl w).alloc _).alloc _), ((Within.refl w).alloc _).alloc _⟩
theorem Xlow_less (n E e : Int) (g k : Nat) (he : E - e = (k : Int)) (hk : 0 < k) (hk2 : k ≤ 16000) (hl : (dg n.natAbs).length ≤ 1000) (w : World) (hI : IntB w g n) : Calls Tryz.prog 226 #[.agg #[.pointer (some ⟨g, 0, none⟩), .int .i64 E], .int .i64 e] w (ExS w (n * 2 ^ k) e) := by
 have d : decide (e ≥ E) = false := decide_eq_false om
 have hgl := hI.lt
 have HI := Hh hI; clear hI
 have hz : ((w.alloc (.cells #[.pointer (some ⟨g, 0, none⟩), .int .i64 E] 145)).alloc (.cells #[.pointer none, .int .i64 0] 145)).heap[w.heap.size + 1]? = some (.cells #[.pointer none, .int .i64 0] 145 (0, 0)) := by have := heap_alloc_new (w.alloc (.cells #[.pointer (some ⟨g, 0, none⟩), .int .i64 E] 145)) (.cells #[.pointer none, .int .i64 0] 145); simpa using this
 have g1 : IntKind.i64.wrap (E - e) = (k : Int) := by rw [he, IntWalk.i64_in _ ⟨by omega, by omega⟩]
 have g2 : IntKind.u64.wrap (k : Int) = (k : Int) := by rw [IntKind.wrap_u64]; omega
 have CL := Hh (fun z w' hz hx => Blsh z g k n (Nat.le_trans hl dc) (Nat.le_trans hk2 dc) w' hz hx)
 have hT : IntTy (((w.alloc (.cells #[.pointer (some ⟨g, 0, none⟩), .int .i64 E] 145)).alloc (.cells #[.pointer none, .int .i64 0] 145)).alloc (.cells #[.bool false, .slice none 0 0] 94)) (w.heap.size + 1 + 1) := by have := (IntB.made ((w.alloc (.cells #[.pointer (some ⟨g, 0, none⟩), .int .i64 E] 145)).alloc (.cells #[.pointer none, .int .i64 0] 145))).ty; simpa using this
 clear he hk hk2 hl
 go_enter Tryz.func226, Tryz.ntmps226
 go_wp2_with fail
 refine (CL.out _ _ (by exact hT) (HI.out.of ((((Within.refl w).alloc _).alloc _).alloc _))).mono ?_; rintro e5 w5 ⟨rfl, hJ, hG⟩
 have hz5 := (hG.block (w.heap.size + 1) (by simp) (by simp)).trans ((((Within.refl ((w.alloc (.cells #[.pointer (some ⟨g, 0, none⟩), .int .i64 E] 145)).alloc (.cells #[.pointer none, .int .i64 0] 145))).alloc _).block _ (by simp)).trans hz)
 obtain ⟨y0, y1, yf⟩ := ex_cells hz5
 have yl : w.heap.size + 1 < w5.heap.size := World.block_lt_of_cell? _ _ y0
 obtain ⟨r0, r1, rI⟩ := ex_set (E := e) hz5 hJ (by simp)
 have hv5 : Within w w5 := Within.grown ((((Within.refl w).alloc _).alloc _).alloc _) hG om
 go_wp2
 refine bodyPost_ret (v := .agg #[.pointer (some ⟨(w.heap.size + 1 + 1), 0, none⟩), .int .i64 e]) (by simp [results, Tryz.results226, go_sem, r0, r1, yl]) rfl ⟨_, rfl, rI, ?_⟩
 exact (hv5.setCell (by show _ ≤ w.heap.size + 1; omega) _).setCell (by show _ ≤ w.heap.size + 1; omega) _
@[go_sem] theorem run_field_ex (a b : Value) (w : World) : (Instr.field 145 (.agg #[a, b]) 0).run Tryz.prog w = .ok a w := by
 kernel_rfl
theorem Xlow (n E e : Int) (g k : Nat) (he : E - e = (k : Int)) (hk2 : k ≤ 16000) (hl : (dg n.natAbs).length ≤ 1000) (w : World) (hI : IntB w g n) : Calls Tryz.prog 226 #[.agg #[.pointer (some ⟨g, 0, none⟩), .int .i64 E], .int .i64 e] w (ExS w (n * 2 ^ k) e) := by
 rcases Nat.eq_zero_or_pos k with h | h
 ·subst h
  obtain rfl : E = e := by omega
  rw [Int.pow_zero, Int.mul_one]
  exact Xlow_same n E E g (Int.le_refl _) w hI
 ·exact Xlow_less n E e g k he h hk2 hl w hI
theorem wp_new_int {o : Oper} {a : Act} {w : World} {K : Act → World → Prop} {Q : Exit → Act → World → Prop} (ho : o.op = .alloc 94)
 (h : ∀ z w', IntTy w' z → Within w w' → w.heap.size ≤ z → K (a.put o.dst (.pointer (some ⟨z, 0, none⟩))) w') : o.wp Tryz.prog a w K Q := by
 have h1 := h w.heap.size (w.alloc (.cells #[.bool false, .slice none 0 0] 94)) (IntB.made w).ty ((Within.refl w).alloc _) (Nat.le_refl _)
 unfold Oper.wp execOp
 rw [ho]
 go_simp
 exact h1
theorem Rset (z x : Nat) (a : Int) (b : Nat) (hb : 0 < b) (la : (dg a.natAbs).length ≤ 1000) (lb : (dg b).length ≤ 1000) (w : World) (hz : RatTy w z) (hx : RatB w x a b) : Calls Tryz.prog 72 #[.pointer (some ⟨z, 0, none⟩), .pointer (some ⟨x, 0, none⟩)] w (fun e w' => e = .returned (.pointer (some ⟨z, 0, none⟩)) ∧ RatB w' z a b ∧ w.grownBy w' (some z)) := by
 obtain ⟨A, ca, Bv, cb, x0, x1, _, x3, ra, rb⟩ := hx.rd
 have lx := hx.lt
 have BT := Hh (fun w c => Rbottom x (dg b).length Bv cb (dg_len_pos om) w c)
 have P1 := Hh (fun (A1 : Option Addr) (c1 : Nat) w hc hr hz => Rput_num z (decide (a < 0)) a.natAbs A1 c1 hc om w hr hz)
 rw [sgv_self] at P1
 have P2 := Hh (fun (A1 : Option Addr) (c1 : Nat) w hc hr hz => Rput_den z a b A1 c1 hc om w hr hz)
 have RA := Hh ra; have RB := Hh rb; have HZ := Hh hz; have LA := Hh (show (dg a.natAbs).length ≤ 3000000 by omega); have LB := Hh (show (dg b).length ≤ 3000000 by omega)
 clear ra rb hz hx la lb hb
 generalize decide (a < 0) = s at *
 obtain ⟨ln, hln⟩ : ∃ l, l = dg a.natAbs := ⟨_, rfl⟩
 obtain ⟨lb, hlb⟩ : ∃ l, l = dg b := ⟨_, rfl⟩
 rw [← hln] at P1 RA LA x1
 rw [← hlb] at P2 RB LB x3 BT
 clear hln hlb
 go_enter Tryz.func72, Tryz.ntmps72
 go_wp2_with (refine wpList_plain rfl fun K hK => ?_; refine wp_copy (.const (.slice none 0 0)) (.tmp 17) A (ln) ca rfl rfl rfl rfl RA.out LA.out ?_; intro A' c' w2 hc' hr' hb'; refine hK _ _ ?_)
 have HC1 := Hh hc'; have HR1 := Hh hr'; have HB1 := Hh hb'
 have x3' := (hb'.cells _ _ lx).trans x3
 clear hc' hr' hb'
 refine (BT.out _ x3').mono ?_; rintro e2 w3 ⟨rfl, rfl⟩
 go_wp2_with (refine wpList_plain rfl fun K hK => ?_; refine wp_copy (.const (.slice none 0 0)) (.tmp 20) Bv (lb) cb rfl rfl rfl rfl (RB.out.of HB1.out) LB.out ?_; intro A2 c2 w4 hc2 hr2 hb2; refine hK _ _ ?_)
 have HC2 := Hh hc2; have HR2 := Hh hr2; have HB2 := Hh (HB1.out.trans hb2); have HR1' := Hh (HR1.out.of hb2)
 clear hc2 hr2 hb2
 refine (P1.out A' c' _ HC1.out HR1'.out (HZ.out.of HB2.out)).mono ?_; rintro e5 w5 ⟨rfl, hH, hG⟩
 have hz4 := HZ.out.of HB2.out
 go_wp2_with fail
 refine (P2.out A2 c2 _ HC2.out (RowAt.grownR HR2.out hz4 hG) hH).mono ?_; rintro e6 w6 ⟨rfl, hR, hG2⟩
 have HR := Hh hR; have HG := Hh (grown_trans (grown_within z HB2.out) (grown_trans hG hG2)); clear hR hG hG2 hH
 go_wp2
 go_ret
 exact ⟨rfl, HR.out, HG.out⟩
theorem ratB_abs {w : World} {z : Nat} {a : Int} {b : Nat} (h : RatB w z a b) : RatB (w.setCell ⟨z, 0, none⟩ (.bool false)) z (a.natAbs : Int) b ∧ w.grownBy (w.setCell ⟨z, 0, none⟩ (.bool false)) (some z) := by
 have ht := h.ty
 have g : w.grownBy (w.setCell ⟨z, 0, none⟩ (.bool false)) (some z) := grown_set (World.grownBy.refl _ _) _
 obtain ⟨A, c, Bv, cb, hb, h1, h2, h3, h4⟩ := h
 refine ⟨⟨A, c, Bv, cb, ?_, by rw [Int.natAbs_natCast]; exact h1, by rw [Int.natAbs_natCast]; exact h2.grownR ht g, h3, h4.grownR ht g⟩, g⟩
 rw [Int.natAbs_natCast, decide_eq_false om]
 simp [World.setCell, Array.getElem?_modify, hb]
theorem Rabs (z x : Nat) (a : Int) (b : Nat) (hb : 0 < b) (la : (dg a.natAbs).length ≤ 1000) (lb : (dg b).length ≤ 1000) (w : World) (hz : RatTy w z) (hx : RatB w x a b) : Calls Tryz.prog 49 #[.pointer (some ⟨z, 0, none⟩), .pointer (some ⟨x, 0, none⟩)] w (fun e w' => e = .returned (.pointer (some ⟨z, 0, none⟩)) ∧ RatB w' z (a.natAbs : Int) b ∧ w.grownBy w' (some z)) := by
 have ST := Hh (Rset z x a b hb la lb w hz hx)
 clear hb la lb hz hx
 go_enter Tryz.func49, Tryz.ntmps49
 go_wp2_with fail
 refine (ST.out).mono ?_; rintro e1 w1 ⟨rfl, hR, hG⟩
 obtain ⟨hR2, hG2⟩ := ratB_abs hR
 obtain ⟨b0, s0, b1, s1, c0, _⟩ := hR.ty.cells
 have f0 := hR.ty.frozen 0
 have HR := Hh hR2; have HG := Hh (grown_trans hG hG2); clear hR2 hG2 hR hG
 go_wp2
 go_ret
 exact ⟨rfl, HR.out, HG.out⟩
def NewRat (W : World) (q : Rat) (M D : Nat) (e : Ending) (w' : World) : Prop := ∃ z, e = .returned (.pointer (some ⟨z, 0, none⟩)) ∧ W.heap.size ≤ z ∧ (∃ (a : Int) (b : Nat), 0 < b ∧ RatB w' z a b ∧ frQ a b = q ∧ a.natAbs ≤ M ∧ b ≤ D) ∧ Within W w'
theorem RatP.new {W w w' : World} {z M D : Nat} {q : Rat} {e : Ending} (h : RatP w z q M D e w') (hw : Within W w) (hz : W.heap.size ≤ z) : NewRat W q M D e w' := by
 obtain ⟨g1, a, b, g2, g3, g4, g5, g6, g7⟩ := h
 exact ⟨z, g1, hz, ⟨a, b, g2, g3, g4, g5, g6⟩, Within.grown hw g7 hz⟩
theorem wp_new_rat {o : Oper} {a : Act} {w : World} {K : Act → World → Prop} {Q : Exit → Act → World → Prop} (ho : o.op = .alloc 96)
 (h : ∀ z w', RatTy w' z → Within w w' → w.heap.size ≤ z → K (a.put o.dst (.pointer (some ⟨z, 0, none⟩))) w') : o.wp Tryz.prog a w K Q := by
 have h1 := h w.heap.size (w.alloc (.cells #[.bool false, .slice none 0 0, .bool false, .slice none 0 0] 96)) (RatTy.made w) ((Within.refl w).alloc _) (Nat.le_refl _)
 unfold Oper.wp execOp
 rw [ho]
 go_simp
 exact h1
theorem len_shl {n : Int} {k J : Nat} (h : (dg n.natAbs).length ≤ 10) (hk : k ≤ 32 * J) : (dg (n * 2 ^ k).natAbs).length ≤ 10 + J := by
 have e : (n * 2 ^ k).natAbs = n.natAbs * 2 ^ k := by
  rw [Int.natAbs_mul, Int.natAbs_pow]; rfl
 rw [e]
 exact dg_shl_le h hk
theorem len_pow {k J : Nat} (hk : k ≤ 32 * J) : (dg (2 ^ k)).length ≤ 1 + J := by
 have := dg_shl_le (a := 1) (n := 1) (k := J) (j := k) (by rw [dg_one]; decide) hk
 rwa [Nat.one_mul] at this
theorem frQ_shl (n : Int) (k : Nat) : frQ (n * 2 ^ k) 1 = dyR n (k : Int) := by
 rw [frQ_one]
 unfold dyR
 rw [p2_nat]; push_cast; rfl
theorem frQ_shr (n : Int) (k : Nat) : frQ n (2 ^ k) = dyR n (-(k : Int)) := by
 have h := p2_add (-(k : Int)) (k : Int)
 rw [show -(k : Int) + k = 0 by omega, p2_zero, p2_nat] at h
 unfold frQ dyR
 have h0 : ((2 ^ k : Nat) : Rat) ≠ 0 := by intro g; rw [g] at h; grind
 generalize p2 (-(k : Int)) = P at *
 generalize ((2 ^ k : Nat) : Rat) = X at *
 generalize (n : Rat) = N
 grind
theorem RratOf_ge (n E : Int) (h k : Nat) (hE : E = (k : Int)) (hk : k ≤ 1200) (hn : (dg n.natAbs).length ≤ 10) (w : World) (hT : Tab32 w) (hI : IntB w h n) : Calls Tryz.prog 131 #[.agg #[.pointer (some ⟨h, 0, none⟩), .int .i64 E]] w (NewRat w (dyR n E) (n * 2 ^ k).natAbs 1) := by
 have hw1 : Within w (w.alloc (.cells #[.pointer (some ⟨h, 0, none⟩), .int .i64 E] 145)) := (Within.refl w).alloc _
 have hw2 : Within w ((w.alloc (.cells #[.pointer (some ⟨h, 0, none⟩), .int .i64 E] 145)).alloc (.cells #[.bool false, .slice none 0 0, .bool false, .slice none 0 0] 96)) := hw1.alloc _
 have HZ := Hh (by have := RatTy.made (w.alloc (.cells #[.pointer (some ⟨h, 0, none⟩), .int .i64 E] 145)); simpa using this : RatTy ((w.alloc (.cells #[.pointer (some ⟨h, 0, none⟩), .int .i64 E] 145)).alloc (.cells #[.bool false, .slice none 0 0, .bool false, .slice none 0 0] 96)) (w.heap.size + 1))
 have LW := Hh (Xlow n E 0 h k om om om _ (hI.of hw2))
 have SI := Hh (fun (z g : Nat) w hT hz hI => RsetInt z g (n * 2 ^ k) (Nat.le_trans (len_shl hn (J := 40) om) dc) w hT hz hI)
 have d0 : decide (E ≥ 0) = true := decide_eq_true om
 have HT := Hh hT
 have HQ := Hh (show frQ (n * 2 ^ k) 1 = dyR n E by rw [frQ_shl]; congr 1; omega)
 clear hn hE hk hT hI
 generalize hv : n * 2 ^ k = v at *
 clear hv
 go_enter Tryz.func131, Tryz.ntmps131
 go_wp2_with fail
 refine (LW.out).mono ?_; rintro e3 w3 ⟨g, rfl, hI3, hb3⟩
 have hb := hw2.trans hb3
 go_wp2_with fail
 refine (SI.out (w.heap.size + 1) g _ (HT.out.of hb) (HZ.out.of hb3) hI3).mono ?_; rintro e4 w4 hP
 obtain ⟨rfl, hP2⟩ := hP
 go_wp2
 go_ret
 rw [← HQ.out]
 exact RatP.new (w := w3) ⟨rfl, hP2⟩ hb om
theorem zz122 {p : Prop} (h : p := by
 refine hK _ _ (fun _ => hv4) ?_
 clear hK K
 try simp only [pu]
 refine sct_one rfl rfl (fun K hK => ?_)
 go_simp
 refine (SF.out z0 z3 _ (hT0.of hv4) t0_4 (hI0.of hv4) L_4).mono ?_; rintro e9 w9 ⟨rfl, hP⟩
 refine hK _ _ ab ?_
 clear hK K
 try simp only [pu]
 refine sct_one rfl rfl (fun K hK => ?_)
 go_simp
 refine hK _ _ ab ?_
 clear hK K
 try simp only [pu]
 refine sct_nil ?_
 go_wp2
 go_ret
 rw [← HQ.out]
 exact RatP.new (w := v4) ⟨rfl, hP⟩ (hw0.trans hv4) (Nat.le_trans hw0.size k0)) : p := h
theorem zz11 {p : Prop} (h : p := by
 clear hK K
 try simp only [pu]
 refine sct_one rfl rfl (fun K hK => ?_)
 go_simp
 refine (LS.out z3 g4 _ t3_3 i4_3).mono ?_; rintro e4 v4 ⟨rfl, L_4, hG4⟩
 have hv4 : Within w0 v4 := Within.grown hv3 hG4 k3
 have t0_4 : RatTy v4 z0 := RatTy.grown t0_3 (fun e => intTy_neR t3_3 t0_3 e.symm) hG4
 exact zz122) : p := h
theorem zz25 {p : Prop} (h : p := by
 go_simp
 refine (LS.out z3 g4 _ t3_2 i4_2).mono ?_; rintro e3 v3 ⟨rfl, L_3, hG3⟩
 have hv3 : Within w0 v3 := Within.grown hv2 hG3 k3
 refine hK _ _ hv3 ?_
 clear hK K
 try simp only [pu]
 refine sct_one rfl rfl (fun K hK => ?_)
 refine wp_new_rat rfl ?_
 intro z0 v4 t0_4 hb4 hge4
 have hv4 : Within w0 v4 := Within.trans hv3 hb4
 have k0 : w0.heap.size ≤ z0 := Nat.le_trans (Within.sizes hv3) hge4
 have L_4 : IntB v4 z3 (V : Int) := L_3.of hb4
 exact zz122) : p := h
theorem RratOf_lt (n E : Int) (h k : Nat) (hE : -E = (k : Int)) (hk0 : 0 < k) (hk : k ≤ 1200) (hn : (dg n.natAbs).length ≤ 10) (w : World) (hT : Tab32 w) (hI : IntB w h n) : Calls Tryz.prog 131 #[.agg #[.pointer (some ⟨h, 0, none⟩), .int .i64 E]] w (NewRat w (dyR n E) n.natAbs (2 ^ k)) := by
 have d0 : decide (E ≥ 0) = false := decide_eq_false om
 have w1 : IntKind.i64.wrap (-E) = (k : Int) := by rw [IntKind.wrap_i64]; omega
 have w2 : IntKind.u64.wrap (k : Int) = (k : Int) := IntWalk.u64_in _ ⟨by omega, by omega⟩
 have NI := Hh (fun w => BnewInt 1 dc dc w)
 obtain ⟨V, hV⟩ : ∃ V, V = 2 ^ k := ⟨_, rfl⟩
 have LS := Hh (fun (z g : Nat) w hz hx => (show Calls Tryz.prog 228 #[.pointer (some ⟨z, 0, none⟩), .pointer (some ⟨g, 0, none⟩), .int .u64 (k : Int)] w (PutI w z (V : Int)) from by
  have := Blsh z g k 1 (by rw [show (1 : Int).natAbs = 1 from rfl, dg_one]; decide) om w hz hx
  rw [Int.one_mul, show (2 : Int) ^ k = (V : Int) by rw [hV]; simp] at this
  exact this))
 have hVp : 0 < V := by rw [hV]; exact Nat.two_pow_pos k
 have hVl : (dg V).length ≤ 1000 := by rw [hV]; exact Nat.le_trans (len_pow (J := 40) om) dc
 have SF := Hh (fun (z g : Nat) w hT hz hx hy => RsetFrac z h g n V hVp om hVl w hT hz hx hy)
 have HQ := Hh (show frQ n V = dyR n E by rw [hV, frQ_shr]; congr 1; omega)
 rw [← hV]
 have HT := Hh hT; have HI := Hh hI
 have lh := hI.lt
 clear hn hE hk hT hI hV hVp hVl
 go_enter Tryz.func131, Tryz.ntmps131
 go_wp2
 refine wp_region_sctG (fun W => W.cell? ⟨w.heap.size, 0, none⟩ = some (.pointer (some ⟨h, 0, none⟩)) ∧ W.cell? ⟨w.heap.size, 1, none⟩ = some (.int .i64 E) ∧ w.heap.size < W.heap.size ∧ Within w W ∧ Tab32 W ∧ IntB W h n) 10 (.firm 1 (.firm 2 (.firm 5 (.firm 6 (.firm 7 (.firm 8 (.three 0 (.two 3 (.one 4 (.one 9 (.one 10 (.one 11 .nil)))) 4 (.one 3 (.one 9 (.one 10 (.one 11 .nil))))) 3 (.two 0 (.one 4 (.one 9 (.one 10 (.one 11 .nil)))) 4 (.two 0 (.one 9 (.one 10 (.one 11 .nil))) 9 (.one 0 (.one 10 (.one 11 .nil))))) 4 (.two 0 (.one 3 (.one 9 (.one 10 (.one 11 .nil)))) 3 (.two 0 (.one 9 (.one 10 (.one 11 .nil))) 9 (.one 0 (.one 10 (.one 11 .nil)))))))))))) kr kr ⟨by go_simp, by go_simp, by first | (simp; done) | (simp; omega), (Within.refl w).alloc _, HT.out.of ((Within.refl w).alloc _), HI.out.of ((Within.refl w).alloc _)⟩ ?_
 rintro w0 ⟨c0, c1, l0, hw0, hT0, hI0⟩
 try simp only [pu]
 iterate 6
  apply sct_firm rfl rfl wi
  ·intro wq hq
   have hcq := hq.cells
   clear hq
   go_simp
   rfl
  try simp only [pu]
 refine sct_three rfl rfl rfl rfl rfl rfl (fun K hK => ?_) (fun K hK => ?_) (fun K hK => ?_)
 ·refine wp_new_rat rfl ?_
  intro z0 v1 t0_1 hb1 hge1
  have hv1 : Within w0 v1 := Within.trans (Within.refl w0).drew hb1
  have k0 : w0.heap.size ≤ z0 := Nat.le_trans (Within.sizes (Within.refl w0).drew) hge1
  refine hK _ _ hv1 ?_
  clear hK K
  try simp only [pu]
  refine sct_two rfl rfl rfl rfl (fun K hK => ?_) (fun K hK => ?_)
  ·refine wp_new_int rfl ?_
   intro z3 v2 t3_2 hb2 hge2
   have hv2 : Within w0 v2 := Within.trans hv1 hb2
   have k3 : w0.heap.size ≤ z3 := Nat.le_trans (Within.sizes hv1) hge2
   have t0_2 : RatTy v2 z0 := t0_1.of hb2
   refine hK _ _ hv2 ?_
   clear hK K
   try simp only [pu]
   refine sct_one rfl rfl (fun K hK => ?_)
   go_simp
   refine (NI.out _).mono ?_; rintro e3 v3 ⟨g4, rfl, i4_3, hge3, hb3⟩
   have hv3 : Within w0 v3 := Within.trans hv2 hb3
   have t0_3 : RatTy v3 z0 := t0_2.of hb3
   have t3_3 : IntTy v3 z3 := t3_2.of hb3
   refine hK _ _ (fun _ => hv3) ?_
   exact zz11
  ·go_simp
   refine (NI.out _).mono ?_; rintro e2 v2 ⟨g4, rfl, i4_2, hge2, hb2⟩
   have hv2 : Within w0 v2 := Within.trans hv1 hb2
   have t0_2 : RatTy v2 z0 := t0_1.of hb2
   refine hK _ _ hv2 ?_
   clear hK K
   try simp only [pu]
   refine sct_one rfl rfl (fun K hK => ?_)
   refine wp_new_int rfl ?_
   intro z3 v3 t3_3 hb3 hge3
   have hv3 : Within w0 v3 := Within.trans hv2 hb3
   have k3 : w0.heap.size ≤ z3 := Nat.le_trans (Within.sizes hv2) hge3
   have t0_3 : RatTy v3 z0 := t0_2.of hb3
   have i4_3 : IntB v3 g4 1 := i4_2.of hb3
   refine hK _ _ (fun _ => hv3) ?_
   exact zz11
 ·refine wp_new_int rfl ?_
  intro z3 v1 t3_1 hb1 hge1
  have hv1 : Within w0 v1 := Within.trans (Within.refl w0).drew hb1
  have k3 : w0.heap.size ≤ z3 := Nat.le_trans (Within.sizes (Within.refl w0).drew) hge1
  refine hK _ _ hv1 ?_
  clear hK K
  try simp only [pu]
  refine sct_two rfl rfl rfl rfl (fun K hK => ?_) (fun K hK => ?_)
  ·refine wp_new_rat rfl ?_
   intro z0 v2 t0_2 hb2 hge2
   have hv2 : Within w0 v2 := Within.trans hv1 hb2
   have k0 : w0.heap.size ≤ z0 := Nat.le_trans (Within.sizes hv1) hge2
   have t3_2 : IntTy v2 z3 := t3_1.of hb2
   refine hK _ _ hv2 ?_
   clear hK K
   try simp only [pu]
   refine sct_one rfl rfl (fun K hK => ?_)
   go_simp
   refine (NI.out _).mono ?_; rintro e3 v3 ⟨g4, rfl, i4_3, hge3, hb3⟩
   have hv3 : Within w0 v3 := Within.trans hv2 hb3
   have t3_3 : IntTy v3 z3 := t3_2.of hb3
   have t0_3 : RatTy v3 z0 := t0_2.of hb3
   refine hK _ _ (fun _ => hv3) ?_
   exact zz11
  ·go_simp
   refine (NI.out _).mono ?_; rintro e2 v2 ⟨g4, rfl, i4_2, hge2, hb2⟩
   have hv2 : Within w0 v2 := Within.trans hv1 hb2
   have t3_2 : IntTy v2 z3 := t3_1.of hb2
   refine hK _ _ hv2 ?_
   clear hK K
   try simp only [pu]
   refine sct_two rfl rfl rfl rfl (fun K hK => ?_) (fun K hK => ?_)
   ·refine wp_new_rat rfl ?_
    intro z0 v3 t0_3 hb3 hge3
    have hv3 : Within w0 v3 := Within.trans hv2 hb3
    have k0 : w0.heap.size ≤ z0 := Nat.le_trans (Within.sizes hv2) hge3
    have t3_3 : IntTy v3 z3 := t3_2.of hb3
    have i4_3 : IntB v3 g4 1 := i4_2.of hb3
    refine hK _ _ hv3 ?_
    exact zz11
   ·exact zz25
 ·go_simp
  refine (NI.out _).mono ?_; rintro e1 v1 ⟨g4, rfl, i4_1, hge1, hb1⟩
  have hv1 : Within w0 v1 := Within.trans (Within.refl w0).drew hb1
  refine hK _ _ hv1 ?_
  clear hK K
  try simp only [pu]
  refine sct_two rfl rfl rfl rfl (fun K hK => ?_) (fun K hK => ?_)
  ·refine wp_new_rat rfl ?_
   intro z0 v2 t0_2 hb2 hge2
   have hv2 : Within w0 v2 := Within.trans hv1 hb2
   have k0 : w0.heap.size ≤ z0 := Nat.le_trans (Within.sizes hv1) hge2
   have i4_2 : IntB v2 g4 1 := i4_1.of hb2
   refine hK _ _ hv2 ?_
   clear hK K
   try simp only [pu]
   refine sct_one rfl rfl (fun K hK => ?_)
   refine wp_new_int rfl ?_
   intro z3 v3 t3_3 hb3 hge3
   have hv3 : Within w0 v3 := Within.trans hv2 hb3
   have k3 : w0.heap.size ≤ z3 := Nat.le_trans (Within.sizes hv2) hge3
   have i4_3 : IntB v3 g4 1 := i4_2.of hb3
   have t0_3 : RatTy v3 z0 := t0_2.of hb3
   refine hK _ _ (fun _ => hv3) ?_
   exact zz11
  ·refine wp_new_int rfl ?_
   intro z3 v2 t3_2 hb2 hge2
   have hv2 : Within w0 v2 := Within.trans hv1 hb2
   have k3 : w0.heap.size ≤ z3 := Nat.le_trans (Within.sizes hv1) hge2
   have i4_2 : IntB v2 g4 1 := i4_1.of hb2
   refine hK _ _ hv2 ?_
   clear hK K
   try simp only [pu]
   refine sct_two rfl rfl rfl rfl (fun K hK => ?_) (fun K hK => ?_)
   ·refine wp_new_rat rfl ?_
    intro z0 v3 t0_3 hb3 hge3
    have hv3 : Within w0 v3 := Within.trans hv2 hb3
    have k0 : w0.heap.size ≤ z0 := Nat.le_trans (Within.sizes hv2) hge3
    have i4_3 : IntB v3 g4 1 := i4_2.of hb3
    have t3_3 : IntTy v3 z3 := t3_2.of hb3
    refine hK _ _ hv3 ?_
    exact zz11
   ·exact zz25
def eS : Nat := 1200
def eM : Nat := 2000
def eB : Nat := 5000
theorem eS_is : eS = 1200 := rfl
theorem eM_is : eM = 2000 := rfl
theorem eB_is : eB = 5000 := rfl
theorem rn_holds {l h s : Nat} {e : Rat} (k : Holds l h e) (hq : RnO s e) (f : Fi s) : Holds l h (rvD s) :=
 ⟨lo_of_un k.1.1 f (rn_lo k.1.1 k.1.2 hq), hi_of_un k.2.1 f (rn_hi k.2.1 k.2.2 hq)⟩
theorem arF_of {op : BinOp} {a b s : Nat} (h : floatBits op .f64 a b = some s) (w : World) : arF op a b w = s := by unfold arF; rw [h]
def FineP (x l h : Nat) : Prop := Fi x ∧ Holds l h (rvD x)
theorem zz95 {p : Prop} (h : p := by
 rw [e] at f ⊢
 exact ⟨f, rn_holds (S _ ⟨_, _, ea.2, eb.2, rfl⟩) hq f⟩) : p := h
theorem fine_add {xa xb l1 h1 l2 h2 l h : Nat} {w : World} (ea : FineP xa l1 h1) (eb : FineP xb l2 h2) (S : ∀ e, AddS l1 h1 l2 h2 e → Holds l h e) (f : Fi (arF .add xa xb w)) : FineP (arF .add xa xb w) l h := by
 obtain ⟨s, hs, hq⟩ := add_rno ea.1 eb.1
 have e := arF_of (op := .add) hs w
 exact zz95
theorem fine_sub {xa xb l1 h1 l2 h2 l h : Nat} {w : World} (ea : FineP xa l1 h1) (eb : FineP xb l2 h2) (S : ∀ e, SubS l1 h1 l2 h2 e → Holds l h e) (f : Fi (arF .sub xa xb w)) : FineP (arF .sub xa xb w) l h := by
 obtain ⟨s, hs, hq⟩ := sub_rno ea.1 eb.1
 have e := arF_of (op := .sub) hs w
 exact zz95
theorem fine_mul {xa xb l1 h1 l2 h2 l h : Nat} {w : World} (ea : FineP xa l1 h1) (eb : FineP xb l2 h2) (S : ∀ e, MulS l1 h1 l2 h2 e → Holds l h e) (f : Fi (arF .mul xa xb w)) : FineP (arF .mul xa xb w) l h := by
 obtain ⟨s, hs, hq⟩ := mul_rno ea.1 eb.1
 have e := arF_of (op := .mul) hs w
 exact zz95
theorem fine_quo {xa xb l1 h1 l2 h2 l h : Nat} {w : World} (ea : FineP xa l1 h1) (eb : FineP xb l2 h2) (h0 : Fp.un Ieee.double xb ≠ 0) (S : ∀ e, DivS l1 h1 l2 h2 e → Holds l h e) (f : Fi (arF .quo xa xb w)) : FineP (arF .quo xa xb w) l h := by
 obtain ⟨s, hs, hq⟩ := div_rno ea.1 eb.1 h0
 have e := arF_of (op := .quo) hs w
 rw [e] at f ⊢
 exact ⟨f, rn_holds (S _ ⟨_, _, ea.2, eb.2, fun k => h0 (rv_zero_iff.1 k), rfl⟩) hq f⟩
theorem fine_sqrt {xa l1 h1 l h y : Nat} (ea : FineP xa l1 h1) (h0 : 0 ≤ Fp.un Ieee.double xa) (S : ∀ e, SqS l1 h1 e → Holds l h e) (hy : ∀ r, Ieee.double.sqrt xa = some r → y = r) (f : Fi y) : FineP y l h := by
 obtain ⟨q, hq, _, _⟩ := sq_ok ea.1 h0
 have e := hy q hq
 subst e
 exact ⟨f, S _ ⟨xa, y, ea.1, h0, ea.2, hq, rfl⟩⟩
theorem rv_mod (x : Nat) : rvD (x % 9223372036854775808) = absQ (rvD x) := by
 unfold absQ
 rcases Int.lt_or_le (Fp.un Ieee.double x) 0 with g | g
 ·rw [if_pos (rv_neg_iff.2 g)]
  unfold rvD
  rw [un_mod, show ((Fp.un Ieee.double x).natAbs : Int) = -Fp.un Ieee.double x by omega]
  push_cast; grind
 ·rw [if_neg (fun k => by have := rv_neg_iff.1 k; omega)]
  unfold rvD
  rw [un_mod, show ((Fp.un Ieee.double x).natAbs : Int) = Fp.un Ieee.double x by omega]
theorem fi_mod {x : Nat} (h : Fi x) : Fi (x % 9223372036854775808) := ⟨by have := h.2; omega, by rw [Nat.mod_mod]; exact h.2⟩
theorem fine_abs {xa l1 h1 l h : Nat} (ea : FineP xa l1 h1) (S : ∀ e, AbsS l1 h1 e → Holds l h e) : FineP (xa % 9223372036854775808) l h :=
 ⟨fi_mod ea.1, by rw [rv_mod]; exact S _ ⟨_, ea.2, rfl⟩⟩
theorem frQ_abs {a : Int} {b : Nat} (hb : 0 < b) : frQ (a.natAbs : Int) b = absQ (frQ a b) := by
 unfold absQ
 have k := frQ_nonneg (a := a) hb
 rcases Int.lt_or_le a 0 with g | g
 ·rw [if_pos (Rat.not_le.1 fun c => by have := k.1 c; omega), show (a.natAbs : Int) = -a by omega, frQ_neg]
 ·rw [if_neg (Rat.not_lt.2 (k.2 g)), show (a.natAbs : Int) = a by omega]
def KnownP (w : World) (r : Value) (l h K : Nat) : Prop := ∃ (z : Nat) (a : Int) (b : Nat), r = .pointer (some ⟨z, 0, none⟩) ∧ 0 < b ∧ RatB w z a b ∧ Holds l h (frQ a b) ∧ a.natAbs < 2 ^ K ∧ b < 2 ^ K
theorem KnownP.of {w w' : World} {r : Value} {l h K : Nat} (k : KnownP w r l h K) (hw : Within w w') : KnownP w' r l h K := by
 obtain ⟨z, a, b, h1, h2, h3, h4⟩ := k
 exact ⟨z, a, b, h1, h2, h3.of hw, h4⟩
theorem KnownP.weak {w : World} {r : Value} {l h K K' : Nat} (k : KnownP w r l h K) (hk : K ≤ K') : KnownP w r l h K' := by
 obtain ⟨z, a, b, h1, h2, h3, h4, h5, h6⟩ := k
 exact ⟨z, a, b, h1, h2, h3, h4, Nat.lt_of_lt_of_le h5 (Nat.pow_le_pow_right dc hk), Nat.lt_of_lt_of_le h6 (Nat.pow_le_pow_right dc hk)⟩
def Ent (w : World) (x l h : Nat) (r : Value) (kn fi : Bool) (K : Nat) : Prop := x < 18446744073709551616 ∧ Iv l h ∧ (fi = true → FineP x l h) ∧ (kn = true → KnownP w r l h K)
theorem Ent.of {w w' : World} {x l h : Nat} {r : Value} {kn fi : Bool} {K : Nat} (k : Ent w x l h r kn fi K) (hw : Within w w') : Ent w' x l h r kn fi K := ⟨k.1, k.2.1, k.2.2.1, fun e => (k.2.2.2 e).of hw⟩
theorem two_pow_add {a b c K L : Nat} (h1 : a < 2 ^ K) (h2 : b < 2 ^ K) (h3 : c ≤ a * b) (hL : 2 * K ≤ L) : c < 2 ^ L := by
 refine Nat.lt_of_lt_of_le (Nat.lt_of_le_of_lt h3 (Nat.mul_lt_mul_of_lt_of_le h1 (Nat.le_of_lt h2) (Nat.two_pow_pos _))) ?_
 rw [← Nat.pow_add]
 exact Nat.pow_le_pow_right dc om
theorem two_pow_sum {a b c d e K L : Nat} (h1 : a < 2 ^ K) (h2 : b < 2 ^ K) (h3 : c < 2 ^ K) (h4 : d < 2 ^ K) (h5 : e ≤ a * b + c * d) (hL : 2 * K + 1 ≤ L) : e < 2 ^ L := by
 have k1 := two_pow_add h1 h2 (Nat.le_refl _) (Nat.le_refl (2 * K))
 have k2 := two_pow_add h3 h4 (Nat.le_refl _) (Nat.le_refl (2 * K))
 have k3 : 2 ^ (2 * K + 1) ≤ 2 ^ L := Nat.pow_le_pow_right dc hL
 rw [Nat.pow_succ] at k3
 omega
theorem known_of {w0 w' : World} {z M D l h K : Nat} {q : Rat} {e : Ending} (hp : RatP w0 z q M D e w') (hq : Holds l h q) (hM : M < 2 ^ K) (hD : D < 2 ^ K) : e = .returned (.pointer (some ⟨z, 0, none⟩)) ∧ KnownP w' (.pointer (some ⟨z, 0, none⟩)) l h K ∧ w0.grownBy w' (some z) ∧ RatTy w' z := by
 obtain ⟨g1, a, b, g2, g3, g4, g5, g6, g7⟩ := hp
 exact ⟨g1, ⟨z, a, b, rfl, g2, g3, by rw [g4]; exact hq, Nat.lt_of_le_of_lt g5 hM, Nat.lt_of_le_of_lt g6 hD⟩, g7, g3.ty⟩
/-! the root of any double -/
theorem root_sane {k : Nat} {d r : Ieee.Datum} (h : d.root k = some r) : r.isNaN = false := by
 cases d <;> simp only [Ieee.Datum.root] at h <;> first | (cases h; done) | (split at h <;> first | (cases h; done) | (obtain rfl := Option.some.inj h; rfl) | (split at h <;> first | (cases h; done) | (obtain rfl := Option.some.inj h; rfl)))
theorem sqrt_sane {x r : Nat} (h : Ieee.double.sqrt x = some r) : r < 18446744073709551616 := by
 unfold Ieee.Format.sqrt at h
 cases hd : (Ieee.double.read x).root (Ieee.double.fractionBits + 2) with
 | none => rw [hd] at h; cases h
 | some d => rw [hd] at h; obtain rfl := Option.some.inj h; exact (write_sane d (root_sane hd)).1
theorem sqrt_nan (x : Nat) (h : FloatKind.f64.format.sqrt x = none) (w : World) : (callFunc 127 #[.float .f64 x]).run Tryz.prog w = .ok (.value (.float .f64 ((Question.nanBits .f64 x x).cut (w.tape w.drawn (.nanBits .f64 x x))))) w.drew := by
 rw [sqrt_run]
 have e : Go.Extern.MathSqrt.sqrt #[.float .f64 x] = (do pure (.float .f64 (← choose (.nanBits .f64 x x)))) := by
  conv => lhs; whnf
  rw [h]
 rw [e]
 simp [Question.forced]
theorem m_sqrt_nan (x : Nat) (h : FloatKind.f64.format.sqrt x = none) (w : World) : Calls Tryz.prog 45 #[.float .f64 x] w fun e w' => ∃ y, e = .returned (.float .f64 y) ∧ y < 18446744073709551616 ∧ Within w w' := by
 have hs := fun w => sqrt_nan x h w
 clear h
 go_enter Tryz.func45, Tryz.ntmps45
 go_wp2
 go_ret
 exact ⟨_, rfl, (cut_nan x x _).2, (Within.refl w).drew⟩
theorem m_sqrt_all (x : Nat) (w : World) : Calls Tryz.prog 45 #[.float .f64 x] w fun e w' => ∃ y, e = .returned (.float .f64 y) ∧ y < 18446744073709551616 ∧ (∀ r, Ieee.double.sqrt x = some r → y = r) ∧ Within w w' := by
 cases h : Ieee.double.sqrt x with
 | some r =>
  refine (m_sqrt x r h w).mono ?_
  rintro e w' ⟨rfl, rfl⟩
  exact ⟨r, rfl, sqrt_sane h, fun r' k => Option.some.inj k, Within.refl w⟩
 | none =>
  refine (m_sqrt_nan x h w).mono ?_
  rintro e w' ⟨y, rfl, hy, hb⟩
  exact ⟨y, rfl, hy, fun r' k => by (cases k), hb⟩
theorem m_ldexp_norm (z n : Nat) (k : Int) (h : 4503599627370496 ≤ z) (hz : z < 9218868437227405312) (hn : (n : Int) = k + (z / 4503599627370496 : Nat)) (h1 : 1 ≤ n) (h2 : n ≤ 2046) (hm : Ieee.double.mul 4607182418800017408 (n * 4503599627370496 + z % 4503599627370496) = some (n * 4503599627370496 + z % 4503599627370496)) (w : World) : Calls Tryz.prog 158 #[.float .f64 z, .int .i64 k] w fun e w' => e = .returned (.float .f64 (n * 4503599627370496 + z % 4503599627370496)) ∧ w = w' := by
 have HI := Hh (fun w => m_isinf z om w)
 have HN := Hh (fun w => m_isnan z w)
 rw [decide_eq_false om] at HI HN
 have hz0 := eq_zero (r := z) om
 rw [decide_eq_false om] at hz0
 have NO := Hh (fun w => m_norm_high z h hz w)
 have f1 := field_of_i z hz
 have f2 := frac_of z hz
 have f3 := join_of n (z % 4503599627370496) om (Nat.mod_lt _ dc)
 have s1 : ((z : Int) / 4503599627370496) = ((z / 4503599627370496 : Nat) : Int) := by omega
 have tq : z / 4503599627370496 < 2047 := by omega
 have lq : 0 < z / 4503599627370496 := by omega
 generalize z / 4503599627370496 = q at *
 have kl : -3000 ≤ k := by omega
 have ku : k ≤ 3000 := by omega
 obtain ⟨y, hy⟩ : ∃ y, n * 4503599627370496 + z % 4503599627370496 = y := ⟨_, rfl⟩
 have hnl : n < 2047 := by omega
 have gs : IntKind.u64.wrap ((n : Int) * 4503599627370496) = ((n * 4503599627370496 : Nat) : Int) := by rw [IntKind.wrap_u64]; omega
 have gn : IntKind.u64.wrap (n : Int) = (n : Int) := by rw [IntKind.wrap_u64]; omega
 have d1 : decide (k + ((q : Int) - 1023) < -1075) = false := decide_eq_false om
 have d2 : decide (k + ((q : Int) - 1023) > 1023) = false := decide_eq_false om
 have d3 : decide (k + ((q : Int) - 1023) < -1022) = false := decide_eq_false om
 have g5 : k + ((q : Int) - 1023) + 1023 = (n : Int) := by omega
 rw [hy]
 rw [hy] at f3 hm
 generalize z % 4503599627370496 = x at *
 generalize n * 4503599627370496 = nb at *
 have hf := fun t P w => run_float_arith (P := P) w .mul t .f64 _ _ _ hm
 clear hm hy hn h1 h2 h hz
 go_enter Tryz.func158, Tryz.ntmps158
 go_wp2_with fail
 refine (HI.out _).mono ?_; rintro e1 w1 ⟨rfl, rfl⟩
 go_wp2_with fail
 refine (HN.out _).mono ?_; rintro e2 w2 ⟨rfl, rfl⟩
 go_wp2_with fail
 refine (NO.out _).mono ?_; rintro e3 w3 ⟨rfl, rfl⟩
 go_wp2
 go_ret
 exact ⟨rfl, rfl⟩
theorem m_ldexp {z k : _} {r : Nat} (H : ∀ w, Calls Tryz.prog 158 #[.float .f64 z, .int .i64 k] w fun e w' => e = .returned (.float .f64 r) ∧ w = w') (w : World) : Calls Tryz.prog 79 #[.float .f64 z, .int .i64 k] w fun e w' => e = .returned (.float .f64 r) ∧ w = w' := by
 have HH := Hh H
 clear H
 go_enter Tryz.func79, Tryz.ntmps79
 go_wp2_with fail
 refine (HH.out _).mono ?_; rintro e1 w1 ⟨rfl, rfl⟩
 go_wp2
 go_ret
 exact ⟨rfl, rfl⟩
/-! in amounts -/
theorem is_pos {r n : Nat} (h : r < 9218868437227405312) (hm : Fp.mag Ieee.double r = n) : Fp.Is Ieee.double r false n := by
 have hr : Fp.rg Ieee.double r = r := by rw [Fp.rg64, Nat.mod_eq_of_lt om]
 refine ⟨Nat.lt_trans h dc, by rw [hr, Fp.dI]; exact h, ?_, by rw [hr, hm]⟩
 rw [Fp.sg64, Nat.div_eq_of_lt om]; rfl
theorem num_pos {n : Nat} : Fp.num Ieee.double false n = Fp.grid Ieee.double n 0 := rfl
theorem pos_rung {r n : Nat} (hm : Fp.mag Ieee.double r = n) : Fp.num Ieee.double false n = r := by
 rw [num_pos, ← hm, Fp.grid_of_mag Ieee.double Fp.dF]
theorem one_is : Fp.mag Ieee.double 4607182418800017408 = 2 ^ Fp.deep Ieee.double := by decide +kernel
theorem mul_pos {a b p r : Nat} (ha : a < 9218868437227405312) (hb : b < 9218868437227405312) (hr : r < 9218868437227405312) (hp : Fp.mag Ieee.double r = p) (h : Fp.mag Ieee.double a * Fp.mag Ieee.double b = p * 2 ^ Fp.deep Ieee.double) : Ieee.double.mul a b = some r := by
 have h1 := Fp.mul_is Ieee.double Fp.dL0 (is_pos ha rfl) (is_pos hb rfl) h (hp ▸ Fp.rep_mag Ieee.double Fp.dF (by rw [Fp.dI]; exact hr))
 rw [h1]
 exact congrArg some (pos_rung hp)
theorem one_mul {r : Nat} (h : r < 9218868437227405312) : Ieee.double.mul 4607182418800017408 r = some r :=
 mul_pos dc h h rfl (by rw [one_is, Nat.mul_comm])
theorem m_isinf_p (a : Nat) (r : Bool) (h : (FloatKind.f64.format.order a 9218868437227405311 == some .gt) = r) (w : World) : Calls Tryz.prog 54 #[.float .f64 a, .int .i64 1] w (fun e w' => e = .returned (.bool r) ∧ w = w') := by
 subst h
 go_enter Tryz.func54, Tryz.ntmps54
 go_wp2
 go_ret
 exact ⟨rfl, rfl⟩
theorem m_isinf_m (a : Nat) (r : Bool) (h : (FloatKind.f64.format.order (Go.Op.negFloat .f64 a) 9218868437227405311 == some .gt) = r) (w : World) : Calls Tryz.prog 54 #[.float .f64 a, .int .i64 (-1)] w (fun e w' => e = .returned (.bool r) ∧ w = w') := by
 subst h
 go_enter Tryz.func54, Tryz.ntmps54
 go_wp2
 go_ret
 exact ⟨rfl, rfl⟩
theorem neg_fi {a : Nat} (h : Fi a) : Fi (Go.Op.negFloat .f64 a) := by
 rcases Nat.lt_or_ge a 9223372036854775808 with g | g
 ·rw [neg_lo g]; exact ⟨by omega, by have := h.2; omega⟩
 ·rw [neg_hi g h.1]; exact ⟨by have := h.1; omega, by have := h.2; have := h.1; omega⟩
theorem inf_p_fi {a : Nat} (h : Fi a) : (FloatKind.f64.format.order a 9218868437227405311 == some .gt) = false := by
 rw [c_gt h.sane.2 dc]
 exact decide_eq_false (by have := max_top h; omega)
theorem inf_m_fi {a : Nat} (h : Fi a) : (FloatKind.f64.format.order (Go.Op.negFloat .f64 a) 9218868437227405311 == some .gt) = false := inf_p_fi (neg_fi h)
theorem inf_p_inf : (FloatKind.f64.format.order 9218868437227405312 9218868437227405311 == some .gt) = true := by decide +kernel
theorem inf_m_inf : (FloatKind.f64.format.order (Go.Op.negFloat .f64 18442240474082181120) 9218868437227405311 == some .gt) = true := by decide +kernel
theorem mag_un0 {x m : Nat} {e : Int} (hm : m * 2 ^ (e + 1074).toNat = Fp.mag Ieee.double (Fp.rg Ieee.double x)) (h : m = 0) : Fp.un Ieee.double x = 0 := by
 rw [un_val, ← hm, h, Nat.zero_mul]
 unfold Fp.val; split <;> rfl
theorem pick_fi (name : String) (neg : Bool) (win : Ordering) {x y : Nat} (hx : Fi x) (hy : Fi y) : ∃ z, (z = x ∨ z = y) ∧ ((Fp.un Ieee.double x = 0 ∧ Fp.un Ieee.double y = 0) ∨ ((FloatKind.f64.format.order x y == some win) = true ∧ z = x) ∨ ((FloatKind.f64.format.order x y == some win) = false ∧ z = y)) ∧
 Go.Extern.MathDim.pick name neg win #[.float .f64 x, .float .f64 y] = pure (.float .f64 z) := by
 obtain ⟨m, e, hr, _, _, _, hm⟩ := is_parts2 hx
 obtain ⟨n, j, hs, _, _, _, hn⟩ := is_parts2 hy
 have dx : FloatKind.f64.decode x = .number (Fp.sg Ieee.double x) m e := hr
 have dy : FloatKind.f64.decode y = .number (Fp.sg Ieee.double y) n j := hs
 have ho : (Ieee.Datum.number (Fp.sg Ieee.double x) m e).order (.number (Fp.sg Ieee.double y) n j) = FloatKind.f64.format.order x y := by
  show _ = (Ieee.double.read x).order (Ieee.double.read y)
  rw [hr, hs]
 have i1 : ∀ (s : Bool) (k : Nat) (l : Int), (Ieee.Datum.number s k l == Ieee.Datum.infinity neg) = false := fun s k l => by rw [beq_eq_false_iff_ne]; intro h; cases h
 have i2 : ∀ (s : Bool) (k : Nat) (l : Int), (Ieee.Datum.number s k l).isNaN = false := fun s k l => rfl
 refine ⟨_, ?_, ?_, rfl⟩
 ·rw [dx, dy, ho, i1, i1, i2, i2]
  simp only [Bool.or_self, Bool.false_eq_true, if_false]
  split <;> (try split) <;> simp
 ·rw [dx, dy, ho, i1, i1, i2, i2]
  simp only [Bool.or_self, Bool.false_eq_true, if_false]
  split
  ·rename_i hz
   rw [Bool.and_eq_true] at hz
   left
   have zz : ∀ (s : Bool) (k : Nat) (l : Int), (Ieee.Datum.number s k l).isZero = true → k = 0 := fun s k l h => by
    unfold Ieee.Datum.isZero at h
    cases k with
    | zero => rfl
    | succ k => cases h
   exact ⟨mag_un0 hm (zz _ _ _ hz.1), mag_un0 hn (zz _ _ _ hz.2)⟩
  ·right
   split
   ·rename_i h; exact .inl ⟨h, rfl⟩
   ·rename_i h; exact .inr ⟨Bool.eq_false_iff.2 h, rfl⟩
theorem archMax_run (w : World) (x y : Nat) : (callFunc 209 #[.float .f64 x, .float .f64 y]).run Tryz.prog w = (Go.Extern.MathDim.pick "math.archMax" false .gt #[.float .f64 x, .float .f64 y] >>= fun v => pure (Next.value v)).run Tryz.prog w := by kernel_rfl
theorem archMax_any (x y z : Nat) (h : Go.Extern.MathDim.pick "math.archMax" false .gt #[.float .f64 x, .float .f64 y] = pure (.float .f64 z)) (w : World) : (callFunc 209 #[.float .f64 x, .float .f64 y]).run Tryz.prog w = .ok (.value (.float .f64 z)) w := by
 rw [archMax_run, h]; rfl
theorem m_Max (x y z : Nat) (h : Go.Extern.MathDim.pick "math.archMax" false .gt #[.float .f64 x, .float .f64 y] = pure (.float .f64 z)) (w : World) : Calls Tryz.prog 112 #[.float .f64 x, .float .f64 y] w (fun e w' => e = .returned (.float .f64 z) ∧ w = w') := by
 have hs := fun w => archMax_any x y z h w
 clear h
 go_enter Tryz.func112, Tryz.ntmps112
 go_wp2
 go_ret
 exact ⟨rfl, rfl⟩
theorem zz83 {p : Prop} (h : p := by
 rcases h2 with ⟨a, b⟩ | ⟨a, b⟩ | ⟨a, b⟩
 ·rcases h1 with rfl | rfl <;> omega
 ·have a := of_decide_eq_true a; subst b; omega
 ·have a := of_decide_eq_false a; subst b; omega) : p := h
theorem m_Max_fi (x y : Nat) (hx : Fi x) (hy : Fi y) : ∃ z, Fi z ∧ Fp.un Ieee.double x ≤ Fp.un Ieee.double z ∧ Fp.un Ieee.double y ≤ Fp.un Ieee.double z ∧ ∀ w, Calls Tryz.prog 112 #[.float .f64 x, .float .f64 y] w (fun e w' => e = .returned (.float .f64 z) ∧ w = w') := by
 obtain ⟨z, h1, h2, h3⟩ := pick_fi "math.archMax" false .gt hx hy
 have hz : Fi z := by rcases h1 with rfl | rfl <;> assumption
 have key : Fp.un Ieee.double x ≤ Fp.un Ieee.double z ∧ Fp.un Ieee.double y ≤ Fp.un Ieee.double z := by
  rw [c_gt hx.sane.2 hy.sane.2] at h2
  exact zz83
 exact ⟨z, hz, key.1, key.2, fun w => m_Max x y z h3 w⟩
theorem archMin_run (w : World) (x y : Nat) : (callFunc 207 #[.float .f64 x, .float .f64 y]).run Tryz.prog w = (Go.Extern.MathDim.pick "math.archMin" true .lt #[.float .f64 x, .float .f64 y] >>= fun v => pure (Next.value v)).run Tryz.prog w := by kernel_rfl
theorem archMin_any (x y z : Nat) (h : Go.Extern.MathDim.pick "math.archMin" true .lt #[.float .f64 x, .float .f64 y] = pure (.float .f64 z)) (w : World) : (callFunc 207 #[.float .f64 x, .float .f64 y]).run Tryz.prog w = .ok (.value (.float .f64 z)) w := by
 rw [archMin_run, h]; rfl
theorem m_Min (x y z : Nat) (h : Go.Extern.MathDim.pick "math.archMin" true .lt #[.float .f64 x, .float .f64 y] = pure (.float .f64 z)) (w : World) : Calls Tryz.prog 111 #[.float .f64 x, .float .f64 y] w (fun e w' => e = .returned (.float .f64 z) ∧ w = w') := by
 have hs := fun w => archMin_any x y z h w
 clear h
 go_enter Tryz.func111, Tryz.ntmps111
 go_wp2
 go_ret
 exact ⟨rfl, rfl⟩
theorem m_Min_fi (x y : Nat) (hx : Fi x) (hy : Fi y) : ∃ z, Fi z ∧ Fp.un Ieee.double z ≤ Fp.un Ieee.double x ∧ Fp.un Ieee.double z ≤ Fp.un Ieee.double y ∧ ∀ w, Calls Tryz.prog 111 #[.float .f64 x, .float .f64 y] w (fun e w' => e = .returned (.float .f64 z) ∧ w = w') := by
 obtain ⟨z, h1, h2, h3⟩ := pick_fi "math.archMin" true .lt hx hy
 have hz : Fi z := by rcases h1 with rfl | rfl <;> assumption
 have key : Fp.un Ieee.double z ≤ Fp.un Ieee.double x ∧ Fp.un Ieee.double z ≤ Fp.un Ieee.double y := by
  rw [c_lt hx.sane.2 hy.sane.2] at h2
  exact zz83
 exact ⟨z, hz, key.1, key.2, fun w => m_Min x y z h3 w⟩
theorem top_finite (a : Nat) (ha : a < 18446744073709551616) (w : World) : Calls Tryz.prog 50 #[.float .f64 a] w (fun e w' => e = .returned (.bool (finD a)) ∧ w = w') := Rfinite a ha w
theorem finD_fi {x : Nat} (hx : x < 18446744073709551616) (h : finD x = true) : Fi x := by
 refine ⟨hx, Nat.lt_of_not_le fun g => ?_⟩
 have key : classD x = 1 ∨ classD x = 2 := by
  unfold classD classOf expD fracD
  by_cases hn : nanD x = true
  ·rw [canonD_nan hn]; exact .inl rfl
  ·rw [canonD_id (Bool.eq_false_iff.2 hn)]
   unfold nanD at hn
   have hn := of_decide_eq_false (Bool.eq_false_iff.2 hn)
   have e1 : x / 4503599627370496 % 2048 = 2047 := by omega
   rw [e1]
   by_cases h0 : x % 4503599627370496 ≠ 0
   ·exact .inl (if_pos ⟨rfl, h0⟩)
   ·exact .inr (by rw [if_neg (fun k => h0 k.2), if_pos rfl])
 unfold finD at h
 have h := of_decide_eq_true h
 rcases key with k | k <;> omega
theorem rat_any (n E : Int) (g : Nat) (hn : n.natAbs < 2 ^ 53) (hE : -1074 ≤ E ∧ E ≤ 1100) (w : World) (hT : Tab32 w) (hI : IntB w g n) : Calls Tryz.prog 131 #[.agg #[.pointer (some ⟨g, 0, none⟩), .int .i64 E]] w (NewRat w (dyR n E) (2 ^ eS) (2 ^ eS)) := by
 have hl : (dg n.natAbs).length ≤ 10 := len32 (K := 53) (J := 10) hn dc
 have key : ∀ k : Nat, k ≤ 1100 → n.natAbs * 2 ^ k ≤ 2 ^ eS := fun k hk => by
  have h1 : n.natAbs * 2 ^ k ≤ 2 ^ 53 * 2 ^ k := Nat.mul_le_mul_right _ (Nat.le_of_lt hn)
  rw [← Nat.pow_add] at h1
  exact Nat.le_trans h1 (Nat.pow_le_pow_right dc (by rw [eS_is]; omega))
 have weak : ∀ M D e w', M ≤ 2 ^ eS → D ≤ 2 ^ eS → NewRat w (dyR n E) M D e w' → NewRat w (dyR n E) (2 ^ eS) (2 ^ eS) e w' := by
  rintro M D e w' hM hD ⟨z, h1, h2, ⟨a, b, k1, k2, k3, k4, k5⟩, h3⟩
  exact ⟨z, h1, h2, ⟨a, b, k1, k2, k3, Nat.le_trans k4 hM, Nat.le_trans k5 hD⟩, h3⟩
 rcases Int.lt_or_le E 0 with g0 | g0
 ·refine (RratOf_lt n E g (-E).toNat om om om hl w hT hI).mono fun e w' h => weak _ _ e w' ?_ ?_ h
  ·have := key 0 dc; rwa [Nat.pow_zero, Nat.mul_one] at this
  ·exact Nat.pow_le_pow_right dc (by rw [eS_is]; omega)
 ·refine (RratOf_ge n E g E.toNat om om hl w hT hI).mono fun e w' h => weak _ _ e w' ?_ ?_ h
  ·rw [Int.natAbs_mul, Int.natAbs_pow]; exact key _ om
  ·exact Nat.one_le_two_pow
theorem Rratof (x : Nat) (h : Fi x) (w : World) (hT : Tab32 w) : Calls Tryz.prog 55 #[.float .f64 x] w (NewRat w (rvD x) (2 ^ eS) (2 ^ eS)) := by
 have HV := Hh (ofP_val h)
 have HN := Hh (ofP_small x)
 have HE := Hh (P64.pExpD_range x)
 have XO := Hh (fun w => Xof x h.1 w)
 have eP : ofN x = ofP x := rfl
 rw [eP] at XO
 clear eP h
 generalize ofP x = n at *; generalize pExpD x = E at *
 have HT := Hh hT; clear hT
 go_enter Tryz.func55, Tryz.ntmps55
 go_wp2_with fail
 refine (XO.out _).mono ?_; rintro r1 w1 ⟨g, rfl, hI, hg, hb1⟩
 have RO := Hh (rat_any n E g HN.out HE.out w1 (HT.out.of hb1) hI)
 clear hI
 go_wp2_with fail
 refine RO.out.mono ?_; rintro r2 w2 ⟨z, rfl, hz, ⟨a, b, k1, k2, k3, k4, k5⟩, hb2⟩
 have HK := Hh (And.intro k1 (And.intro k2 (And.intro k3 (And.intro k4 k5))))
 clear k1 k2 k3 k4 k5
 go_wp2
 go_ret
 exact ⟨z, rfl, Nat.le_trans hb1.size hz, ⟨a, b, HK.out.1, HK.out.2.1, HK.out.2.2.1.trans HV.out, HK.out.2.2.2⟩, hb1.trans hb2⟩
theorem round_len (c : Int) (m : Nat) (h0 : 0 < m) (h1 : m ≤ 70368744177664) : ∃ k : Nat, k < m ∧ (c.tmod (m : Int) + (m : Int)).tmod (m : Int) = (k : Int) ∧ -(m : Int) < c.tmod (m : Int) ∧ c.tmod (m : Int) < (m : Int) := by
 have hM : (0 : Int) < (m : Int) := by omega
 have a1 : c.tmod (m : Int) < (m : Int) := Int.tmod_lt_of_pos _ hM
 have a2 : -(m : Int) < c.tmod (m : Int) := by
  rcases Int.le_total 0 c with hc | hc
  ·have := Int.tmod_nonneg (m : Int) hc; omega
  ·have h2 := Int.tmod_lt_of_pos (-c) hM
   rw [Int.neg_tmod] at h2
   omega
 have a3 : 0 ≤ c.tmod (m : Int) + (m : Int) := by omega
 have a4 := Int.tmod_nonneg (m : Int) a3
 have a5 := Int.tmod_lt_of_pos (c.tmod (m : Int) + (m : Int)) hM
 exact ⟨(c.tmod (m : Int) + (m : Int)).tmod (m : Int) |>.toNat, by omega, by omega, a2, a1⟩
theorem m_powz (n : Nat) (k : Int) (hn : (n : Int) = 1023 + k) (h1 : 1 ≤ n) (h2 : n ≤ 2046) (w : World) : Calls Tryz.prog 79 #[.float .f64 4607182418800017408, .int .i64 k] w fun e w' => e = .returned (.float .f64 (n * 4503599627370496)) ∧ w = w' := by
 refine m_ldexp (fun w => ?_) w
 have h := m_ldexp_norm 4607182418800017408 n k dc dc (by rw [show (4607182418800017408 / 4503599627370496 : Nat) = 1023 by decide]; omega) h1 h2 (by
  rw [show 4607182418800017408 % 4503599627370496 = 0 by decide, Nat.add_zero]
  exact one_mul om) w
 rwa [show 4607182418800017408 % 4503599627370496 = 0 by decide, Nat.add_zero] at h
theorem Holds.le_un {l h : Nat} {e : Rat} (k : Holds l h e) : Fp.un Ieee.double l ≤ Fp.un Ieee.double h := ((full_iff k.1.1 k.2.1).1 k.full).1
theorem len_1200 {n : Nat} (h : n ≤ 2 ^ eS) : (dg n).length ≤ 1000 := Nat.le_trans (len32 (K := eS + 1) (J := 38) (Nat.lt_of_le_of_lt h (Nat.pow_lt_pow_right dc (Nat.lt_succ_self _))) (by rw [eS_is]; decide)) dc
theorem len_5000 {n : Nat} (h : n < 2 ^ eB) : (dg n).length ≤ 1000 := Nat.le_trans (len32 (K := eB) (J := 157) h (by rw [eB_is]; decide)) dc
theorem cmp_le {a c : Int} {b d : Nat} (hb : 0 < b) (hd : 0 < d) (h : frQ a b ≤ frQ c d) : decide (cmpI (a * (d : Int)) (c * (b : Int)) ≤ 0) = true := by
 have := (frQ_le hb hd).1 h
 refine decide_eq_true ?_
 unfold cmpI
 split
 ·omega
 ·rw [if_neg om]; omega
theorem cmp_ge {a c : Int} {b d : Nat} (hb : 0 < b) (hd : 0 < d) (h : frQ c d ≤ frQ a b) : decide (cmpI (a * (d : Int)) (c * (b : Int)) ≥ 0) = true := by
 have := (frQ_le hd hb).1 h
 refine decide_eq_true ?_
 unfold cmpI
 rw [if_neg om]
 split <;> omega
theorem iNew_of (l h a b : Nat) (k : Full l h) (MK : Hid (∀ w, Calls Tryz.prog 109 #[.float .f64 l, .float .f64 h] w (fun r w' => r = .returned (.agg #[.float .f64 a, .float .f64 b]) ∧ Within w w'))) (w : World) : Calls Tryz.prog 31 #[.float .f64 l, .float .f64 h] w (fun r w' => r = .returned (.tuple #[.agg #[.float .f64 a, .float .f64 b], .int .i64 0]) ∧ Within w w') := by
 have F1 := Hh (fun w => ifull l h k.1 k.2.1 w)
 rw [decide_eq_true k] at F1
 clear k
 have hB0 := heap_alloc_new w (.cells #[.float .f64 0, .float .f64 0] 30)
 have hw1 : Within w (w.alloc (.cells #[.float .f64 0, .float .f64 0] 30)) := (Within.refl w).alloc _
 go_enter Tryz.func31, Tryz.ntmps31
 go_wp2_with fail
 refine (F1.out _).mono ?_; rintro r1 w1 ⟨rfl, hb1⟩
 have hB1 := (hb1.block w.heap.size (by simp)).trans hB0
 have hw2 := hw1.trans hb1
 go_wp2_with fail
 refine (MK.out _).mono ?_; rintro r2 w2 ⟨rfl, hb2⟩
 have hBr := (hb2.block w.heap.size (by have := hb1.size; simp at this; omega)).trans hB1
 have hww := hw2.trans hb2
 obtain ⟨k0, k1, kf, kg, k2, r0, r1⟩ := iv_block hBr (.float .f64 a) (.float .f64 b)
 have kf0 := kf 0; have kf1 := kf 1; have kg1 := kg 1
 go_wp2
 (try simp only [Exit.inBlock, Exit.then]); refine bodyPost_ret (v := .tuple #[.agg #[.float .f64 a, .float .f64 b], .int .i64 0]) (by simp [results, Tryz.results31, go_sem, r0, r1]) rfl ?_
 exact ⟨rfl, (hww.setCell (p := ⟨w.heap.size, 0, none⟩) (Nat.le_refl _) _).setCell (p := ⟨w.heap.size, 1, none⟩) (Nat.le_refl _) _⟩
theorem three_in : Fi 4613937818241073152 ∧ Holds 4611686018427387904 4616189618054758400 (rvD 4613937818241073152) :=
 ⟨by unfold Fi; decide, lo_of_un lit_fi.2.1.sane (by unfold Fi; decide) (by decide +kernel), hi_of_un lit_fi.2.2.sane (by unfold Fi; decide) (by decide +kernel)⟩
theorem awake6_true (w : World) : Calls Tryz.prog 6 #[] w (fun r w' => r = .returned (.bool true) ∧ Within w w') := by
 have NW := Hh (fun w => iNew_of 4607182418800017408 4611686018427387904 4607182418800017408 4611686018427387904 lit_full (Hh fun w => imake_of 4607182418800017408 4611686018427387904 4607182418800017408 4611686018427387904 (by decide +kernel) (by decide +kernel) w) w)
 have AD := Hh iAdd_one
 have HS := Hh (fun w => iHas 4611686018427387904 4616189618054758400 4613937818241073152 three_in.1 three_in.2 w)
 have heq : ∀ w, (binOp .eql 30 (.agg #[.float .f64 4611686018427387904, .float .f64 4616189618054758400]) (.agg #[.float .f64 4611686018427387904, .float .f64 4616189618054758400])).run Tryz.prog w = .ok (.bool true) w := fun w => by kernel_rfl
 go_enter Tryz.func6, Tryz.ntmps6
 go_wp2_with fail
 refine (NW.out _).mono ?_; rintro r1 w1 ⟨rfl, hb1⟩
 go_wp2_with fail
 refine (AD.out _).mono ?_; rintro r2 w2 ⟨rfl, hb2⟩
 go_wp2_with fail
 refine (HS.out _).mono ?_; rintro r3 w3 ⟨rfl, hb3⟩
 go_wp2
 go_ret
 exact ⟨rfl, hb1.trans (((Within.refl w1).alloc _).trans (hb2.trans (((Within.refl w2).alloc _).trans hb3)))⟩
theorem lo_inf {l : Nat} {p : Rat} (h : LoOk l p) (n : ¬ Fi l) : l = 18442240474082181120 := by
 rcases not_fi h.1 n with g | g
 ·have k := h.not n
  rw [g, show enW 9218868437227405312 = .hi by unfold enW; rw [if_neg dc, if_pos dc]] at k
  cases k
 ·exact g
theorem hi_inf {l : Nat} {p : Rat} (h : HiOk l p) (n : ¬ Fi l) : l = 9218868437227405312 := by
 rcases not_fi h.1 n with g | g
 ·exact g
 ·have k := h.not n
  rw [g, show enW 18442240474082181120 = .lo by unfold enW; rw [if_neg dc, if_neg dc]] at k
  cases k
theorem zz42 {p : Prop} (h : p := by
 go_wp2_with fail
 refine (IH.out _).mono ?_; rintro r4 w4 ⟨rfl, rfl⟩
 go_wp2_with fail
 refine (RH.out _ (HT.out.of hc3)).mono ?_; rintro r5 w5 ⟨zh, rfl, hzh, ⟨a2, b2, q1, q2, q3, q4, q5⟩, hb5⟩
 have hzy := Hh (hz.out.of (hc3.trans hb5))
 have CN := Hh (Rcmp zh z a2 b2 a b q1 HB.out (len_1200 q4) (len_1200 q5) LA.out LB.out w5 q2 hzy.out)
 have d1 := cmp_ge q1 HB.out (by rw [q3]; exact QH.out)
 clear q1 q2 q3 q4 q5
 generalize cmpI (a2 * (b : Int)) (a * (b2 : Int)) = c2 at *
 go_wp2_with fail
 refine CN.out.mono ?_; rintro r6 w6 ⟨rfl, hb6⟩
 go_wp2
 go_ret
 exact ⟨rfl, hw1.trans (hc3.trans (hb5.trans hb6))⟩) : p := h
theorem holds_11 (l h z : Nat) (a : Int) (b : Nat) (HB : Hid (0 < b)) (HK : Hid (Holds l h (frQ a b))) (LA : Hid ((dg a.natAbs).length ≤ 1000)) (LB : Hid ((dg b).length ≤ 1000)) (fl : Fi l) (gh : Fi h) (hle : (FloatKind.f64.format.order l h == some .lt || FloatKind.f64.format.order l h == some .eq) = true) (w : World) (hT : Tab32 w) (hz : RatB w z a b) : Calls Tryz.prog 10 #[.agg #[.float .f64 l, .float .f64 h], .pointer (some ⟨z, 0, none⟩)] w (fun r w' => r = .returned (.bool true) ∧ Within w w') := by
 have IL := Hh (fun w => m_isinf_m l false (inf_m_fi fl) w)
 have RL := Hh (fun w hT => Rratof l fl w hT)
 have QL := Hh (HK.out.1.rv fl)
 have IH := Hh (fun w => m_isinf_p h false (inf_p_fi gh) w)
 have RH := Hh (fun w hT => Rratof h gh w hT)
 have QH := Hh (HK.out.2.rv gh)
 clear HK fl gh
 have hB0 := heap_alloc_new w (.cells #[.float .f64 l, .float .f64 h] 30)
 have hw1 : Within w (w.alloc (.cells #[.float .f64 l, .float .f64 h] 30)) := (Within.refl w).alloc _
 obtain ⟨x0, x1⟩ := pair_cells hB0
 have l0 : w.heap.size < (w.alloc (.cells #[.float .f64 l, .float .f64 h] 30)).heap.size := by simp
 replace hz := Hh (hz.of hw1)
 have HT := Hh (hT.of hw1)
 clear hT hB0
 go_enter Tryz.func10, Tryz.ntmps10
 go_wp2_with fail
 refine (IL.out _).mono ?_; rintro r1 w1 ⟨rfl, rfl⟩
 go_wp2_with fail
 refine (RL.out _ HT.out).mono ?_; rintro r2 w2 ⟨zl, rfl, hzl, ⟨a1, b1, p1, p2, p3, p4, p5⟩, hb2⟩
 have x12 := (hb2.cells _ _ l0).trans x1
 have hzz := Hh (hz.out.of hb2)
 have CM := Hh (Rcmp zl z a1 b1 a b p1 HB.out (len_1200 p4) (len_1200 p5) LA.out LB.out w2 p2 hzz.out)
 have d0 := cmp_le p1 HB.out (by rw [p3]; exact QL.out)
 clear p1 p2 p3 p4 p5
 generalize cmpI (a1 * (b : Int)) (a * (b1 : Int)) = c at *
 go_wp2_with fail
 refine CM.out.mono ?_; rintro r3 w3 ⟨rfl, hb3⟩
 have x13 := (hb3.cells _ _ (Nat.lt_of_lt_of_le l0 hb2.size)).trans x12
 have hc3 := hb2.trans hb3
 clear x1
 have x14 := x13
 clear x12
 exact zz42
theorem holds_10 (l h z : Nat) (a : Int) (b : Nat) (HB : Hid (0 < b)) (HK : Hid (Holds l h (frQ a b))) (LA : Hid ((dg a.natAbs).length ≤ 1000)) (LB : Hid ((dg b).length ≤ 1000)) (fl : Fi l) (gh : ¬ Fi h) (hle : (FloatKind.f64.format.order l h == some .lt || FloatKind.f64.format.order l h == some .eq) = true) (w : World) (hT : Tab32 w) (hz : RatB w z a b) : Calls Tryz.prog 10 #[.agg #[.float .f64 l, .float .f64 h], .pointer (some ⟨z, 0, none⟩)] w (fun r w' => r = .returned (.bool true) ∧ Within w w') := by
 have IL := Hh (fun w => m_isinf_m l false (inf_m_fi fl) w)
 have RL := Hh (fun w hT => Rratof l fl w hT)
 have QL := Hh (HK.out.1.rv fl)
 obtain rfl := hi_inf HK.out.2 gh
 have IH := Hh (fun w => m_isinf_p 9218868437227405312 true inf_p_inf w)
 clear HK fl gh
 have hB0 := heap_alloc_new w (.cells #[.float .f64 l, .float .f64 9218868437227405312] 30)
 have hw1 : Within w (w.alloc (.cells #[.float .f64 l, .float .f64 9218868437227405312] 30)) := (Within.refl w).alloc _
 obtain ⟨x0, x1⟩ := pair_cells hB0
 have l0 : w.heap.size < (w.alloc (.cells #[.float .f64 l, .float .f64 9218868437227405312] 30)).heap.size := by simp
 replace hz := Hh (hz.of hw1)
 have HT := Hh (hT.of hw1)
 clear hT hB0
 go_enter Tryz.func10, Tryz.ntmps10
 go_wp2_with fail
 refine (IL.out _).mono ?_; rintro r1 w1 ⟨rfl, rfl⟩
 go_wp2_with fail
 refine (RL.out _ HT.out).mono ?_; rintro r2 w2 ⟨zl, rfl, hzl, ⟨a1, b1, p1, p2, p3, p4, p5⟩, hb2⟩
 have x12 := (hb2.cells _ _ l0).trans x1
 have hzz := Hh (hz.out.of hb2)
 have CM := Hh (Rcmp zl z a1 b1 a b p1 HB.out (len_1200 p4) (len_1200 p5) LA.out LB.out w2 p2 hzz.out)
 have d0 := cmp_le p1 HB.out (by rw [p3]; exact QL.out)
 clear p1 p2 p3 p4 p5
 generalize cmpI (a1 * (b : Int)) (a * (b1 : Int)) = c at *
 go_wp2_with fail
 refine CM.out.mono ?_; rintro r3 w3 ⟨rfl, hb3⟩
 have x13 := (hb3.cells _ _ (Nat.lt_of_lt_of_le l0 hb2.size)).trans x12
 have hc3 := hb2.trans hb3
 clear x1
 have x14 := x13
 clear x12
 go_wp2_with fail
 refine (IH.out _).mono ?_; rintro r4 w4 ⟨rfl, rfl⟩
 go_wp2
 go_ret
 exact ⟨rfl, hw1.trans hc3⟩
theorem holds_01 (l h z : Nat) (a : Int) (b : Nat) (HB : Hid (0 < b)) (HK : Hid (Holds l h (frQ a b))) (LA : Hid ((dg a.natAbs).length ≤ 1000)) (LB : Hid ((dg b).length ≤ 1000)) (fl : ¬ Fi l) (gh : Fi h) (hle : (FloatKind.f64.format.order l h == some .lt || FloatKind.f64.format.order l h == some .eq) = true) (w : World) (hT : Tab32 w) (hz : RatB w z a b) : Calls Tryz.prog 10 #[.agg #[.float .f64 l, .float .f64 h], .pointer (some ⟨z, 0, none⟩)] w (fun r w' => r = .returned (.bool true) ∧ Within w w') := by
 obtain rfl := lo_inf HK.out.1 fl
 have IL := Hh (fun w => m_isinf_m 18442240474082181120 true inf_m_inf w)
 have IH := Hh (fun w => m_isinf_p h false (inf_p_fi gh) w)
 have RH := Hh (fun w hT => Rratof h gh w hT)
 have QH := Hh (HK.out.2.rv gh)
 clear HK fl gh
 have hB0 := heap_alloc_new w (.cells #[.float .f64 18442240474082181120, .float .f64 h] 30)
 have hw1 : Within w (w.alloc (.cells #[.float .f64 18442240474082181120, .float .f64 h] 30)) := (Within.refl w).alloc _
 obtain ⟨x0, x1⟩ := pair_cells hB0
 have l0 : w.heap.size < (w.alloc (.cells #[.float .f64 18442240474082181120, .float .f64 h] 30)).heap.size := by simp
 replace hz := Hh (hz.of hw1)
 have HT := Hh (hT.of hw1)
 clear hT hB0
 go_enter Tryz.func10, Tryz.ntmps10
 go_wp2_with fail
 refine (IL.out _).mono ?_; rintro r1 w1 ⟨rfl, rfl⟩
 have x13 := x1
 have hc3 := Within.refl (w.alloc (.cells #[.float .f64 18442240474082181120, .float .f64 h] 30))
 skip
 exact zz42
theorem holds_00 (l h z : Nat) (a : Int) (b : Nat) (HB : Hid (0 < b)) (HK : Hid (Holds l h (frQ a b))) (LA : Hid ((dg a.natAbs).length ≤ 1000)) (LB : Hid ((dg b).length ≤ 1000)) (fl : ¬ Fi l) (gh : ¬ Fi h) (hle : (FloatKind.f64.format.order l h == some .lt || FloatKind.f64.format.order l h == some .eq) = true) (w : World) (hT : Tab32 w) (hz : RatB w z a b) : Calls Tryz.prog 10 #[.agg #[.float .f64 l, .float .f64 h], .pointer (some ⟨z, 0, none⟩)] w (fun r w' => r = .returned (.bool true) ∧ Within w w') := by
 obtain rfl := lo_inf HK.out.1 fl
 have IL := Hh (fun w => m_isinf_m 18442240474082181120 true inf_m_inf w)
 obtain rfl := hi_inf HK.out.2 gh
 have IH := Hh (fun w => m_isinf_p 9218868437227405312 true inf_p_inf w)
 clear HK fl gh
 have hB0 := heap_alloc_new w (.cells #[.float .f64 18442240474082181120, .float .f64 9218868437227405312] 30)
 have hw1 : Within w (w.alloc (.cells #[.float .f64 18442240474082181120, .float .f64 9218868437227405312] 30)) := (Within.refl w).alloc _
 obtain ⟨x0, x1⟩ := pair_cells hB0
 have l0 : w.heap.size < (w.alloc (.cells #[.float .f64 18442240474082181120, .float .f64 9218868437227405312] 30)).heap.size := by simp
 replace hz := Hh (hz.of hw1)
 have HT := Hh (hT.of hw1)
 clear hT hB0
 go_enter Tryz.func10, Tryz.ntmps10
 go_wp2_with fail
 refine (IL.out _).mono ?_; rintro r1 w1 ⟨rfl, rfl⟩
 have x13 := x1
 have hc3 := Within.refl (w.alloc (.cells #[.float .f64 18442240474082181120, .float .f64 9218868437227405312] 30))
 skip
 go_wp2_with fail
 refine (IH.out _).mono ?_; rintro r4 w4 ⟨rfl, rfl⟩
 go_wp2
 go_ret
 exact ⟨rfl, hw1.trans hc3⟩
theorem holds_true (l h z : Nat) (a : Int) (b : Nat) (hb : 0 < b) (k : Holds l h (frQ a b)) (la : (dg a.natAbs).length ≤ 1000) (lb : (dg b).length ≤ 1000) (w : World) (hT : Tab32 w) (hz : RatB w z a b) : Calls Tryz.prog 10 #[.agg #[.float .f64 l, .float .f64 h], .pointer (some ⟨z, 0, none⟩)] w (fun r w' => r = .returned (.bool true) ∧ Within w w') := by
 have hle : (FloatKind.f64.format.order l h == some .lt || FloatKind.f64.format.order l h == some .eq) = true := by rw [c_le k.1.1.2 k.2.1.2]; exact decide_eq_true k.le_un
 by_cases fl : Fi l <;> by_cases gh : Fi h
 ·exact holds_11 l h z a b (Hh hb) (Hh k) (Hh la) (Hh lb) fl gh hle w hT hz
 ·exact holds_10 l h z a b (Hh hb) (Hh k) (Hh la) (Hh lb) fl gh hle w hT hz
 ·exact holds_01 l h z a b (Hh hb) (Hh k) (Hh la) (Hh lb) fl gh hle w hT hz
 ·exact holds_00 l h z a b (Hh hb) (Hh k) (Hh la) (Hh lb) fl gh hle w hT hz
theorem heap_lt {w : World} {z : Nat} {o : Obj} (h : w.heap[z]? = some o) : z < w.heap.size := (Array.getElem?_eq_some_iff.1 h).1
theorem six_cells {w : World} {z : Nat} {c0 c1 c2 c3 c4 c5 : Value} {T : TypeId} (hb : w.heap[z]? = some (.cells #[c0, c1, c2, c3, c4, c5] T (0, 0))) :
 w.cell? ⟨z, 0, none⟩ = some c0 ∧ w.cell? ⟨z, 1, none⟩ = some c1 ∧ w.cell? ⟨z, 2, none⟩ = some c2 ∧ w.cell? ⟨z, 3, none⟩ = some c3 ∧ w.cell? ⟨z, 4, none⟩ = some c4 ∧ w.cell? ⟨z, 5, none⟩ = some c5 ∧ ∀ o, w.frozen? ⟨z, o, none⟩ = false :=
 ⟨by unfold World.cell?; rw [hb]; rfl, by unfold World.cell?; rw [hb]; rfl, by unfold World.cell?; rw [hb]; rfl, by unfold World.cell?; rw [hb]; rfl, by unfold World.cell?; rw [hb]; rfl, by unfold World.cell?; rw [hb]; rfl, fun o => by simp [World.frozen?, hb]⟩
theorem six_set0 {w : World} {z : Nat} {c0 c1 c2 c3 c4 c5 : Value} {T : TypeId} (hb : w.heap[z]? = some (.cells #[c0, c1, c2, c3, c4, c5] T (0, 0))) (a : Value) : (w.setCell ⟨z, 0, none⟩ a).heap[z]? = some (.cells #[a, c1, c2, c3, c4, c5] T (0, 0)) := by simp [World.setCell, Array.getElem?_modify, hb]
theorem six_set1 {w : World} {z : Nat} {c0 c1 c2 c3 c4 c5 : Value} {T : TypeId} (hb : w.heap[z]? = some (.cells #[c0, c1, c2, c3, c4, c5] T (0, 0))) (a : Value) : (w.setCell ⟨z, 1, none⟩ a).heap[z]? = some (.cells #[c0, a, c2, c3, c4, c5] T (0, 0)) := by simp [World.setCell, Array.getElem?_modify, hb]
theorem six_set2 {w : World} {z : Nat} {c0 c1 c2 c3 c4 c5 : Value} {T : TypeId} (hb : w.heap[z]? = some (.cells #[c0, c1, c2, c3, c4, c5] T (0, 0))) (a : Value) : (w.setCell ⟨z, 2, none⟩ a).heap[z]? = some (.cells #[c0, c1, a, c3, c4, c5] T (0, 0)) := by simp [World.setCell, Array.getElem?_modify, hb]
theorem six_set3 {w : World} {z : Nat} {c0 c1 c2 c3 c4 c5 : Value} {T : TypeId} (hb : w.heap[z]? = some (.cells #[c0, c1, c2, c3, c4, c5] T (0, 0))) (a : Value) : (w.setCell ⟨z, 3, none⟩ a).heap[z]? = some (.cells #[c0, c1, c2, a, c4, c5] T (0, 0)) := by simp [World.setCell, Array.getElem?_modify, hb]
theorem six_set4 {w : World} {z : Nat} {c0 c1 c2 c3 c4 c5 : Value} {T : TypeId} (hb : w.heap[z]? = some (.cells #[c0, c1, c2, c3, c4, c5] T (0, 0))) (a : Value) : (w.setCell ⟨z, 4, none⟩ a).heap[z]? = some (.cells #[c0, c1, c2, c3, a, c5] T (0, 0)) := by simp [World.setCell, Array.getElem?_modify, hb]
theorem six_set5 {w : World} {z : Nat} {c0 c1 c2 c3 c4 c5 : Value} {T : TypeId} (hb : w.heap[z]? = some (.cells #[c0, c1, c2, c3, c4, c5] T (0, 0))) (a : Value) : (w.setCell ⟨z, 5, none⟩ a).heap[z]? = some (.cells #[c0, c1, c2, c3, c4, a] T (0, 0)) := by simp [World.setCell, Array.getElem?_modify, hb]
theorem six_store {w : World} {z : Nat} {c0 c1 c2 c3 c4 c5 : Value} {T : TypeId} (hb : w.heap[z]? = some (.cells #[c0, c1, c2, c3, c4, c5] T (0, 0))) (a0 a1 a2 a3 a4 a5 : Value) :
 ((∀ o, w.frozen? ⟨z, o, none⟩ = false) ∧ w.cell? ⟨z, 0, none⟩ = some c0 ∧ (∀ o, (w.setCell ⟨z, 0, none⟩ a0).frozen? ⟨z, o, none⟩ = false) ∧ (w.setCell ⟨z, 0, none⟩ a0).cell? ⟨z, 1, none⟩ = some c1 ∧ (∀ o, ((w.setCell ⟨z, 0, none⟩ a0).setCell ⟨z, 1, none⟩ a1).frozen? ⟨z, o, none⟩ = false) ∧ ((w.setCell ⟨z, 0, none⟩ a0).setCell ⟨z, 1, none⟩ a1).cell? ⟨z, 2, none⟩ = some c2 ∧ (∀ o, (((w.setCell ⟨z, 0, none⟩ a0).setCell ⟨z, 1, none⟩ a1).setCell ⟨z, 2, none⟩ a2).frozen? ⟨z, o, none⟩ = false) ∧ (((w.setCell ⟨z, 0, none⟩ a0).setCell ⟨z, 1, none⟩ a1).setCell ⟨z, 2, none⟩ a2).cell? ⟨z, 3, none⟩ = some c3 ∧ (∀ o, ((((w.setCell ⟨z, 0, none⟩ a0).setCell ⟨z, 1, none⟩ a1).setCell ⟨z, 2, none⟩ a2).setCell ⟨z, 3, none⟩ a3).frozen? ⟨z, o, none⟩ = false) ∧ ((((w.setCell ⟨z, 0, none⟩ a0).setCell ⟨z, 1, none⟩ a1).setCell ⟨z, 2, none⟩ a2).setCell ⟨z, 3, none⟩ a3).cell? ⟨z, 4, none⟩ = some c4 ∧ (∀ o, (((((w.setCell ⟨z, 0, none⟩ a0).setCell ⟨z, 1, none⟩ a1).setCell ⟨z, 2, none⟩ a2).setCell ⟨z, 3, none⟩ a3).setCell ⟨z, 4, none⟩ a4).frozen? ⟨z, o, none⟩ = false) ∧ (((((w.setCell ⟨z, 0, none⟩ a0).setCell ⟨z, 1, none⟩ a1).setCell ⟨z, 2, none⟩ a2).setCell ⟨z, 3, none⟩ a3).setCell ⟨z, 4, none⟩ a4).cell? ⟨z, 5, none⟩ = some c5) ∧ ((((((w.setCell ⟨z, 0, none⟩ a0).setCell ⟨z, 1, none⟩ a1).setCell ⟨z, 2, none⟩ a2).setCell ⟨z, 3, none⟩ a3).setCell ⟨z, 4, none⟩ a4).setCell ⟨z, 5, none⟩ a5).heap[z]? = some (.cells #[a0, a1, a2, a3, a4, a5] T (0, 0)) := by
 have h1 := six_set0 hb a0
 have h2 := six_set1 h1 a1
 have h3 := six_set2 h2 a2
 have h4 := six_set3 h3 a3
 have h5 := six_set4 h4 a4
 have h6 := six_set5 h5 a5
 refine ⟨⟨(six_cells hb).2.2.2.2.2.2, (six_cells hb).1, (six_cells h1).2.2.2.2.2.2, (six_cells h1).2.1, (six_cells h2).2.2.2.2.2.2, (six_cells h2).2.2.1, (six_cells h3).2.2.2.2.2.2, (six_cells h3).2.2.2.1, (six_cells h4).2.2.2.2.2.2, (six_cells h4).2.2.2.2.1, (six_cells h5).2.2.2.2.2.2, (six_cells h5).2.2.2.2.2.1⟩, h6⟩
theorem six_other {w : World} {z j : Nat} (h : j ≠ z) (a0 a1 a2 a3 a4 a5 : Value) : ((((((w.setCell ⟨z, 0, none⟩ a0).setCell ⟨z, 1, none⟩ a1).setCell ⟨z, 2, none⟩ a2).setCell ⟨z, 3, none⟩ a3).setCell ⟨z, 4, none⟩ a4).setCell ⟨z, 5, none⟩ a5).heap[j]? = w.heap[j]? := by
 rw [Below.heap_setCell _ _ _ _ h, Below.heap_setCell _ _ _ _ h, Below.heap_setCell _ _ _ _ h, Below.heap_setCell _ _ _ _ h, Below.heap_setCell _ _ _ _ h, Below.heap_setCell _ _ _ _ h]
theorem six_within {w w' : World} {z : Nat} (h : Within w w') (hz : w.heap.size ≤ z) (a0 a1 a2 a3 a4 a5 : Value) : Within w (((((((w'.setCell ⟨z, 0, none⟩ a0).setCell ⟨z, 1, none⟩ a1).setCell ⟨z, 2, none⟩ a2).setCell ⟨z, 3, none⟩ a3).setCell ⟨z, 4, none⟩ a4).setCell ⟨z, 5, none⟩ a5)) :=
 (((((h.setCell (p := ⟨z, 0, none⟩) hz _).setCell (p := ⟨z, 1, none⟩) hz _).setCell (p := ⟨z, 2, none⟩) hz _).setCell (p := ⟨z, 3, none⟩) hz _).setCell (p := ⟨z, 4, none⟩) hz _).setCell (p := ⟨z, 5, none⟩) hz _
theorem RatB.kept {w w' : World} {g t : Nat} {a : Int} {b : Nat} {cs : Array Value} {T : TypeId} (h : RatB w g a b) (ht : w.heap[t]? = some (.cells cs T (0, 0))) (h1 : T ≠ 96) (h2 : T ≠ 153) (k : ∀ j, j ≠ t → w'.heap[j]? = w.heap[j]?) : RatB w' g a b := by
 obtain ⟨A, c, Bv, cb, hb, k1, k2, k3, k4⟩ := h
 have n1 : g ≠ t := by
  rintro rfl
  rw [hb] at ht
  injection ht with ht
  injection ht with _ e
  exact h1 e.symm
 have n2 : ∀ b m fn, w.rowIs b 153 m fn → b ≠ t := by
  rintro b m fn ⟨c, hb, _⟩ rfl
  rw [hb] at ht
  injection ht with ht
  injection ht with _ e
  exact h2 e.symm
 exact ⟨A, c, Bv, cb, (k g n1).trans hb, k1, k2.of_block fun b m fn hr => k b (n2 b m fn hr), k3, k4.of_block fun b m fn hr => k b (n2 b m fn hr)⟩
theorem KnownP.kept {w w' : World} {r : Value} {l h K t : Nat} {cs : Array Value} (k : KnownP w r l h K) (ht : w.heap[t]? = some (.cells cs 33 (0, 0))) (hk : ∀ j, j ≠ t → w'.heap[j]? = w.heap[j]?) : KnownP w' r l h K := by
 obtain ⟨z, a, b, h1, h2, h3, h4⟩ := k
 exact ⟨z, a, b, h1, h2, h3.kept ht dc dc hk, h4⟩
def StP (W : World) (e : Ending) (w' : World) : Prop := ∃ (x l h : Nat) (q : Option Addr) (kn fi : Bool), e = .returned (.agg #[.float .f64 x, .float .f64 l, .float .f64 h, .pointer q, .bool kn, .bool fi]) ∧ Ent w' x l h (.pointer q) kn fi eB ∧ Within W w'
theorem point_ent {x lo hi a b z : Nat} {p : Int} {q : Nat} {w : World} (hx : Fi x) (h1 : Fp.un Ieee.double lo ≤ Fp.un Ieee.double x) (h2 : Fp.un Ieee.double x ≤ Fp.un Ieee.double hi) (fl : Fi lo) (fh : Fi hi) (sa : Sane a) (sb : Sane b) (ua : Fp.un Ieee.double a = Fp.un Ieee.double lo) (ub : Fp.un Ieee.double b = Fp.un Ieee.double hi)
 (hq : 0 < q) (hr : RatB w z p q) (he : frQ p q = rvD x) (hp : p.natAbs ≤ 2 ^ eS) (hq2 : q ≤ 2 ^ eS) : Ent w x a b (.pointer (some ⟨z, 0, none⟩)) true true eB := by
 have k : Holds a b (rvD x) := holds_un ⟨lo_of_un fl.sane hx h1, hi_of_un fh.sane hx h2⟩ sa sb ua ub
 have e : 2 ^ eS < 2 ^ eB := Nat.pow_lt_pow_right dc (by rw [eS_is, eB_is]; decide)
 exact ⟨hx.1, .inl k.full, fun _ => ⟨hx, k⟩, fun _ => ⟨z, p, q, rfl, hq, hr, by rw [he]; exact k, Nat.lt_of_le_of_lt hp e, Nat.lt_of_le_of_lt hq2 e⟩⟩
theorem top_f (a : Nat) (w : World) : Calls Tryz.prog 22 #[.int .u64 (a : Int)] w (fun e w' => e = .returned (.float .f64 a) ∧ w = w') := by
 have hf := mx_from64 (a : Int)
 go_enter Tryz.func22, Tryz.ntmps22
 go_wp2
 go_ret
 exact ⟨rfl, rfl⟩
theorem thq_fi : Fi 4604930618986332160 := by unfold Fi; decide
theorem zz48 {p : Prop} (h : p := by
 go_wp2_with fail
 refine (AB.out _).mono ?_; rintro r5 w5 ⟨rfl, rfl⟩
 go_wp2_with fail
 refine (LP.out _).mono ?_; rintro r6 w6 ⟨rfl, rfl⟩
 go_wp2_with fail
 refine (AB.out _).mono ?_; rintro r7 w7 ⟨rfl, rfl⟩
 go_wp2_with fail
 refine (LM.out _).mono ?_; rintro r8 w8 ⟨rfl, rfl⟩
 go_wp2_with fail
 go_meet
 exact ⟨⟨_, rfl⟩, rfl⟩) : p := h
theorem zz69 {p : Prop} (h : p := by
 go_wp2_with fail
 refine (AB.out _).mono ?_; rintro r5 w5 ⟨rfl, rfl⟩
 go_wp2_with fail
 refine (LP.out _).mono ?_; rintro r6 w6 ⟨rfl, rfl⟩
 go_wp2_with fail
 go_meet
 exact ⟨⟨_, rfl⟩, rfl⟩) : p := h
theorem point_any (K A B : Int) (X Y : Nat) (hX : X < 18446744073709551616) (hY : Y < 18446744073709551616) (w : World) (hT : Tab32 w) : Calls Tryz.prog 33 #[.agg #[.int .i64 K, .int .i64 A, .int .i64 B, .int .u64 (X : Int), .int .u64 (Y : Int)]] w (StP w) := by
 have FX := Hh (fun w => top_finite X hX w); have FY := Hh (fun w => top_finite Y hY w)
 have HX := Hh (fun e => finD_fi hX e); have HY := Hh (fun e => finD_fi hY e)
 clear hX hY
 generalize finD X = fx at *; generalize finD Y = fy at *
 have LP := Hh (fun w => m_powz 1083 60 dc dc dc w); have LM := Hh (fun w => m_powz 963 (-60) dc dc dc w)
 have a1 : Within w (w.alloc (.cells #[.int .i64 K, .int .i64 A, .int .i64 B, .int .u64 (X : Int), .int .u64 (Y : Int)] 27)) := (Within.refl w).alloc _
 have a2 : Within (w.alloc (.cells #[.int .i64 K, .int .i64 A, .int .i64 B, .int .u64 (X : Int), .int .u64 (Y : Int)] 27)) ((w.alloc (.cells #[.int .i64 K, .int .i64 A, .int .i64 B, .int .u64 (X : Int), .int .u64 (Y : Int)] 27)).alloc (.cells #[.float .f64 0, .float .f64 0, .float .f64 0, .pointer none, .bool false, .bool false] 33)) := (Within.refl _).alloc _
 have hB0 := (a2.block w.heap.size (by simp)).trans (heap_alloc_new w (.cells #[.int .i64 K, .int .i64 A, .int .i64 B, .int .u64 (X : Int), .int .u64 (Y : Int)] 27))
 have hB1 := heap_alloc_new (w.alloc (.cells #[.int .i64 K, .int .i64 A, .int .i64 B, .int .u64 (X : Int), .int .u64 (Y : Int)] 27)) (.cells #[.float .f64 0, .float .f64 0, .float .f64 0, .pointer none, .bool false, .bool false] 33)
 have hs1 : (w.alloc (.cells #[.int .i64 K, .int .i64 A, .int .i64 B, .int .u64 (X : Int), .int .u64 (Y : Int)] 27)).heap.size = w.heap.size + 1 := by simp
 rw [hs1] at hB1
 clear hs1
 have hwA := a1.trans a2
 have HT := Hh (hT.of hwA)
 clear hT a1 a2
 go_enter Tryz.func33, Tryz.ntmps33
 go_upto_region 1 with fail
 obtain ⟨WA, hWA⟩ : ∃ W, W = (w.alloc (.cells #[.int .i64 K, .int .i64 A, .int .i64 B, .int .u64 (X : Int), .int .u64 (Y : Int)] 27)).alloc (.cells #[.float .f64 0, .float .f64 0, .float .f64 0, .pointer none, .bool false, .bool false] 33) := ⟨_, rfl⟩
 have hsA : WA.heap.size = w.heap.size + 2 := by rw [hWA]; simp
 rw [← hWA] at hwA hB0 hB1 HT ⊢
 clear hWA
 have HS := Hh hsA
 clear hsA
 have x3 : WA.cell? ⟨w.heap.size, 3, none⟩ = some (.int .u64 (X : Int)) := by unfold World.cell?; rw [hB0]; rfl
 have x4 : WA.cell? ⟨w.heap.size, 4, none⟩ = some (.int .u64 (Y : Int)) := by unfold World.cell?; rw [hB0]; rfl
 have l0 : w.heap.size < WA.heap.size := by have := HS.out; omega
 clear hB0
 refine wp_region_schG (fun W => W.cell? ⟨w.heap.size, 3, none⟩ = some (.int .u64 (X : Int)) ∧ W.cell? ⟨w.heap.size, 4, none⟩ = some (.int .u64 (Y : Int)) ∧ w.heap.size < W.heap.size ∧ Within WA W ∧ W.heap[w.heap.size + 1]? = some (.cells #[.float .f64 0, .float .f64 0, .float .f64 0, .pointer none, .bool false, .bool false] 33 (0, 0))) 7 (.firm 0 (.firm 1 (.firm 3 (.firm 4 (.one 2 (.one 5 (.firm 6 (.one 7 .nil)))))))) kr kr ⟨x3, x4, l0, Within.refl WA, hB1⟩ ?_
 rintro w0 ⟨y3, y4, yl, hw0, hBk⟩
 try simp only [pu]
 iterate 4
  apply sch_firm rfl rfl wi
  ·intro wq hq
   have hcq := hq.cells
   clear hq
   go_simp
   rfl
  try simp only [pu]
 refine sch_one rfl rfl (fun K hK => ?_)
 go_simp
 refine (top_f X _).mono ?_; rintro r1 w1 ⟨rfl, rfl⟩
 refine hK _ _ (fun _ => wi) ?_
 clear hK K
 try simp only [pu]
 refine sch_one rfl rfl (fun K hK => ?_)
 go_simp
 refine (top_f Y _).mono ?_; rintro r2 w2 ⟨rfl, rfl⟩
 refine hK _ _ (fun _ => wi) ?_
 clear hK K
 try simp only [pu]
 apply sch_firm rfl rfl wi
 ·intro wq hq
  have hcq := hq.cells
  clear hq
  go_simp
  rfl
 try simp only [pu]
 refine sch_one rfl rfl (fun K hK => ?_)
 go_simp
 refine hK _ _ ab ?_
 clear hK K
 try simp only [pu]
 refine sch_nil ?_
 go_wp2_with fail
 refine (FX.out _).mono ?_; rintro r3 w3 ⟨rfl, rfl⟩
 obtain ⟨W2, hW2⟩ : ∃ W, W = w0.drew := ⟨_, rfl⟩
 have hw2 : Within w0 W2 := by rw [hW2]; exact (Within.refl _).drew
 rw [← hW2]
 replace hBk := (hw2.block _ (heap_lt hBk)).trans hBk
 clear hW2 y3 y4 yl
 go_upto_if 15 with fail
 go_cut [3] (fun s3 wx => ∃ x1, s3 = .float .f64 x1 ∧ Fi x1 ∧ W2 = wx)
 case first =>
  cases fx
  ·go_wp2_with fail
   go_meet
   exact ⟨_, rfl, lit_fi.1, rfl⟩
  ·go_wp2_with fail
   go_meet
   exact ⟨_, rfl, HX.out (by trivial), rfl⟩
 case rest =>
 obtain ⟨x1, rfl, hx1, rfl⟩ := hcut
 have HX1 := Hh hx1; clear hx1
 go_wp2_with fail
 refine (FY.out _).mono ?_; rintro r4 w4 ⟨rfl, rfl⟩
 go_upto_if 18 with fail
 go_cut [4] (fun s4 wx => ∃ y1, s4 = .float .f64 y1 ∧ Fi y1 ∧ W2 = wx)
 case first =>
  cases fy
  ·go_wp2_with fail
   go_meet
   exact ⟨_, rfl, HX1.out, rfl⟩
  ·go_wp2_with fail
   go_meet
   exact ⟨_, rfl, HY.out (by trivial), rfl⟩
 case rest =>
 obtain ⟨y1, rfl, hy1, rfl⟩ := hcut
 have HY1 := Hh hy1; clear hy1
 have AB := Hh (fun w => m_abs x1 HX1.out.1 w)
 generalize hg1 : (FloatKind.f64.format.order (x1 % 9223372036854775808) 4877398396442247168 == some .gt) = g1
 generalize hn0 : (FloatKind.f64.format.order x1 0 != some .eq) = n0
 generalize hg2 : (FloatKind.f64.format.order (x1 % 9223372036854775808) 4336966441157787648 == some .lt) = g2
 go_upto_region 6 with fail
 go_cut [33] (fun s33 wx => (∃ b : Bool, s33 = .bool b) ∧ W2 = wx)
 case first =>
  cases g1
  ·cases n0
   ·exact zz69
   ·cases g2
    ·exact zz48
    ·exact zz48
  ·exact zz69
 case rest =>
 obtain ⟨⟨b, rfl⟩, rfl⟩ := hcut
 clear hg1 hn0 hg2 g1 n0 g2
 go_upto_if 33 with fail
 go_cut [3] (fun s3 wx => ∃ x2, s3 = .float .f64 x2 ∧ Fi x2 ∧ W2 = wx)
 case first =>
  cases b
  ·go_wp2_with fail
   go_meet
   exact ⟨_, rfl, HX1.out, rfl⟩
  ·go_wp2_with fail
   go_meet
   exact ⟨_, rfl, thq_fi, rfl⟩
 case rest =>
 obtain ⟨x2, rfl, hx2, rfl⟩ := hcut
 have RO := Hh (fun w hT => Rratof x2 hx2 w hT)
 obtain ⟨lo, flo, lo1, lo2, MN⟩ := m_Min_fi x2 y1 hx2 HY1.out
 obtain ⟨hi, fhi, hi1, hi2, MX⟩ := m_Max_fi x2 y1 hx2 HY1.out
 replace MN := Hh MN; replace MX := Hh MX
 have NW := Hh (fun w => iNew lo hi ((full_iff flo.sane fhi.sane).2 ⟨by omega, (un_fi flo).2, (un_fi fhi).1⟩) w)
 have HF := Hh (And.intro hx2 (And.intro lo1 (And.intro hi1 (And.intro flo fhi))))
 clear hx2 lo1 lo2 hi1 hi2 flo fhi FX FY HX HY AB LP LM
 go_wp2_with fail
 refine (MN.out _).mono ?_; rintro r9 w9 ⟨rfl, rfl⟩
 go_wp2_with fail
 refine (MX.out _).mono ?_; rintro r10 w10 ⟨rfl, rfl⟩
 go_wp2_with fail
 refine (NW.out _).mono ?_; rintro r11 w11 ⟨a, b, rfl, sa, sb, ua, ub, hb11⟩
 have HU := Hh (And.intro sa (And.intro sb (And.intro ua ub)))
 clear sa sb ua ub
 have hw11 := (hw0.trans hw2).trans hb11
 go_upto_region 9 with fail
 obtain ⟨W1, hW1⟩ : ∃ W, W = w11.alloc (.cells #[.float .f64 a, .float .f64 b] 30) := ⟨_, rfl⟩
 have hA1 : Within w11 W1 := by rw [hW1]; exact (Within.refl _).alloc _
 have hb1 : W1.heap[w11.heap.size]? = some (.cells #[.float .f64 a, .float .f64 b] 30 (0, 0)) := by rw [hW1]; exact heap_alloc_new w11 _
 rw [← hW1]
 clear hW1
 obtain ⟨i0, i1⟩ := pair_cells hb1
 have il := heap_lt hb1
 have hBx := (hA1.block _ (Nat.lt_of_lt_of_le (heap_lt hBk) hb11.size)).trans ((hb11.block _ (heap_lt hBk)).trans hBk)
 have hwx := hw11.trans hA1
 have hil := Nat.le_trans hwA.size hw11.size
 clear hBk x3 x4 l0 hB1 hb1
 refine wp_region_schG (fun W => W.cell? ⟨w11.heap.size, 0, none⟩ = some (.float .f64 a) ∧ W.cell? ⟨w11.heap.size, 1, none⟩ = some (.float .f64 b) ∧ w11.heap.size < W.heap.size ∧ Within WA W ∧ W.heap[w.heap.size + 1]? = some (.cells #[.float .f64 0, .float .f64 0, .float .f64 0, .pointer none, .bool false, .bool false] 33 (0, 0))) 5 (.firm 0 (.firm 1 (.firm 2 (.one 3 (.firm 4 (.one 5 .nil)))))) kr kr ⟨i0, i1, il, hwx, hBx⟩ ?_
 rintro W0 ⟨j0, j1, jl, hwy, hBy⟩
 try simp only [pu]
 iterate 3
  apply sch_firm rfl rfl wi
  ·intro wq hq
   have hcq := hq.cells
   clear hq
   go_simp
   rfl
  try simp only [pu]
 refine sch_one rfl rfl (fun K hK => ?_)
 go_simp
 refine (RO.out _ (HT.out.of hwy.drew)).mono ?_; rintro r12 w12 ⟨z, rfl, hz, ⟨p, q, k1, k2, k3, k4, k5⟩, hb12⟩
 have hv12 : Within W0 w12 := (Within.refl _).drew.trans hb12
 refine hK _ _ (fun _ => wi) ?_
 clear hK K
 try simp only [pu]
 apply sch_firm rfl rfl wi
 ·intro wq hq
  have hcq := hq.cells
  clear hq
  go_simp
  rfl
 try simp only [pu]
 refine sch_one rfl rfl (fun K hK => ?_)
 have hB12 := (hv12.block _ (heap_lt hBy)).trans hBy
 obtain ⟨⟨g0, q0, g1, q1, g2, q2, g3, q3, g4, q4, g5, q5⟩, hFin⟩ := six_store hB12 (.float .f64 x2) (.float .f64 a) (.float .f64 b) (.pointer (some ⟨z, 0, none⟩)) (.bool true) (.bool true)
 have g00 := g0 0; have g11 := g1 1; have g22 := g2 2; have g33 := g3 3; have g44 := g4 4; have g55 := g5 5
 obtain ⟨e0, e1, e2, e3, e4, e5, _⟩ := six_cells hFin
 have HR := Hh (k2.kept hB12 dc dc (fun j hj => six_other (z := w.heap.size + 1) hj (.float .f64 x2) (.float .f64 a) (.float .f64 b) (.pointer (some ⟨z, 0, none⟩)) (.bool true) (.bool true)))
 have HK := Hh (And.intro k1 (And.intro k3 (And.intro k4 k5)))
 have HW := Hh (six_within ((hwA.trans hwy).trans hv12) (Nat.le_succ w.heap.size) (.float .f64 x2) (.float .f64 a) (.float .f64 b) (.pointer (some ⟨z, 0, none⟩)) (.bool true) (.bool true))
 clear k1 k2 k3 k4 k5 hFin hB12 hBy g0 g1 g2 g3 g4 g5
 go_simp
 refine hK _ _ ab ?_
 clear hK K
 try simp only [pu]
 refine sch_nil ?_
 go_wp2
 (try simp only [Exit.inBlock, Exit.then]); refine bodyPost_ret (v := .agg #[.float .f64 x2, .float .f64 a, .float .f64 b, .pointer (some ⟨z, 0, none⟩), .bool true, .bool true]) (by simp [results, Tryz.results33, go_sem, e0, e1, e2, e3, e4, e5]) rfl ?_
 exact ⟨x2, a, b, _, true, true, rfl, point_ent HF.out.1 HF.out.2.1 HF.out.2.2.1 HF.out.2.2.2.1 HF.out.2.2.2.2 HU.out.1 HU.out.2.1 HU.out.2.2.1 HU.out.2.2.2 HK.out.1 HR.out HK.out.2.1 HK.out.2.2.1 HK.out.2.2.2, HW.out⟩
end Go.Proofs.YtgkcpnidmfejeaaGreatDoor
