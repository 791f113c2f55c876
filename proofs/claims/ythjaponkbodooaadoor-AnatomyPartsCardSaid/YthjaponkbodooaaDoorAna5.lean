/- WHAT anatomy's INNER FUNCTIONS COME TO, further: made put together; ulp. -/
import Derived.Test.YthjaponkbodooaaDoorAna4
namespace Go.Proofs.YthjaponkbodooaaDoor
open Go.RowKit

theorem lt_bitLen (x : Nat) (hx : x < 18446744073709551616) : x < 2 ^ Lib.bitLen x := by
  by_cases h : x = 0
  · subst h; decide
  · rw [bitLen_log2 x h hx]; exact Nat.lt_log2_self
theorem bitLen_le64 (x : Nat) (hx : x < 18446744073709551616) : Lib.bitLen x ≤ 64 := by
  by_cases h : x = 0
  · subst h; decide
  · rw [bitLen_log2 x h hx]
    have : x.log2 < 64 := (Nat.log2_lt h).2 (by simpa using hx)
    omega
theorem oddM_lt (x : Nat) (hx : x < 18446744073709551616) : oddM x < 18446744073709551616 := by
  unfold oddM
  exact Nat.lt_of_le_of_lt (Nat.div_le_self _ _) hx


theorem topD_lt (mant : Nat) (e : Int) (hm : mant < 18446744073709551616) (h : badD mant e = false) : topD mant e < 2 * 4503599627370496 := by
  have hb := lt_bitLen (oddM mant) (oddM_lt mant hm)
  have hl : Lib.bitLen (oddM mant) ≤ 53 := by unfold badD at h; simp at h; omega
  have hd : downD mant e ≤ 53 - Lib.bitLen (oddM mant) := by unfold downD; omega
  unfold topD
  have h1 : oddM mant * 2 ^ downD mant e ≤ oddM mant * 2 ^ (53 - Lib.bitLen (oddM mant)) := Nat.mul_le_mul_left _ (Nat.pow_le_pow_right (by decide) hd)
  have h2 : oddM mant * 2 ^ (53 - Lib.bitLen (oddM mant)) < 2 ^ Lib.bitLen (oddM mant) * 2 ^ (53 - Lib.bitLen (oddM mant)) := (Nat.mul_lt_mul_right (Nat.two_pow_pos _)).2 hb
  have h3 : 2 ^ Lib.bitLen (oddM mant) * 2 ^ (53 - Lib.bitLen (oddM mant)) = 2 ^ 53 := by rw [← Nat.pow_add]; congr 1; omega
  have h4 : (2 : Nat) ^ 53 = 2 * 4503599627370496 := rfl
  omega

theorem made_D (neg : Bool) (mant : Nat) (e : Int) (hb : mant < 18446744073709551616) (w : World) (hT : Tab w) :
    Calls Tryd.prog 79 #[.agg #[.bool neg, .int .u64 mant, .int .i64 e], dbl] w fun e' w' => e' = .returned (.tuple #[.int .u64 (madeD neg mant e), .int .i64 (madeED mant e)]) ∧ Within w w' := by
  by_cases h0 : mant = 0
  · subst h0
    have := madeZero_D neg e w
    simpa [madeD, madeED] using this
  have t1 : ((mant : Int) == 0) = false := beq_eq_false_iff_ne.2 (by omega)
  by_cases h1 : 2150 < e ∨ e < -2150
  · have hbad : badD mant e = true := by unfold badD; simp; omega
    have hv : (madeD neg mant e : Int) = 0 ∧ madeED mant e = 10 := by unfold madeD madeED; rw [if_neg h0, if_neg h0, if_pos hbad, if_pos hbad]; exact ⟨rfl, rfl⟩
    rw [hv.1, hv.2]
    exact madeFar_D neg mant e t1 h1 w
  obtain ⟨_, hz, hk⟩ := ctz_split mant h0 hb
  clear hz
  have hq := oddM_lt mant hb
  by_cases h3 : (53 : Nat) < Lib.bitLen (oddM mant) ∨ e + Lib.ctz 64 mant < -1074
  · have hbad : badD mant e = true := by unfold badD oddE; simp; omega
    have hv : (madeD neg mant e : Int) = 0 ∧ madeED mant e = 10 := by unfold madeD madeED; rw [if_neg h0, if_neg h0, if_pos hbad, if_pos hbad]; exact ⟨rfl, rfl⟩
    rw [hv.1, hv.2]
    exact madeBad_D neg mant (Lib.ctz 64 mant) (oddM mant) e hb t1 (by omega) (by omega) (Lib.hid hk) (Lib.hid rfl) (Lib.hid rfl) (Lib.hid hq) h3 w hT
  have hbad : badD mant e = false := by unfold badD oddE; simp; omega
  have htop := topD_lt mant e hb hbad
  have hnb : ¬ (badD mant e = true) := by simp [hbad]
  have hl : Lib.bitLen (oddM mant) ≤ 53 := by omega
  have hD : min ((53 : Int) - Lib.bitLen (oddM mant)) (e + Lib.ctz 64 mant + 1074) = downD mant e := by unfold downD oddE; omega
  have hD2 : downD mant e < 64 := by unfold downD; omega
  by_cases h4 : topD mant e < 4503599627370496
  · have hf : fieldD mant e = 0 := by unfold fieldD; rw [if_pos h4]
    have hv : madeD neg mant e = joinD neg 0 (topD mant e) ∧ madeED mant e = joinED 0 (topD mant e) := by
      unfold madeD madeED; rw [if_neg h0, if_neg h0, if_neg hnb, if_neg hnb, hf, if_neg (by decide), if_neg (by decide), Nat.mod_eq_of_lt h4]; exact ⟨rfl, rfl⟩
    rw [hv.1, hv.2]
    exact madeLow_D neg mant (Lib.ctz 64 mant) (oddM mant) (downD mant e) (topD mant e) e hb t1 (by omega) (by omega) (Lib.hid hk) (Lib.hid rfl) (Lib.hid rfl) (Lib.hid hq) hD (by omega) (by omega) (Lib.hid hD2) (Lib.hid rfl) (Lib.hid (by omega)) (by omega) w hT
  have hf : fieldD mant e = e + Lib.ctz 64 mant - downD mant e + 1075 := by unfold fieldD oddE; rw [if_neg h4]
  by_cases h5 : 2047 ≤ fieldD mant e
  · have hv : (madeD neg mant e : Int) = 0 ∧ madeED mant e = 10 := by
      unfold madeD madeED; rw [if_neg h0, if_neg h0, if_neg hnb, if_neg hnb, if_pos h5, if_pos h5]; exact ⟨rfl, rfl⟩
    rw [hv.1, hv.2]
    exact madeOver_D neg mant (Lib.ctz 64 mant) (oddM mant) (downD mant e) (topD mant e) e hb t1 (by omega) (by omega) (Lib.hid hk) (Lib.hid rfl) (Lib.hid rfl) (Lib.hid hq) hD (by omega) (by omega) (Lib.hid hD2) (Lib.hid rfl) (Lib.hid (by omega)) (by omega) (by omega) w hT
  · have hmod : topD mant e % 4503599627370496 = topD mant e - 4503599627370496 := by omega
    have hv : madeD neg mant e = joinD neg (e + Lib.ctz 64 mant - downD mant e + 1075) (topD mant e - 4503599627370496) ∧ madeED mant e = joinED (e + Lib.ctz 64 mant - downD mant e + 1075) (topD mant e - 4503599627370496) := by
      unfold madeD madeED; rw [if_neg h0, if_neg h0, if_neg hnb, if_neg hnb, if_neg h5, if_neg h5, hmod, hf]; exact ⟨rfl, rfl⟩
    rw [hv.1, hv.2]
    exact madeNorm_D neg mant (Lib.ctz 64 mant) (oddM mant) (downD mant e) (topD mant e) e hb t1 (by omega) (by omega) (Lib.hid hk) (Lib.hid rfl) (Lib.hid rfl) (Lib.hid hq) hD (by omega) (by omega) (Lib.hid hD2) (Lib.hid rfl) (Lib.hid (by omega)) (by omega) htop (by omega) w hT

def ulpD (b : Nat) : Nat := if expD b = 2047 then (if fracD b = 0 then 9218868437227405312 else canonD b) else madeD false 1 ((if expD b = 0 then 1 else expD b : Nat) - 1075)

set_option maxRecDepth 100000 in
set_option maxHeartbeats 600000 in
theorem ulp_D (b : Nat) (hb : b < 18446744073709551616) (w : World) (hT : Tab w) : Calls Tryd.prog 105 #[.int .u64 b, dbl] w fun e w' => e = .returned (.int .u64 (ulpD b)) ∧ Within w w' := by
  generalize hv : (ulpD b : Int) = r
  unfold ulpD at hv
  by_cases c1 : expD b = 2047
  · by_cases c2 : fracD b = 0
    · have hcl : classD b = 2 := by unfold classD classOf; rw [if_neg (by omega), if_pos c1]
      rw [if_pos c1, if_pos c2] at hv; subst hv
      have H0 := Lib.hid hb
      have CL := Lib.hid (class_D b H0.out)
      rw [hcl] at CL
      clear hcl hb c1 c2
      go_enter Tryd.func105, Tryd.ntmps105
      go_wp2_with fail
      refine (split_D b H0.out _).mono ?_; rintro e1 w1 ⟨rfl, hb1⟩
      have hc1 := hb1.cells; have hz1 : w.heap.size < w1.heap.size := (by have := hb1.sizes; simp at this; omega)
      go_wp2_with fail
      refine (CL.out _).mono ?_; rintro e2 w2 ⟨rfl, hb2⟩
      have hc2 := hb2.cells; have hz2 : w.heap.size < w2.heap.size := (by have := hb2.sizes; omega)
      go_wp2_with fail
      refine (infinite_D _).mono ?_; rintro e3 w3 ⟨rfl, hb3⟩
      go_wp2
      go_ret
      exact ⟨rfl, (by repeat (first | with_reducible exact Within.refl _ | with_reducible assumption | with_reducible refine Within.alloc ?_ _ | with_reducible refine Within.drew ?_ | with_reducible refine Within.trans ?_ (by assumption)))⟩
    · have hcl : classD b = 1 := by unfold classD classOf; rw [if_pos ⟨c1, c2⟩]
      rw [if_pos c1, if_neg c2] at hv; subst hv
      have H0 := Lib.hid hb
      have CL := Lib.hid (class_D b H0.out)
      rw [hcl] at CL
      clear hcl hb c1 c2
      go_enter Tryd.func105, Tryd.ntmps105
      go_wp2_with fail
      refine (split_D b H0.out _).mono ?_; rintro e1 w1 ⟨rfl, hb1⟩
      have hc1 := hb1.cells; have hz1 : w.heap.size < w1.heap.size := (by have := hb1.sizes; simp at this; omega)
      go_wp2_with fail
      refine (CL.out _).mono ?_; rintro e2 w2 ⟨rfl, hb2⟩
      have hc2 := hb2.cells; have hz2 : w.heap.size < w2.heap.size := (by have := hb2.sizes; omega)
      go_wp2_with fail
      refine (canon_D b H0.out _).mono ?_; rintro e3 w3 ⟨rfl, hb3⟩
      go_wp2
      go_ret
      exact ⟨rfl, (by repeat (first | with_reducible exact Within.refl _ | with_reducible assumption | with_reducible refine Within.alloc ?_ _ | with_reducible refine Within.drew ?_ | with_reducible refine Within.trans ?_ (by assumption)))⟩
  · rw [if_neg c1] at hv
    have hlt := expD_lt b
    by_cases c3 : expD b = 0
    · have hmx : max (expD b : Int) 1 = 1 := by omega
      rw [if_pos c3] at hv; subst hv
      have hcl : classD b = 3 ∨ classD b = 4 := by
        by_cases c2 : fracD b = 0
        · exact .inl (classD_zero c3 c2)
        · exact .inr (classD_sub c3 c2)
      rcases hcl with hcl | hcl
      all_goals
        have H0 := Lib.hid hb
        have CL := Lib.hid (class_D b H0.out)
        rw [hcl] at CL
        clear hcl hb c1 c3 hlt
        go_enter Tryd.func105, Tryd.ntmps105
        go_wp2_with fail
        refine (split_D b H0.out _).mono ?_; rintro e1 w1 ⟨rfl, hb1⟩
        have hc1 := hb1.cells; have hz1 : w.heap.size < w1.heap.size := (by have := hb1.sizes; simp at this; omega)
        go_wp2_with fail
        refine (CL.out _).mono ?_; rintro e2 w2 ⟨rfl, hb2⟩
        have hc2 := hb2.cells; have hz2 : w.heap.size < w2.heap.size := (by have := hb2.sizes; omega)
        go_wp2_with fail
        refine (made_D false 1 (-1074) (by decide) _ (hT.of (by repeat (first | with_reducible exact Within.refl _ | with_reducible assumption | with_reducible refine Within.alloc ?_ _ | with_reducible refine Within.drew ?_ | with_reducible refine Within.setCell ?_ (by first | (simp; done) | (simp; omega)) _ | with_reducible refine Within.trans ?_ (by assumption))))).mono ?_; rintro e3 w3 ⟨rfl, hb3⟩
        go_wp2
        go_ret
        exact ⟨rfl, (by repeat (first | with_reducible exact Within.refl _ | with_reducible assumption | with_reducible refine Within.alloc ?_ _ | with_reducible refine Within.drew ?_ | with_reducible refine Within.trans ?_ (by assumption)))⟩
    · have hcl := classD_normal c3 c1
      have hmx : max (expD b : Int) 1 = expD b := by omega
      have hlt' : (expD b : Int) < 2048 := by omega
      rw [if_neg c3] at hv; subst hv
      have H0 := Lib.hid hb
      have CL := Lib.hid (class_D b H0.out)
      rw [hcl] at CL
      clear hcl hb c1 c3 hlt
      go_enter Tryd.func105, Tryd.ntmps105
      go_wp2_with fail
      refine (split_D b H0.out _).mono ?_; rintro e1 w1 ⟨rfl, hb1⟩
      have hc1 := hb1.cells; have hz1 : w.heap.size < w1.heap.size := (by have := hb1.sizes; simp at this; omega)
      go_wp2_with fail
      refine (CL.out _).mono ?_; rintro e2 w2 ⟨rfl, hb2⟩
      have hc2 := hb2.cells; have hz2 : w.heap.size < w2.heap.size := (by have := hb2.sizes; omega)
      go_wp2_with fail
      refine (made_D false 1 ((expD b : Int) - 1075) (by decide) _ (hT.of (by repeat (first | with_reducible exact Within.refl _ | with_reducible assumption | with_reducible refine Within.alloc ?_ _ | with_reducible refine Within.drew ?_ | with_reducible refine Within.setCell ?_ (by first | (simp; done) | (simp; omega)) _ | with_reducible refine Within.trans ?_ (by assumption))))).mono ?_; rintro e3 w3 ⟨rfl, hb3⟩
      go_wp2
      go_ret
      exact ⟨rfl, (by repeat (first | with_reducible exact Within.refl _ | with_reducible assumption | with_reducible refine Within.alloc ?_ _ | with_reducible refine Within.drew ?_ | with_reducible refine Within.trans ?_ (by assumption)))⟩



theorem topS_lt (mant : Nat) (e : Int) (hm : mant < 18446744073709551616) (h : badS mant e = false) : topS mant e < 2 * 8388608 := by
  have hb := lt_bitLen (oddM mant) (oddM_lt mant hm)
  have hl : Lib.bitLen (oddM mant) ≤ 24 := by unfold badS at h; simp at h; omega
  have hd : downS mant e ≤ 24 - Lib.bitLen (oddM mant) := by unfold downS; omega
  unfold topS
  have h1 : oddM mant * 2 ^ downS mant e ≤ oddM mant * 2 ^ (24 - Lib.bitLen (oddM mant)) := Nat.mul_le_mul_left _ (Nat.pow_le_pow_right (by decide) hd)
  have h2 : oddM mant * 2 ^ (24 - Lib.bitLen (oddM mant)) < 2 ^ Lib.bitLen (oddM mant) * 2 ^ (24 - Lib.bitLen (oddM mant)) := (Nat.mul_lt_mul_right (Nat.two_pow_pos _)).2 hb
  have h3 : 2 ^ Lib.bitLen (oddM mant) * 2 ^ (24 - Lib.bitLen (oddM mant)) = 2 ^ 24 := by rw [← Nat.pow_add]; congr 1; omega
  have h4 : (2 : Nat) ^ 24 = 2 * 8388608 := rfl
  omega

theorem made_S (neg : Bool) (mant : Nat) (e : Int) (hb : mant < 18446744073709551616) (w : World) (hT : Tab w) :
    Calls Tryd.prog 84 #[.agg #[.bool neg, .int .u64 mant, .int .i64 e], sgl] w fun e' w' => e' = .returned (.tuple #[.int .u32 (madeS neg mant e), .int .i64 (madeES mant e)]) ∧ Within w w' := by
  by_cases h0 : mant = 0
  · subst h0
    have := madeZero_S neg e w
    simpa [madeS, madeES] using this
  have t1 : ((mant : Int) == 0) = false := beq_eq_false_iff_ne.2 (by omega)
  by_cases h1 : 300 < e ∨ e < -300
  · have hbad : badS mant e = true := by unfold badS; simp; omega
    have hv : (madeS neg mant e : Int) = 0 ∧ madeES mant e = 10 := by unfold madeS madeES; rw [if_neg h0, if_neg h0, if_pos hbad, if_pos hbad]; exact ⟨rfl, rfl⟩
    rw [hv.1, hv.2]
    exact madeFar_S neg mant e t1 h1 w
  obtain ⟨_, hz, hk⟩ := ctz_split mant h0 hb
  clear hz
  have hq := oddM_lt mant hb
  by_cases h3 : (24 : Nat) < Lib.bitLen (oddM mant) ∨ e + Lib.ctz 64 mant < -149
  · have hbad : badS mant e = true := by unfold badS oddE; simp; omega
    have hv : (madeS neg mant e : Int) = 0 ∧ madeES mant e = 10 := by unfold madeS madeES; rw [if_neg h0, if_neg h0, if_pos hbad, if_pos hbad]; exact ⟨rfl, rfl⟩
    rw [hv.1, hv.2]
    exact madeBad_S neg mant (Lib.ctz 64 mant) (oddM mant) e hb t1 (by omega) (by omega) (Lib.hid hk) (Lib.hid rfl) (Lib.hid rfl) (Lib.hid hq) h3 w hT
  have hbad : badS mant e = false := by unfold badS oddE; simp; omega
  have htop := topS_lt mant e hb hbad
  have hnb : ¬ (badS mant e = true) := by simp [hbad]
  have hl : Lib.bitLen (oddM mant) ≤ 24 := by omega
  have hD : min ((24 : Int) - Lib.bitLen (oddM mant)) (e + Lib.ctz 64 mant + 149) = downS mant e := by unfold downS oddE; omega
  have hD2 : downS mant e < 64 := by unfold downS; omega
  by_cases h4 : topS mant e < 8388608
  · have hf : fieldS mant e = 0 := by unfold fieldS; rw [if_pos h4]
    have hv : madeS neg mant e = joinS neg 0 (topS mant e) ∧ madeES mant e = joinES 0 (topS mant e) := by
      unfold madeS madeES; rw [if_neg h0, if_neg h0, if_neg hnb, if_neg hnb, hf, if_neg (by decide), if_neg (by decide), Nat.mod_eq_of_lt h4]; exact ⟨rfl, rfl⟩
    rw [hv.1, hv.2]
    exact madeLow_S neg mant (Lib.ctz 64 mant) (oddM mant) (downS mant e) (topS mant e) e hb t1 (by omega) (by omega) (Lib.hid hk) (Lib.hid rfl) (Lib.hid rfl) (Lib.hid hq) hD (by omega) (by omega) (Lib.hid hD2) (Lib.hid rfl) (Lib.hid (by omega)) (by omega) w hT
  have hf : fieldS mant e = e + Lib.ctz 64 mant - downS mant e + 150 := by unfold fieldS oddE; rw [if_neg h4]
  by_cases h5 : 255 ≤ fieldS mant e
  · have hv : (madeS neg mant e : Int) = 0 ∧ madeES mant e = 10 := by
      unfold madeS madeES; rw [if_neg h0, if_neg h0, if_neg hnb, if_neg hnb, if_pos h5, if_pos h5]; exact ⟨rfl, rfl⟩
    rw [hv.1, hv.2]
    exact madeOver_S neg mant (Lib.ctz 64 mant) (oddM mant) (downS mant e) (topS mant e) e hb t1 (by omega) (by omega) (Lib.hid hk) (Lib.hid rfl) (Lib.hid rfl) (Lib.hid hq) hD (by omega) (by omega) (Lib.hid hD2) (Lib.hid rfl) (Lib.hid (by omega)) (by omega) (by omega) w hT
  · have hmod : topS mant e % 8388608 = topS mant e - 8388608 := by omega
    have hv : madeS neg mant e = joinS neg (e + Lib.ctz 64 mant - downS mant e + 150) (topS mant e - 8388608) ∧ madeES mant e = joinES (e + Lib.ctz 64 mant - downS mant e + 150) (topS mant e - 8388608) := by
      unfold madeS madeES; rw [if_neg h0, if_neg h0, if_neg hnb, if_neg hnb, if_neg h5, if_neg h5, hmod, hf]; exact ⟨rfl, rfl⟩
    rw [hv.1, hv.2]
    exact madeNorm_S neg mant (Lib.ctz 64 mant) (oddM mant) (downS mant e) (topS mant e) e hb t1 (by omega) (by omega) (Lib.hid hk) (Lib.hid rfl) (Lib.hid rfl) (Lib.hid hq) hD (by omega) (by omega) (Lib.hid hD2) (Lib.hid rfl) (Lib.hid (by omega)) (by omega) htop (by omega) w hT

def ulpS (b : Nat) : Nat := if expS b = 255 then (if fracS b = 0 then 2139095040 else canonS b) else madeS false 1 ((if expS b = 0 then 1 else expS b : Nat) - 150)

set_option maxRecDepth 100000 in
set_option maxHeartbeats 600000 in
theorem ulp_S (b : Nat) (hb : b < 4294967296) (w : World) (hT : Tab w) : Calls Tryd.prog 108 #[.int .u32 b, sgl] w fun e w' => e = .returned (.int .u32 (ulpS b)) ∧ Within w w' := by
  generalize hv : (ulpS b : Int) = r
  unfold ulpS at hv
  by_cases c1 : expS b = 255
  · by_cases c2 : fracS b = 0
    · have hcl : classS b = 2 := by unfold classS classOf; rw [if_neg (by omega), if_pos c1]
      rw [if_pos c1, if_pos c2] at hv; subst hv
      have H0 := Lib.hid hb
      have CL := Lib.hid (class_S b H0.out)
      rw [hcl] at CL
      clear hcl hb c1 c2
      go_enter Tryd.func108, Tryd.ntmps108
      go_wp2_with fail
      refine (split_S b H0.out _).mono ?_; rintro e1 w1 ⟨rfl, hb1⟩
      have hc1 := hb1.cells; have hz1 : w.heap.size < w1.heap.size := (by have := hb1.sizes; simp at this; omega)
      go_wp2_with fail
      refine (CL.out _).mono ?_; rintro e2 w2 ⟨rfl, hb2⟩
      have hc2 := hb2.cells; have hz2 : w.heap.size < w2.heap.size := (by have := hb2.sizes; omega)
      go_wp2_with fail
      refine (infinite_S _).mono ?_; rintro e3 w3 ⟨rfl, hb3⟩
      go_wp2
      go_ret
      exact ⟨rfl, (by repeat (first | with_reducible exact Within.refl _ | with_reducible assumption | with_reducible refine Within.alloc ?_ _ | with_reducible refine Within.drew ?_ | with_reducible refine Within.trans ?_ (by assumption)))⟩
    · have hcl : classS b = 1 := by unfold classS classOf; rw [if_pos ⟨c1, c2⟩]
      rw [if_pos c1, if_neg c2] at hv; subst hv
      have H0 := Lib.hid hb
      have CL := Lib.hid (class_S b H0.out)
      rw [hcl] at CL
      clear hcl hb c1 c2
      go_enter Tryd.func108, Tryd.ntmps108
      go_wp2_with fail
      refine (split_S b H0.out _).mono ?_; rintro e1 w1 ⟨rfl, hb1⟩
      have hc1 := hb1.cells; have hz1 : w.heap.size < w1.heap.size := (by have := hb1.sizes; simp at this; omega)
      go_wp2_with fail
      refine (CL.out _).mono ?_; rintro e2 w2 ⟨rfl, hb2⟩
      have hc2 := hb2.cells; have hz2 : w.heap.size < w2.heap.size := (by have := hb2.sizes; omega)
      go_wp2_with fail
      refine (canon_S b H0.out _).mono ?_; rintro e3 w3 ⟨rfl, hb3⟩
      go_wp2
      go_ret
      exact ⟨rfl, (by repeat (first | with_reducible exact Within.refl _ | with_reducible assumption | with_reducible refine Within.alloc ?_ _ | with_reducible refine Within.drew ?_ | with_reducible refine Within.trans ?_ (by assumption)))⟩
  · rw [if_neg c1] at hv
    have hlt := expS_lt b
    by_cases c3 : expS b = 0
    · have hmx : max (expS b : Int) 1 = 1 := by omega
      rw [if_pos c3] at hv; subst hv
      have hcl : classS b = 3 ∨ classS b = 4 := by
        by_cases c2 : fracS b = 0
        · exact .inl (classS_zero c3 c2)
        · exact .inr (classS_sub c3 c2)
      rcases hcl with hcl | hcl
      all_goals
        have H0 := Lib.hid hb
        have CL := Lib.hid (class_S b H0.out)
        rw [hcl] at CL
        clear hcl hb c1 c3 hlt
        go_enter Tryd.func108, Tryd.ntmps108
        go_wp2_with fail
        refine (split_S b H0.out _).mono ?_; rintro e1 w1 ⟨rfl, hb1⟩
        have hc1 := hb1.cells; have hz1 : w.heap.size < w1.heap.size := (by have := hb1.sizes; simp at this; omega)
        go_wp2_with fail
        refine (CL.out _).mono ?_; rintro e2 w2 ⟨rfl, hb2⟩
        have hc2 := hb2.cells; have hz2 : w.heap.size < w2.heap.size := (by have := hb2.sizes; omega)
        go_wp2_with fail
        refine (made_S false 1 (-149) (by decide) _ (hT.of (by repeat (first | with_reducible exact Within.refl _ | with_reducible assumption | with_reducible refine Within.alloc ?_ _ | with_reducible refine Within.drew ?_ | with_reducible refine Within.setCell ?_ (by first | (simp; done) | (simp; omega)) _ | with_reducible refine Within.trans ?_ (by assumption))))).mono ?_; rintro e3 w3 ⟨rfl, hb3⟩
        go_wp2
        go_ret
        exact ⟨rfl, (by repeat (first | with_reducible exact Within.refl _ | with_reducible assumption | with_reducible refine Within.alloc ?_ _ | with_reducible refine Within.drew ?_ | with_reducible refine Within.trans ?_ (by assumption)))⟩
    · have hcl := classS_normal c3 c1
      have hmx : max (expS b : Int) 1 = expS b := by omega
      have hlt' : (expS b : Int) < 256 := by omega
      rw [if_neg c3] at hv; subst hv
      have H0 := Lib.hid hb
      have CL := Lib.hid (class_S b H0.out)
      rw [hcl] at CL
      clear hcl hb c1 c3 hlt
      go_enter Tryd.func108, Tryd.ntmps108
      go_wp2_with fail
      refine (split_S b H0.out _).mono ?_; rintro e1 w1 ⟨rfl, hb1⟩
      have hc1 := hb1.cells; have hz1 : w.heap.size < w1.heap.size := (by have := hb1.sizes; simp at this; omega)
      go_wp2_with fail
      refine (CL.out _).mono ?_; rintro e2 w2 ⟨rfl, hb2⟩
      have hc2 := hb2.cells; have hz2 : w.heap.size < w2.heap.size := (by have := hb2.sizes; omega)
      go_wp2_with fail
      refine (made_S false 1 ((expS b : Int) - 150) (by decide) _ (hT.of (by repeat (first | with_reducible exact Within.refl _ | with_reducible assumption | with_reducible refine Within.alloc ?_ _ | with_reducible refine Within.drew ?_ | with_reducible refine Within.setCell ?_ (by first | (simp; done) | (simp; omega)) _ | with_reducible refine Within.trans ?_ (by assumption))))).mono ?_; rintro e3 w3 ⟨rfl, hb3⟩
      go_wp2
      go_ret
      exact ⟨rfl, (by repeat (first | with_reducible exact Within.refl _ | with_reducible assumption | with_reducible refine Within.alloc ?_ _ | with_reducible refine Within.drew ?_ | with_reducible refine Within.trans ?_ (by assumption)))⟩


end Go.Proofs.YthjaponkbodooaaDoor
