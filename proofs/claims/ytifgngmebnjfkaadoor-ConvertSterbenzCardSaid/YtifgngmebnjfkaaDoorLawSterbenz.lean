/- ConvertSterbenz: the law. -/
import Derived.Test.YtifgngmebnjfkaaDoorLawStz1
namespace Go.Proofs.YtifgngmebnjfkaaDoor
open Go.RowKit

/-- the sum of two numbers, at the lower exponent -/
def sumI (E1 E2 : Int) (b1 b2 : Bool) (M1 M2 : Nat) : Int := sgI b1 M1 (E1 - min E1 E2).toNat + sgI b2 M2 (E2 - min E1 E2).toNat
theorem sumI_val {E1 E2 : Int} (b1 b2 : Bool) (M1 M2 J : Nat) (h1 : ExpOk J E1) (h2 : ExpOk J E2) : sgI (decide (sumI E1 E2 b1 b2 M1 M2 < 0)) (sumI E1 E2 b1 b2 M1 M2).natAbs (min E1 E2 + J).toNat = sgI b1 M1 (E1 + J).toNat + sgI b2 M2 (E2 + J).toNat := by
  obtain ⟨h1a, h1b, hJ⟩ := h1
  obtain ⟨h2a, h2b, _⟩ := h2
  rw [sgI_abs, sgI_min b1 M1 (e := min E1 E2) (by omega) (by omega), sgI_min b2 M2 (e := min E1 E2) (by omega) (by omega), ← Int.add_mul]
  rfl
theorem abs_mul_pow_le (v : Int) (d : Nat) : v.natAbs ≤ (v * 2 ^ d).natAbs := by
  rw [Int.natAbs_mul]
  have : ((2 : Int) ^ d).natAbs = 2 ^ d := by rw [Int.natAbs_pow]; rfl
  rw [this]
  exact Nat.le_mul_of_pos_right _ (Nat.two_pow_pos d)
theorem sumI_len {E1 E2 : Int} {b1 b2 : Bool} {M1 M2 : Nat} (J n : Nat) (h1 : ExpOk J E1) (h2 : ExpOk J E2) (h : (sgI b1 M1 (E1 + J).toNat + sgI b2 M2 (E2 + J).toNat).natAbs < 2 ^ (32 * n)) : (dg (sumI E1 E2 b1 b2 M1 M2).natAbs).length ≤ n := by
  rw [← sumI_val b1 b2 M1 M2 J h1 h2, sgI_abs] at h
  exact dg_small (Nat.lt_of_le_of_lt (abs_mul_pow_le _ _) h)
theorem Rsum_at (k1 k2 E1 E2 : Int) (b1 b2 : Bool) (g1 g2 M1 M2 J : Nat) (h1 : ExpOk J E1) (h2 : ExpOk J E2) (l1 : (dg M1).length ≤ 900) (l2 : (dg M2).length ≤ 900) (w : World) (hI1 : IntB w g1 (M1 : Int)) (hI2 : IntB w g2 (M2 : Int)) : Calls Tryd.prog 16 #[.agg #[.int .i64 k1, .bool b1, .pointer (some ⟨g1, 0, none⟩), .int .i64 E1], .agg #[.int .i64 k2, .bool b2, .pointer (some ⟨g2, 0, none⟩), .int .i64 E2]] w (fun e' w' => ∃ h, e' = .returned (.agg #[.int .i64 0, .bool (decide (sumI E1 E2 b1 b2 M1 M2 < 0)), .pointer (some ⟨h, 0, none⟩), .int .i64 (min E1 E2)]) ∧ IntB w' h ((sumI E1 E2 b1 b2 M1 M2).natAbs : Int) ∧ w.heap.size ≤ h ∧ Within w w') := by
  obtain ⟨h1a, h1b, hJ⟩ := h1
  obtain ⟨h2a, h2b, _⟩ := h2
  have n1 : (dg (sgI b1 M1 (E1 - min E1 E2).toNat).natAbs).length ≤ 1400 := sgI_len (by omega) l1
  have n2 : (dg (sgI b2 M2 (E2 - min E1 E2).toNat).natAbs).length ≤ 1400 := sgI_len (by omega) l2
  exact Rsum_fin k1 k2 E1 E2 b1 b2 g1 g2 _ _ _ M1 M2 _ rfl (Nat.le_trans (dg_sum_len n1 n2) (by decide)) rfl n1 n2
    (Lib.hid fun w hI => Rsigned k1 E1 _ b1 g1 M1 _ (by omega) (by omega) l1 w hI) (Lib.hid fun w hI => Rsigned k2 E2 _ b2 g2 M2 _ (by omega) (by omega) l2 w hI) w hI1 hI2
/-- singles lie below this power -/
def sbig : Nat := 277
theorem sbig_eq : sbig = 24 + 253 := rfl
/-- a finite single, as the reference takes it apart -/
theorem single_ok {x : Nat} (h : kS x = 0) : x % 2147483648 < 2139095040 ∧ ExpOk 149 (eS x) ∧ (dg (mS x)).length ≤ 900 ∧ mS x * 2 ^ (eS x + 149).toNat < 2 ^ sbig := by
  have hlo := eS_lo x h
  have hm := mS_lt x
  have hfd : ¬ x / 8388608 % 256 = 255 := by
    intro hf
    unfold kS tK at h
    rw [if_pos hf] at h
    split at h <;> omega
  have he : eS x ≤ 104 := by
    unfold eS tE
    rw [if_neg hfd]
    split <;> omega
  refine ⟨by omega, ⟨by omega, by omega, by decide⟩, Nat.le_trans (dg_small (k := 1) (Nat.lt_of_lt_of_le hm (by decide))) (by decide), ?_⟩
  obtain ⟨d, hd⟩ : ∃ d, d = (eS x + 149).toNat := ⟨_, rfl⟩
  obtain ⟨c, hc⟩ : ∃ c : Nat, sbig = 24 + c ∧ c = 253 := ⟨253, sbig_eq, rfl⟩
  rw [← hd, hc.1, Nat.pow_add]
  exact Nat.mul_lt_mul_of_lt_of_le (Nat.lt_of_lt_of_le hm (by decide)) (Nat.pow_le_pow_right (by decide) (by omega)) (Nat.two_pow_pos _)
theorem sgI_nat (M d : Nat) : sgI false M d = ((M * 2 ^ d : Nat) : Int) := by unfold sgI; simp
theorem sgI_absn (b : Bool) (M d : Nat) : (sgI b M d).natAbs = M * 2 ^ d := by
  have h2 : (M : Int) * 2 ^ d = ((M * 2 ^ d : Nat) : Int) := by simp
  unfold sgI
  rw [h2]
  split <;> omega
theorem sgI_not (b : Bool) (M d : Nat) : sgI (!b) M d = - sgI b M d := by unfold sgI; cases b <;> simp
theorem sum_small {a b : Int} (n : Nat) (hn : n = 9) (ha : a.natAbs < 2 ^ sbig) (hb : b.natAbs < 2 ^ sbig) : (a + b).natAbs < 2 ^ (32 * n) := by
  have h3 : (a + b).natAbs ≤ a.natAbs + b.natAbs := Int.natAbs_add_le a b
  obtain ⟨B, hB, hB2⟩ : ∃ B : Nat, sbig = B ∧ B = 277 := ⟨277, rfl, rfl⟩
  rw [hB] at ha hb
  have h4 : 2 ^ (B + 1) ≤ 2 ^ (32 * n) := Nat.pow_le_pow_right (by decide) (by omega)
  rw [Nat.pow_succ] at h4
  clear hB2
  generalize 2 ^ B = Z at *
  omega
theorem min_ok {J : Nat} {E1 E2 : Int} (h1 : ExpOk J E1) (h2 : ExpOk J E2) : ExpOk J (min E1 E2) := by
  obtain ⟨h1a, h1b, hJ⟩ := h1
  obtain ⟨h2a, h2b, _⟩ := h2
  exact ⟨by omega, by omega, hJ⟩
theorem cmpI_lt0 (a b : Int) : (cmpI a b < 0) ↔ a < b := by unfold cmpI; repeat' split; all_goals omega
theorem cmpI_gt0 (a b : Int) : (cmpI a b > 0) ↔ b < a := by unfold cmpI; repeat' split; all_goals omega
theorem cmpI_self (a : Int) : cmpI a a = 0 := by unfold cmpI; repeat' split; all_goals omega
theorem stz_walk (x y : Nat) (mode : Int) (hx : x < 4294967296) (hy : y < 4294967296) (_ : -9223372036854775808 ≤ mode) (_ : mode < 9223372036854775808) (w : World) (hT : FmS w) : Calls Tryd.prog 3 #[.int .u32 (x : Int), .int .u32 (y : Int), .int .i64 mode] w (fun e' w' => e' = .returned (.bool true) ∧ Within w w') := by
  by_cases m1 : mode < 0
  · exact stz_low x y mode (decide_eq_true m1) w hT
  by_cases m2 : mode > 4
  · exact stz_high x y mode (decide_eq_false m1) (decide_eq_true m2) w hT
  have OX := Lib.hid (fun w => ROf32 x hx w)
  have OY := Lib.hid (fun w => ROf32 y hy w)
  by_cases k1 : ¬ kS x = 0
  · exact stz_k1 x y _ _ mode _ _ _ _ _ _ (decide_eq_false m1) (decide_eq_false m2) OX OY (bne_iff_ne.2 k1) w hT
  have k1 : kS x = 0 := Classical.not_not.1 k1
  by_cases k2 : ¬ kS y = 0
  · exact stz_k2 x y _ _ mode _ _ _ _ _ _ (decide_eq_false m1) (decide_eq_false m2) OX OY (by rw [k1]; rfl) (bne_iff_ne.2 k2) w hT
  have k2 : kS y = 0 := Classical.not_not.1 k2
  by_cases hs : ¬ nS x = nS y
  · exact stz_n x y _ _ mode _ _ _ _ _ _ (decide_eq_false m1) (decide_eq_false m2) OX OY (by rw [k1]; rfl) (by rw [k2]; rfl) (by revert hs; cases nS x <;> cases nS y <;> decide) w hT
  have hs : nS x = nS y := Classical.not_not.1 hs
  obtain ⟨fx, ex, lx, bx⟩ := single_ok k1
  obtain ⟨fy, ey, ly, bi⟩ := single_ok k2
  have h1 : (kS x != 0) = false := by rw [k1]; rfl
  have h2 : (kS y != 0) = false := by rw [k2]; rfl
  have h3 : (!nS x == nS y) = false := by rw [hs]; cases nS y <;> rfl
  have sx : ∀ b, (sgI b (mS x) (eS x + (149 : Nat)).toNat).natAbs < 2 ^ sbig := fun b => by rw [sgI_absn]; exact bx
  have sy : ∀ b, (sgI b (mS y) (eS y + (149 : Nat)).toNat).natAbs < 2 ^ sbig := fun b => by rw [sgI_absn]; exact bi
  obtain ⟨n9, h9⟩ : ∃ n : Nat, n = 9 := ⟨_, rfl⟩
  have l1 := sumI_len 149 n9 ex ex (sum_small n9 h9 (sx false) (sx false))
  have l2 := sumI_len 149 n9 ey ey (sum_small n9 h9 (sy false) (sy false))
  have SP := Lib.hid (fun (w : World) (g : Nat) (h : IntB w g (mS x : Int)) => Rsum_at (kS x) (kS x) (eS x) (eS x) false false g g (mS x) (mS x) 149 ex ex lx lx w h h)
  have SQ := Lib.hid (fun (w : World) (g : Nat) (h : IntB w g (mS y : Int)) => Rsum_at (kS y) (kS y) (eS y) (eS y) false false g g (mS y) (mS y) 149 ey ey ly ly w h h)
  have C1 := Lib.hid (fun (w : World) (g h : Nat) (a : IntB w g _) (b : IntB w h (mS y : Int)) => Rcmp_val 0 (kS y) (min (eS x) (eS x)) (eS y) (decide (sumI (eS x) (eS x) false false (mS x) (mS x) < 0)) false g h (sumI (eS x) (eS x) false false (mS x) (mS x)).natAbs (mS y) 149 (min_ok ex ex) ey (by decide) (by omega) (Nat.le_trans l1 (by omega)) ly w a b)
  have C2 := Lib.hid (fun (w : World) (g h : Nat) (a : IntB w g (mS x : Int)) (b : IntB w h _) => Rcmp_val (kS x) 0 (eS x) (min (eS y) (eS y)) false (decide (sumI (eS y) (eS y) false false (mS y) (mS y) < 0)) g h (mS x) (sumI (eS y) (eS y) false false (mS y) (mS y)).natAbs 149 ex (min_ok ey ey) (by omega) (by decide) lx (Nat.le_trans l2 (by omega)) w a b)
  rw [sumI_val false false (mS x) (mS x) 149 ex ex, sgI_nat, sgI_nat] at C1
  rw [sumI_val false false (mS y) (mS y) 149 ey ey, sgI_nat, sgI_nat] at C2
  obtain ⟨gx1, _, gx3, _⟩ := mS_mag fx
  obtain ⟨gy1, _, gy3, _⟩ := mS_mag fy
  rw [show (eS x + ((149 : Nat) : Int)) = eS x + 149 from rfl, show (eS y + ((149 : Nat) : Int)) = eS y + 149 from rfl, ← gx1, ← gy1] at C1 C2
  obtain ⟨p, hp⟩ : ∃ p, p = Fp.mag Ieee.single (x % 2147483648) := ⟨_, rfl⟩
  obtain ⟨q, hq⟩ : ∃ q, q = Fp.mag Ieee.single (y % 2147483648) := ⟨_, rfl⟩
  rw [← hp, ← hq] at C1 C2
  refine stz_main x y _ _ mode _ _ _ _ _ _ (decide_eq_false m1) (decide_eq_false m2) OX OY h1 h2 h3 _ _ _ _ SP C1 _ _ _ _ SQ C2 _ _ rfl rfl (Lib.hid fun a1 a2 => ?_) w hT
  have a1 := of_decide_eq_false a1
  have a2 := of_decide_eq_false a2
  have b1 : q ≤ 2 * p := by rw [cmpI_lt0] at a1; omega
  have b2 : p ≤ 2 * q := by rw [cmpI_gt0] at a2; omega
  have hm : 0 ≤ mode ∧ mode ≤ 4 := ⟨by omega, by omega⟩
  have hng : ngS x = ngS y := by unfold ngS; rw [← gx3, ← gy3]; exact hs
  obtain ⟨r1, r2, r3, r4⟩ := sterbenz_word (mode := mode) hx hy fx fy hm hng (by rw [← hp, ← hq]; exact b1) (by rw [← hp, ← hq]; exact b2)
  obtain ⟨r, hr⟩ : ∃ r, r = addWd x (tzS y) mode := ⟨_, rfl⟩
  have SU := Lib.hid (fun (w : World) (h : FmS w) => Sub_known x y mode hx hy hm w h)
  rw [← hr] at r1 r2 r3 SU
  obtain ⟨_, kr, _, _⟩ := mS_mag r2
  obtain ⟨_, er, lr, br⟩ := single_ok kr
  have l3 := sumI_len (b1 := nS x) (b2 := !nS y) 149 n9 ex ey (sum_small n9 h9 (sx _) (sy _))
  have S3 := Lib.hid (fun (w : World) (g g0 : Nat) (h : IntB w g (mS x : Int)) (h' : IntB w g0 (mS y : Int)) => Rsum_at (kS x) (kS y) (eS x) (eS y) (nS x) (!nS y) g g0 (mS x) (mS y) 149 ex ey lx ly w h h')
  have C3 := Lib.hid (fun (w : World) (g h : Nat) (a : IntB w g (mS r : Int)) (b : IntB w h _) => Rcmp_val (kS r) 0 (eS r) (min (eS x) (eS y)) (nS r) (decide (sumI (eS x) (eS y) (nS x) (!nS y) (mS x) (mS y) < 0)) g h (mS r) (sumI (eS x) (eS y) (nS x) (!nS y) (mS x) (mS y)).natAbs 149 er (min_ok ex ey) (by omega) (by decide) lr (Nat.le_trans l3 (by omega)) w a b)
  rw [sumI_val (nS x) (!nS y) (mS x) (mS y) 149 ex ey, sgI_not] at C3
  have hc3 : cmpI (sgI (nS r) (mS r) (eS r + ((149 : Nat) : Int)).toNat) (sgI (nS x) (mS x) (eS x + ((149 : Nat) : Int)).toNat + -sgI (nS y) (mS y) (eS y + ((149 : Nat) : Int)).toNat) = 0 := by
    have e : sgI (nS r) (mS r) (eS r + ((149 : Nat) : Int)).toNat = sgI (nS x) (mS x) (eS x + ((149 : Nat) : Int)).toNat + -sgI (nS y) (mS y) (eS y + ((149 : Nat) : Int)).toNat := by
      have := r3; unfold sv at this; rw [← Int.sub_eq_add_neg]; exact this
    rw [e]; exact cmpI_self _
  exact ⟨r, _, _, _, _, _, _, _, _, _, _, SU, Lib.hid fun w => ROf32 r r1 w, S3, C3, rfl, by rw [r4]; rfl, by rw [hc3]; rfl⟩
end Go.Proofs.YtifgngmebnjfkaaDoor
