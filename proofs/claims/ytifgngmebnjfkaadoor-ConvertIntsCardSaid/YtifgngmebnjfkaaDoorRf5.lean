/- Package binnacleref02: Round: walks. -/
import Derived.Test.YtifgngmebnjfkaaDoorRf4
import Derived.Deep.DeepCutAuto
import Derived.Deep.QuietTactic
import Derived.BigQuiet
namespace Go.Proofs.YtifgngmebnjfkaaDoor
open Go.RowKit

/-- the exponent of the last digit that is kept; what is kept; how what was cut off stands; what is kept, rounded; flags -/
def gK (D lo : Int) (M : Nat) (e : Int) : Int := max (e + (blen M : Nat) - D) lo
def gq (D lo : Int) (M : Nat) (e : Int) : Nat := if gK D lo M e ≤ e then M * 2 ^ (e - gK D lo M e).toNat else M / 2 ^ (gK D lo M e - e).toNat
def gc (D lo : Int) (M : Nat) (e : Int) (more : Bool) : Int := if gK D lo M e ≤ e then (if more then -1 else -2) else cutC M (gK D lo M e - e).toNat more
def gQ (D lo : Int) (ng : Bool) (M : Nat) (e : Int) (more : Bool) (mode : Int) : Nat := gq D lo M e + (upB ng (gq D lo M e) (gc D lo M e more) mode).toNat
def gFl (D lo : Int) (M : Nat) (e : Int) (more : Bool) : Int := if -2 < gc D lo M e more then (if e + (blen M : Nat) - 1 < lo + D - 1 then 3 else 1) else 0
def gOver (D lo most : Int) (ng : Bool) (M : Nat) (e : Int) (more : Bool) (mode : Int) : Bool := decide (most + 1 < gK D lo M e + (blen (gQ D lo ng M e more mode) : Nat))
theorem gc_range (D lo : Int) (M : Nat) (e : Int) (more : Bool) : gc D lo M e more = -2 ∨ gc D lo M e more = -1 ∨ gc D lo M e more = 0 ∨ gc D lo M e more = 1 := by
  unfold gc
  split
  · split <;> omega
  · exact cutC_range _ _ _
theorem blen_lt (n : Nat) : n < 2 ^ blen n := by
  by_cases h : n = 0
  · subst h; exact Nat.two_pow_pos _
  · rw [blen_pos h]; exact Nat.lt_log2_self
theorem blen_le {n k : Nat} (h : n < 2 ^ k) : blen n ≤ k := by
  by_cases h0 : n = 0
  · subst h0; exact Nat.zero_le _
  · rw [blen_pos h0]; exact (Nat.log2_lt h0).2 h
theorem le_of_blen {n : Nat} (h : n ≠ 0) : 2 ^ (blen n - 1) ≤ n := by rw [blen_pos h, Nat.add_sub_cancel]; exact Nat.log2_self_le h
theorem gq_lt (D : Nat) (lo : Int) (M : Nat) (e : Int) : gq D lo M e < 2 ^ D := by
  have hb := blen_lt M
  have hK : gK D lo M e = max (e + (blen M : Nat) - D) lo := rfl
  unfold gq
  split
  · rename_i h
    obtain ⟨k, hk⟩ : ∃ k : Nat, e - gK D lo M e = k := ⟨(e - gK D lo M e).toNat, by omega⟩
    rw [hk, Int.toNat_natCast]
    have : M * 2 ^ k < 2 ^ (blen M) * 2 ^ k := Nat.mul_lt_mul_of_pos_right hb (Nat.two_pow_pos k)
    rw [← Nat.pow_add] at this
    exact Nat.lt_of_lt_of_le this (Nat.pow_le_pow_right (by decide) (by omega))
  · rename_i h
    obtain ⟨k, hk⟩ : ∃ k : Nat, gK D lo M e - e = k := ⟨(gK D lo M e - e).toNat, by omega⟩
    rw [hk, Int.toNat_natCast, Nat.div_lt_iff_lt_mul (Nat.two_pow_pos k), ← Nat.pow_add]
    exact Nat.lt_of_lt_of_le hb (Nat.pow_le_pow_right (by decide) (by omega))
theorem gQ_le (D : Nat) (lo : Int) (ng : Bool) (M : Nat) (e : Int) (more : Bool) (mode : Int) : gQ D lo ng M e more mode ≤ 2 ^ D := by
  have h1 := gq_lt D lo M e
  unfold gQ
  have h2 : ∀ b : Bool, b.toNat ≤ 1 := by decide
  have := h2 (upB ng (gq D lo M e) (gc D lo M e more) mode)
  omega
/-- words laid whole above the least exponent -/
theorem gQ_full {D : Nat} {lo : Int} (ng : Bool) {M : Nat} {e : Int} (more : Bool) (mode : Int) (hM : M ≠ 0) (hD : 1 ≤ D) (h : lo < gK D lo M e) : 2 ^ (D - 1) ≤ gQ D lo ng M e more mode := by
  have hb := le_of_blen hM
  have hb1 : 1 ≤ blen M := by rw [blen_pos hM]; omega
  have hK : gK D lo M e = max (e + (blen M : Nat) - D) lo := rfl
  refine Nat.le_trans ?_ (Nat.le_add_right _ _)
  unfold gq
  split
  · rename_i h
    obtain ⟨k, hk⟩ : ∃ k : Nat, e - gK D lo M e = k := ⟨(e - gK D lo M e).toNat, by omega⟩
    rw [hk, Int.toNat_natCast]
    have : 2 ^ (blen M - 1) * 2 ^ k ≤ M * 2 ^ k := Nat.mul_le_mul_right _ hb
    rw [← Nat.pow_add] at this
    exact Nat.le_trans (Nat.pow_le_pow_right (by decide) (by omega)) this
  · rename_i h
    obtain ⟨k, hk⟩ : ∃ k : Nat, gK D lo M e - e = k := ⟨(gK D lo M e - e).toNat, by omega⟩
    rw [hk, Int.toNat_natCast, Nat.le_div_iff_mul_le (Nat.two_pow_pos k), ← Nat.pow_add]
    exact Nat.le_trans (Nat.pow_le_pow_right (by decide) (by omega)) hb
/-- what is kept, back in its size -/
def gK2 (D lo : Int) (ng : Bool) (M : Nat) (e : Int) (more : Bool) (mode : Int) : Int := if D < (blen (gQ D lo ng M e more mode) : Nat) then gK D lo M e + 1 else gK D lo M e
def gQ2 (D lo : Int) (ng : Bool) (M : Nat) (e : Int) (more : Bool) (mode : Int) : Nat := if D < (blen (gQ D lo ng M e more mode) : Nat) then gQ D lo ng M e more mode / 2 else gQ D lo ng M e more mode
theorem blen_pow (k : Nat) : blen (2 ^ k) = k + 1 := by rw [blen_pos (Nat.ne_of_gt (Nat.two_pow_pos k)), Nat.log2_two_pow]
theorem g_ends_aux {D Q : Nat} {K lo : Int} (hQ : Q ≤ 2 ^ D) (hfull : lo < K → 2 ^ (D - 1) ≤ Q) (hK : lo ≤ K) (hD : 1 ≤ D) (Q2 : Nat) (K2 : Int) (h2 : Q2 = if (D : Int) < (blen Q : Nat) then Q / 2 else Q) (k2 : K2 = if (D : Int) < (blen Q : Nat) then K + 1 else K) :
    blen Q2 ≤ D ∧ K2 + (blen Q2 : Nat) = K + (blen Q : Nat) ∧ (blen Q2 < D → Q2 = Q ∧ K = lo ∧ K2 = lo) ∧
    (blen Q2 = D → 2 ^ (D - 1) ≤ Q2 ∧ Q2 < 2 ^ D ∧ (K2 - lo).toNat * 2 ^ (D - 1) + Q2 = (K - lo).toNat * 2 ^ (D - 1) + Q) ∧ lo ≤ K2 := by
  have hpow : 2 ^ D = 2 * 2 ^ (D - 1) := by
    obtain ⟨t, rfl⟩ : ∃ t, D = t + 1 := ⟨D - 1, by omega⟩
    rw [Nat.pow_succ, Nat.add_sub_cancel, Nat.mul_comm]
  by_cases h : (D : Int) < (blen Q : Nat)
  · rw [if_pos h] at h2 k2
    have hQe : Q = 2 ^ D := by
      rcases Nat.lt_or_ge Q (2 ^ D) with h1 | h1
      · have := blen_le h1; omega
      · omega
    have hb : blen Q = D + 1 := by rw [hQe, blen_pow]
    have hq2 : Q2 = 2 ^ (D - 1) := by rw [h2, hQe, hpow]; omega
    have hb2 : blen Q2 = D := by rw [hq2, blen_pow]; omega
    refine ⟨by omega, by omega, fun h => by omega, fun _ => ⟨by omega, by have := Nat.two_pow_pos (D - 1); omega, ?_⟩, by omega⟩
    rw [k2, hq2, hQe, hpow, show (K + 1 - lo).toNat = (K - lo).toNat + 1 by omega, Nat.add_mul]
    omega
  · rw [if_neg h] at h2 k2
    subst h2 k2
    refine ⟨by omega, rfl, fun h1 => ?_, fun h1 => ⟨?_, ?_, rfl⟩, hK⟩
    · have hl := blen_lt Q2
      have : 2 ^ blen Q2 ≤ 2 ^ (D - 1) := Nat.pow_le_pow_right (by decide) (by omega)
      have : ¬ lo < K2 := fun h2 => by have := hfull h2; omega
      exact ⟨rfl, by omega, by omega⟩
    · have h0 : Q2 ≠ 0 := fun h0 => by rw [h0, blen_zero] at h1; omega
      have := le_of_blen h0
      rwa [h1] at this
    · have := blen_lt Q2
      rwa [h1] at this
theorem g_ends {D : Nat} {lo : Int} {ng : Bool} {M : Nat} {e : Int} {more : Bool} {mode : Int} (hM : M ≠ 0) (hD : 1 ≤ D) :
    blen (gQ2 D lo ng M e more mode) ≤ D ∧ gK2 D lo ng M e more mode + (blen (gQ2 D lo ng M e more mode) : Nat) = gK D lo M e + (blen (gQ D lo ng M e more mode) : Nat) ∧
    (blen (gQ2 D lo ng M e more mode) < D → gQ2 D lo ng M e more mode = gQ D lo ng M e more mode ∧ gK D lo M e = lo ∧ gK2 D lo ng M e more mode = lo) ∧
    (blen (gQ2 D lo ng M e more mode) = D → 2 ^ (D - 1) ≤ gQ2 D lo ng M e more mode ∧ gQ2 D lo ng M e more mode < 2 ^ D ∧
      (gK2 D lo ng M e more mode - lo).toNat * 2 ^ (D - 1) + gQ2 D lo ng M e more mode = (gK D lo M e - lo).toNat * 2 ^ (D - 1) + gQ D lo ng M e more mode) ∧ lo ≤ gK2 D lo ng M e more mode :=
  g_ends_aux (gQ_le D lo ng M e more mode) (gQ_full ng more mode hM hD) (Int.le_max_right _ _) hD _ _ rfl rfl
theorem blen_of_dg {n k : Nat} (h : (dg n).length ≤ k) : blen n ≤ 32 * k :=
  blen_le (Nat.lt_of_lt_of_le (lt_of_dg n) (by rw [show (4294967296 : Nat) = 2 ^ 32 from rfl, ← Nat.pow_mul]; exact Nat.pow_le_pow_right (by decide) (Nat.mul_le_mul_left _ h)))
theorem fld_join (fd Q F : Nat) (h : 1 ≤ fd) (h2 : F ≤ Q) : fd * F + (Q - F) = (fd - 1) * F + Q := by
  obtain ⟨j, rfl⟩ : ∃ j, fd = j + 1 := ⟨fd - 1, by omega⟩
  rw [Nat.add_sub_cancel, Nat.add_mul]; omega
/-- a pointer to a number, newer than W -/
def PtrI (W : World) (v : Int) (s : Value) (wx : World) : Prop := ∃ g, s = .pointer (some ⟨g, 0, none⟩) ∧ IntB wx g v ∧ W.heap.size ≤ g

/-- the word and the flags of what is rounded -/
def gWord (D lo most : Int) (top inf FR SG : Nat) (ng : Bool) (M : Nat) (e : Int) (more : Bool) (mode : Int) : Nat :=
  (if gOver D lo most ng M e more mode then (if topR ng mode then top else inf) else (gK D lo M e - lo).toNat * FR + gQ D lo ng M e more mode) + (if ng then SG else 0)
def gFlags (D lo most : Int) (ng : Bool) (M : Nat) (e : Int) (more : Bool) (mode : Int) : Int := if gOver D lo most ng M e more mode then 5 else gFl D lo M e more

set_option maxRecDepth 100000 in
set_option maxHeartbeats 600000 in
theorem Round0D (ng more : Bool) (g M b : Nat) (e mode K : Int) (hb : b = blen M) (hb2 : b ≤ 30000) (he : -50000 ≤ e ∧ e ≤ 50000) (hM : (dg M).length ≤ 1000) (hK : K = max (e + (b : Int) - 53) (-1074)) (hM0 : M ≠ 0) (WD : Nat) (FLG : Int) (hWD : WD = (if gOver 53 (-1074) 1023 ng M e more mode then (if topR ng mode then 9218868437227405311 else 9218868437227405312) else (gK 53 (-1074) M e - -1074).toNat * 4503599627370496 + gQ 53 (-1074) ng M e more mode) + (if ng then 9223372036854775808 else 0)) (hFL : FLG = if gOver 53 (-1074) 1023 ng M e more mode then 5 else gFl 53 (-1074) M e more) (w : World) (hI : IntB w g (M : Int)) : Calls Tryd.prog 109 #[fmD, .bool ng, .pointer (some ⟨g, 0, none⟩), .int .i64 e, .bool more, .int .i64 mode] w (fun e w' => e = .returned (.tuple #[.int .u64 (WD : Int), .int .i64 FLG]) ∧ Within w w') := by
  have HWD := Lib.hid hWD; have HFL := Lib.hid hFL; clear hWD hFL
  have HB := Lib.hid hb; have HK := Lib.hid hK; have HM0 := Lib.hid hM0; clear hb hK hM0
  have he1 := he.1; have he2 := he.2; clear he
  have BL := Lib.hid (fun (w' : World) (h : IntB w' g (M : Int)) => Bbitlen g M (by rw [Int.natAbs_natCast]; exact Nat.le_trans hM (by decide)) w' h)
  have HM := Lib.hid hM; clear hM
  have hK1 : -60000 ≤ K := by have := HK.out; omega
  have hK2 : K ≤ 100000 := by have := HK.out; omega
  have hGK : gK 53 (-1074) M e = K := by unfold gK; rw [← HB.out]; exact HK.out.symm
  have HGK := Lib.hid hGK; clear hGK
  obtain ⟨qq, hqq⟩ : ∃ qq, qq = gq 53 (-1074) M e := ⟨_, rfl⟩
  obtain ⟨cc, hcc⟩ : ∃ cc, cc = gc 53 (-1074) M e more := ⟨_, rfl⟩
  obtain ⟨QQ, hQQ⟩ : ∃ QQ, QQ = gQ 53 (-1074) ng M e more mode := ⟨_, rfl⟩
  have hql : gq 53 (-1074) M e < 2 ^ 53 := gq_lt 53 (-1074) M e
  rw [← hqq] at hql
  have HQL := Lib.hid hql; clear hql
  have hQl : gQ 53 (-1074) ng M e more mode ≤ 2 ^ 53 := gQ_le 53 (-1074) ng M e more mode
  rw [← hQQ] at hQl
  have HQ2 := Lib.hid hQl; clear hQl
  have hQu : QQ = qq + (upB ng qq cc mode).toNat := by rw [hQQ, hqq, hcc]; rfl
  have HQU := Lib.hid hQu; clear hQu
  have HQQ := Lib.hid hqq; have HCC := Lib.hid hcc; have HQX := Lib.hid hQQ; clear hqq hcc hQQ
  go_enter Tryd.func109, Tryd.ntmps109
  go_wp2_with fail
  refine (BL.out _ (by repeat (first | with_reducible assumption | with_reducible exact ib_new _ _ (by simp; done) | with_reducible refine IntB.alloc ?_ _ | with_reducible refine IntB.drewN ?_ _))).mono ?_; rintro e1 w1 ⟨rfl, hb1⟩
  have hI1 : IntB w1 g (M : Int) := (hI.alloc _).of hb1
  have x0 : w1.cell? ⟨w.heap.size, 0, none⟩ = some (.int .i64 (53)) := (hb1.cells _ _ (by simp)).trans (by go_simp)
  have x1 : w1.cell? ⟨w.heap.size, 1, none⟩ = some (.int .i64 (-1022)) := (hb1.cells _ _ (by simp)).trans (by go_simp)
  have x2 : w1.cell? ⟨w.heap.size, 2, none⟩ = some (.int .i64 (1023)) := (hb1.cells _ _ (by simp)).trans (by go_simp)
  have x3 : w1.cell? ⟨w.heap.size, 3, none⟩ = some (.int .i64 (11)) := (hb1.cells _ _ (by simp)).trans (by go_simp)
  rw [Int.natAbs_natCast, ← HB.out]
  have gm : max (e + (b : Int) - 1 - 53 + 1) (-1074) = K := by have := HK.out; omega
  go_wp2_with fail
  refine (Bset w1.heap.size g M (by rw [Int.natAbs_natCast]; exact Nat.le_trans HM.out (by decide)) _ (by repeat (first | with_reducible assumption | with_reducible exact ty_new _ _ _ _ (by simp; done) | with_reducible refine ty_drew ?_ | with_reducible refine ty_alloc ?_ _)) (by repeat (first | with_reducible assumption | with_reducible exact ib_new _ _ (by simp; done) | with_reducible refine IntB.alloc ?_ _ | with_reducible refine IntB.drewN ?_ _))).mono ?_; rintro e2 w2 ⟨rfl, hI2, hG2⟩
  have hb2 : Within w1 w2 := Within.grown (by repeat (first | with_reducible exact Within.refl _ | with_reducible assumption | with_reducible refine Within.alloc ?_ _ | with_reducible refine Within.drew ?_ | with_reducible refine Within.drewN ?_ _ | with_reducible refine Within.setCell ?_ (by first | (simp; done) | (simp; omega)) _ | with_reducible refine Within.trans ?_ (by assumption))) hG2 (by simp)
  have t2 := hI2.ty
  have hI := hI1.of hb2
  clear hG2
  have hb20 : Within (w.alloc (.cells #[.int .i64 53, .int .i64 (-1022), .int .i64 1023, .int .i64 11] 84)) w2 := hb1.trans hb2
  clear x0 x1 x2 x3
  have x0 : w2.cell? ⟨w.heap.size, 0, none⟩ = some (.int .i64 (53)) := (hb20.cells _ _ (by simp)).trans (by go_simp)
  have x1 : w2.cell? ⟨w.heap.size, 1, none⟩ = some (.int .i64 (-1022)) := (hb20.cells _ _ (by simp)).trans (by go_simp)
  have x2 : w2.cell? ⟨w.heap.size, 2, none⟩ = some (.int .i64 (1023)) := (hb20.cells _ _ (by simp)).trans (by go_simp)
  have x3 : w2.cell? ⟨w.heap.size, 3, none⟩ = some (.int .i64 (11)) := (hb20.cells _ _ (by simp)).trans (by go_simp)
  go_upto_if 42 with fail
  go_cut [16, 17] (fun sq sc wx => PtrI (w.alloc (.cells #[.int .i64 53, .int .i64 (-1022), .int .i64 1023, .int .i64 11] 84)) (qq : Int) sq wx ∧ sc = .int .i64 cc ∧ Within (w.alloc (.cells #[.int .i64 53, .int .i64 (-1022), .int .i64 1023, .int .i64 11] 84)) wx)
  case first =>
    by_cases hle : K ≤ e
    · skip
      obtain ⟨k, hk⟩ : ∃ k : Nat, e - K = (k : Int) := ⟨(e - K).toNat, by omega⟩
      have hkb : k ≤ 150000 := by omega
      have hv : (M : Int) * 2 ^ k = (qq : Int) := by have h1 := HGK.out; rw [HQQ.out]; unfold gq; rw [h1, if_pos hle, hk, Int.toNat_natCast]; simp
      have hcv : cc = if more then -1 else -2 := by have h1 := HGK.out; rw [HCC.out]; unfold gc; rw [h1, if_pos hle]
      have HCV := Lib.hid hcv; clear hcv
      have d : decide (e ≥ K) = true := decide_eq_true hle
      have HLE := Lib.hid hle; clear hle
      go_wp2_with fail
      refine (Blsh w1.heap.size w1.heap.size k M (by rw [Int.natAbs_natCast]; exact Nat.le_trans HM.out (by decide)) (by omega) w2 t2 hI2).mono ?_; rintro e3 w3 ⟨rfl, hI3, hG3⟩
      have hb3 : Within (w.alloc (.cells #[.int .i64 53, .int .i64 (-1022), .int .i64 1023, .int .i64 11] 84)) w3 := Within.grown hb20 hG3 (by have := hb1.sizes; exact this)
      rw [hv] at hI3
      have hs1 := hb1.sizes
      cases more
      · have hcm : (-2 : Int) = cc := by rw [HCV.out]; rfl
        clear HCV
        go_wp2_with fail
        go_meet
        exact ⟨⟨_, rfl, hI3, hs1⟩, by first | rfl | rw [hcm], hb3⟩
      · have hcm : (-1 : Int) = cc := by rw [HCV.out]; rfl
        clear HCV
        go_wp2_with fail
        go_meet
        exact ⟨⟨_, rfl, hI3, hs1⟩, by first | rfl | rw [hcm], hb3⟩
    · skip
      obtain ⟨k, hk⟩ : ∃ k : Nat, K - e = (k : Int) := ⟨(K - e).toNat, by omega⟩
      have hkb : 1 ≤ k ∧ k ≤ 60000 := by have := HK.out; omega
      have hv : M / 2 ^ k = qq := by have h1 := HGK.out; rw [HQQ.out]; unfold gq; rw [h1, if_neg hle, hk, Int.toNat_natCast]
      have hcv : cutC M k more = cc := by have h1 := HGK.out; rw [HCC.out]; unfold gc; rw [h1, if_neg hle, hk, Int.toNat_natCast]
      have CT := Lib.hid (Rcut g M k more hkb.1 hkb.2 HM.out w2 hI)
      rw [hv, hcv] at CT
      clear hv hcv
      have d : decide (e ≥ K) = false := decide_eq_false (by omega)
      have HLE := Lib.hid hle; clear hle
      go_wp2_with fail
      refine CT.out.mono ?_; rintro e3 w3 ⟨g3, rfl, hI3, hg3, hb3'⟩
      have hb3 := hb20.trans hb3'
      have hs1 := Nat.le_trans hb20.sizes hg3
      go_wp2_with fail
      go_meet
      exact ⟨⟨_, rfl, hI3, hs1⟩, rfl, hb3⟩
  case rest =>
    obtain ⟨⟨gQ', rfl, hIq, hgq⟩, rfl, hw⟩ := hcut
    have x0 : wc.cell? ⟨w.heap.size, 0, none⟩ = some (.int .i64 (53)) := (hw.cells _ _ (by simp)).trans (by go_simp)
    have x1 : wc.cell? ⟨w.heap.size, 1, none⟩ = some (.int .i64 (-1022)) := (hw.cells _ _ (by simp)).trans (by go_simp)
    have x2 : wc.cell? ⟨w.heap.size, 2, none⟩ = some (.int .i64 (1023)) := (hw.cells _ _ (by simp)).trans (by go_simp)
    have x3 : wc.cell? ⟨w.heap.size, 3, none⟩ = some (.int .i64 (11)) := (hw.cells _ _ (by simp)).trans (by go_simp)
    have GO := Lib.hid (Rgoes ng gQ' qq cc mode (HCC.out ▸ gc_range _ _ _ _ _) (Nat.le_trans (dg_small (k := 2) (Nat.lt_of_lt_of_le HQL.out (by decide))) (by decide)) wc hIq)
    go_wp2_with fail
    refine GO.out.mono ?_; rintro e4 w4 ⟨rfl, hb4⟩
    obtain ⟨u, hu⟩ : ∃ u, u = upB ng qq cc mode := ⟨_, rfl⟩
    rw [← hu]
    have HU := HQU.out; rw [← hu] at HU
    have HQ3 := Lib.hid HU; clear HU hu GO
    have hIq := hIq.of hb4
    have hw4 := hw.trans hb4
    clear x0 x1 x2 x3
    have x0 : w4.cell? ⟨w.heap.size, 0, none⟩ = some (.int .i64 (53)) := (hw4.cells _ _ (by simp)).trans (by go_simp)
    have x1 : w4.cell? ⟨w.heap.size, 1, none⟩ = some (.int .i64 (-1022)) := (hw4.cells _ _ (by simp)).trans (by go_simp)
    have x2 : w4.cell? ⟨w.heap.size, 2, none⟩ = some (.int .i64 (1023)) := (hw4.cells _ _ (by simp)).trans (by go_simp)
    have x3 : w4.cell? ⟨w.heap.size, 3, none⟩ = some (.int .i64 (11)) := (hw4.cells _ _ (by simp)).trans (by go_simp)
    go_upto_if 64 with fail
    go_cut [16] (fun sq wx => PtrI (w.alloc (.cells #[.int .i64 53, .int .i64 (-1022), .int .i64 1023, .int .i64 11] 84)) (QQ : Int) sq wx ∧ Within (w.alloc (.cells #[.int .i64 53, .int .i64 (-1022), .int .i64 1023, .int .i64 11] 84)) wx)
    case first =>
      cases u
      · have hq : (qq : Int) = (QQ : Int) := by rw [HQ3.out]; rfl
        rw [hq] at hIq; clear HQ3 hq
        go_wp2_with fail
        go_meet
        exact ⟨⟨_, rfl, hIq, hgq⟩, hw4⟩
      · have hq : (qq : Int) + 1 = (QQ : Int) := by rw [HQ3.out]; rfl
        have HQ4 := Lib.hid hq; clear HQ3 hq
        have hlq := hIq.lt
        go_wp2_with fail
        refine (BnewInt 1 (by decide) (by decide) w4).mono ?_; rintro e5 w5 ⟨g5, rfl, hI5, hg5, hb5⟩
        have hIq := hIq.of hb5
        go_wp2_with fail
        refine (BAdd gQ' gQ' g5 qq 1 (by rw [Int.natAbs_natCast]; exact Nat.le_trans (dg_small (k := 2) (Nat.lt_of_lt_of_le HQL.out (by decide))) (by decide)) (by decide +kernel) w5 hIq.ty hIq hI5).mono ?_; rintro e6 w6 ⟨rfl, hI6, hG6⟩
        rw [HQ4.out] at hI6
        have hb6 : Within (w.alloc (.cells #[.int .i64 53, .int .i64 (-1022), .int .i64 1023, .int .i64 11] 84)) w6 := Within.grown (hw4.trans hb5) hG6 hgq
        go_wp2_with fail
        go_meet
        exact ⟨⟨_, rfl, hI6, hgq⟩, hb6⟩
    case rest =>
      obtain ⟨⟨gR, rfl, hIr, hgr⟩, hw'⟩ := hcut
      have x0 : wc.cell? ⟨w.heap.size, 0, none⟩ = some (.int .i64 (53)) := (hw'.cells _ _ (by simp)).trans (by go_simp)
      have x1 : wc.cell? ⟨w.heap.size, 1, none⟩ = some (.int .i64 (-1022)) := (hw'.cells _ _ (by simp)).trans (by go_simp)
      have x2 : wc.cell? ⟨w.heap.size, 2, none⟩ = some (.int .i64 (1023)) := (hw'.cells _ _ (by simp)).trans (by go_simp)
      have x3 : wc.cell? ⟨w.heap.size, 3, none⟩ = some (.int .i64 (11)) := (hw'.cells _ _ (by simp)).trans (by go_simp)
      obtain ⟨FF, hFF⟩ : ∃ FF, FF = gFl 53 (-1074) M e more := ⟨_, rfl⟩
      have hFF2 : FF = if -2 < cc then (if e + (b : Int) - 1 < -1022 then 3 else 1) else 0 := by rw [hFF]; unfold gFl; rw [← HCC.out, ← HB.out]; rfl
      have HFF := Lib.hid hFF; have HF2 := Lib.hid hFF2; clear hFF hFF2
      have go2 : bits .or .i64 1 2 = 3 := by decide
      go_upto_if 70 with fail
      go_cut [18] (fun sf wx => sf = .int .i64 FF ∧ wx = wc)
      case first =>
        by_cases hc2 : -2 < cc
        · have d : decide (-2 < cc) = true := decide_eq_true hc2
          by_cases ht : e + (b : Int) - 1 < -1022
          · have dt : decide (e + (b : Int) - 1 < -1022) = true := decide_eq_true ht
            have hv : (3 : Int) = FF := by rw [HF2.out, if_pos hc2, if_pos ht]
            have HV := Lib.hid hv; clear hv d dt
            go_wp2_with fail
            go_meet
            exact ⟨by rw [← HV.out], rfl⟩
          · have dt : decide (e + (b : Int) - 1 < -1022) = false := decide_eq_false ht
            have hv : (1 : Int) = FF := by rw [HF2.out, if_pos hc2, if_neg ht]
            have HV := Lib.hid hv; clear hv d dt
            go_wp2_with fail
            go_meet
            exact ⟨by rw [← HV.out], rfl⟩
        · have d : decide (-2 < cc) = false := decide_eq_false hc2
          have hv : (0 : Int) = FF := by rw [HF2.out, if_neg hc2]
          have hc3 : cc ≤ -2 := by omega
          have HV := Lib.hid hv; clear hv d hc2
          go_wp2_with fail
          go_meet
          exact ⟨by rw [← HV.out], rfl⟩
      case rest =>
        obtain ⟨rfl, rfl⟩ := hcut
        obtain ⟨NB, hNB⟩ : ∃ NB, NB = blen QQ := ⟨_, rfl⟩
        obtain ⟨K2, hK2'⟩ : ∃ K2, K2 = gK2 53 (-1074) ng M e more mode := ⟨_, rfl⟩
        obtain ⟨Q2, hQ2'⟩ : ∃ Q2, Q2 = gQ2 53 (-1074) ng M e more mode := ⟨_, rfl⟩
        obtain ⟨N2, hN2'⟩ : ∃ N2, N2 = blen Q2 := ⟨_, rfl⟩
        have hK2e : K2 = if 53 < (NB : Int) then K + 1 else K := by rw [hK2', hNB, HQX.out]; unfold gK2; rw [HGK.out]; all_goals rfl
        have hQ2e : Q2 = if 53 < (NB : Int) then QQ / 2 else QQ := by rw [hQ2', hNB, HQX.out]; unfold gQ2; all_goals rfl
        have hE := g_ends (D := 53) (lo := -1074) (ng := ng) (M := M) (e := e) (more := more) (mode := mode) HM0.out (by decide)
        rw [show ((53 : Nat) : Int) = 53 from rfl, ← hQ2', ← hK2', ← HQX.out, HGK.out, ← hN2', ← hNB] at hE
        have HNB := Lib.hid hNB; have HK2 := Lib.hid hK2e; have HQ2' := Lib.hid hQ2e; have HN2 := Lib.hid hN2'; have HE := Lib.hid hE; clear hNB hK2' hQ2' hN2' hK2e hQ2e hE
        have hNBb : NB ≤ 54 := by rw [HNB.out]; exact blen_le (Nat.lt_of_le_of_lt HQ2.out (by decide))
        have hN2b : N2 ≤ 53 := HE.out.1
        have hQs : (dg QQ).length ≤ 1000000 := Nat.le_trans (dg_small (k := 2) (Nat.lt_of_le_of_lt HQ2.out (by decide))) (by decide)
        have hQs2 : (dg Q2).length ≤ 1000000 := by have h1 := HQ2'.out; refine Nat.le_trans (dg_len_mono ?_) hQs; rw [h1]; split; exact Nat.div_le_self _ _; exact Nat.le_refl _
        have HQs := Lib.hid hQs; have HQs2 := Lib.hid hQs2; clear hQs hQs2
        have hK2b : -60000 ≤ K2 ∧ K2 ≤ 100001 := by have := HK2.out; rw [this]; split <;> omega
        have hK21 := hK2b.1; have hK22 := hK2b.2; clear hK2b
        go_upto_region 16 with fail
        refine wp_region_schG (fun W => W.cell? ⟨w.heap.size, 0, none⟩ = some (.int .i64 (53)) ∧ W.cell? ⟨w.heap.size, 1, none⟩ = some (.int .i64 (-1022)) ∧ W.cell? ⟨w.heap.size, 2, none⟩ = some (.int .i64 (1023)) ∧ W.cell? ⟨w.heap.size, 3, none⟩ = some (.int .i64 (11)) ∧ IntB W gR (QQ : Int) ∧ Within (w.alloc (.cells #[.int .i64 53, .int .i64 (-1022), .int .i64 1023, .int .i64 11] 84)) W) 4 (.firm 0 (.firm 2 (.firm 3 (.one 1 (.one 4 .nil))))) (by kernel_rfl) (by kernel_rfl) ⟨x0, x1, x2, x3, hIr, hw'⟩ ?_
        rintro w0 ⟨y0, y1, y2, y3, hJ, hw0⟩
        try simp only [Act.put, List.setIfInBounds_toArray, List.set_cons_zero, List.set_cons_succ]
        have hs0 : w.heap.size < w0.heap.size := by have := hw0.sizes; simp at this; omega
        repeat
          apply sch_firm rfl rfl (by repeat (first | with_reducible exact Within.refl _ | with_reducible assumption | with_reducible refine Within.alloc ?_ _ | with_reducible refine Within.drew ?_ | with_reducible refine Within.drewN ?_ _ | with_reducible refine Within.setCell ?_ (by first | (simp; done) | (simp; omega)) _ | with_reducible refine Within.trans ?_ (by assumption)))
          · intro wq hq
            have hcq := hq.cells
            clear hq
            go_simp
            first | rfl | (trace_state; fail)
          try simp only [Act.put, List.setIfInBounds_toArray, List.set_cons_zero, List.set_cons_succ]
        refine sch_one rfl rfl (fun K hK => ?_)
        go_simp
        refine (Bbitlen gR QQ (by rw [Int.natAbs_natCast]; exact HQs.out) _ (hJ.of (Within.refl _).drew)).mono ?_; rintro e7 w7 ⟨rfl, hb7⟩
        rw [Int.natAbs_natCast, ← HNB.out]
        have hv7 : Within w0 w7 := (Within.refl w0).drew.trans hb7
        refine hK _ _ (fun _ => (by repeat (first | with_reducible exact Within.refl _ | with_reducible assumption | with_reducible refine Within.alloc ?_ _ | with_reducible refine Within.drew ?_ | with_reducible refine Within.drewN ?_ _ | with_reducible refine Within.setCell ?_ (by first | (simp; done) | (simp; omega)) _ | with_reducible refine Within.trans ?_ (by assumption)))) ?_
        clear hK K
        try simp only [Act.put, List.setIfInBounds_toArray, List.set_cons_zero, List.set_cons_succ]
        refine sch_one rfl rfl (fun K hK => ?_)
        go_simp
        refine hK _ _ (fun h => absurd h (by decide)) ?_
        clear hK K
        try simp only [Act.put, List.setIfInBounds_toArray, List.set_cons_zero, List.set_cons_succ]
        refine sch_nil ?_
        have hw7 := hw0.trans hv7
        have hJ := hJ.of hv7
        clear x0 x1 x2 x3 y0 y1 y2 y3
        have x0 : w7.cell? ⟨w.heap.size, 0, none⟩ = some (.int .i64 (53)) := (hw7.cells _ _ (by simp)).trans (by go_simp)
        have x1 : w7.cell? ⟨w.heap.size, 1, none⟩ = some (.int .i64 (-1022)) := (hw7.cells _ _ (by simp)).trans (by go_simp)
        have x2 : w7.cell? ⟨w.heap.size, 2, none⟩ = some (.int .i64 (1023)) := (hw7.cells _ _ (by simp)).trans (by go_simp)
        have x3 : w7.cell? ⟨w.heap.size, 3, none⟩ = some (.int .i64 (11)) := (hw7.cells _ _ (by simp)).trans (by go_simp)
        go_upto_if 81 with fail
        go_cut [15, 16] (fun sk sq wx => sk = .int .i64 K2 ∧ PtrI (w.alloc (.cells #[.int .i64 53, .int .i64 (-1022), .int .i64 1023, .int .i64 11] 84)) (Q2 : Int) sq wx ∧ Within (w.alloc (.cells #[.int .i64 53, .int .i64 (-1022), .int .i64 1023, .int .i64 11] 84)) wx)
        case first =>
          by_cases hN : 53 < (NB : Int)
          · have hv : QQ / 2 ^ 1 = Q2 := by have h1 := HQ2'.out; rw [h1, if_pos hN]
            have hk : K + 1 = K2 := by have h1 := HK2.out; rw [h1, if_pos hN]
            have HV := Lib.hid hv; have HKK := Lib.hid hk; clear hv hk
            have hN' : 53 < NB := by omega
            go_wp2_with fail
            refine (Brsh gR gR 1 QQ (Nat.le_trans HQs.out (by decide)) (by decide) w7 hJ.ty hJ).mono ?_; rintro e8 w8 ⟨rfl, hI8, hG8⟩
            rw [HV.out] at hI8
            have hb8 : Within (w.alloc (.cells #[.int .i64 53, .int .i64 (-1022), .int .i64 1023, .int .i64 11] 84)) w8 := Within.grown hw7 hG8 hgr
            go_wp2_with fail
            go_meet
            exact ⟨by rw [HKK.out], ⟨_, rfl, hI8, hgr⟩, hb8⟩
          · have hv : QQ = Q2 := by have h1 := HQ2'.out; rw [h1, if_neg hN]
            have hk : K = K2 := by have h1 := HK2.out; rw [h1, if_neg hN]
            rw [hv] at hJ
            have HKK := Lib.hid hk; clear hv hk
            have hN' : NB ≤ 53 := by omega
            go_wp2_with fail
            go_meet
            exact ⟨by rw [HKK.out], ⟨_, rfl, hJ, hgr⟩, hw7⟩
        case rest =>
          obtain ⟨rfl, ⟨gT, rfl, hIt, hgt⟩, hw''⟩ := hcut
          have x0 : wc.cell? ⟨w.heap.size, 0, none⟩ = some (.int .i64 (53)) := (hw''.cells _ _ (by simp)).trans (by go_simp)
          have x1 : wc.cell? ⟨w.heap.size, 1, none⟩ = some (.int .i64 (-1022)) := (hw''.cells _ _ (by simp)).trans (by go_simp)
          have x2 : wc.cell? ⟨w.heap.size, 2, none⟩ = some (.int .i64 (1023)) := (hw''.cells _ _ (by simp)).trans (by go_simp)
          have x3 : wc.cell? ⟨w.heap.size, 3, none⟩ = some (.int .i64 (11)) := (hw''.cells _ _ (by simp)).trans (by go_simp)
          have s1 : IntKind.i64.wrap (K2 + (N2 : Int)) = K2 + (N2 : Int) := by rw [IntKind.wrap_i64]; omega
          have s2 : IntKind.i64.wrap (K2 + (N2 : Int) - 1) = K2 + (N2 : Int) - 1 := by rw [IntKind.wrap_i64]; omega
          go_upto_region 19 with fail
          refine wp_region_schG (fun W => W.cell? ⟨w.heap.size, 0, none⟩ = some (.int .i64 (53)) ∧ W.cell? ⟨w.heap.size, 1, none⟩ = some (.int .i64 (-1022)) ∧ W.cell? ⟨w.heap.size, 2, none⟩ = some (.int .i64 (1023)) ∧ W.cell? ⟨w.heap.size, 3, none⟩ = some (.int .i64 (11)) ∧ IntB W gT (Q2 : Int) ∧ Within (w.alloc (.cells #[.int .i64 53, .int .i64 (-1022), .int .i64 1023, .int .i64 11] 84)) W) 7 (.firm 0 (.firm 1 (.firm 5 (.firm 6 (.one 2 (.one 3 (.one 4 (.one 7 .nil)))))))) (by kernel_rfl) (by kernel_rfl) ⟨x0, x1, x2, x3, hIt, hw''⟩ ?_
          rintro w0 ⟨y0, y1, y2, y3, hJ, hw0⟩
          try simp only [Act.put, List.setIfInBounds_toArray, List.set_cons_zero, List.set_cons_succ]
          have hs0 : w.heap.size < w0.heap.size := by have := hw0.sizes; simp at this; omega
          repeat
            apply sch_firm rfl rfl (by repeat (first | with_reducible exact Within.refl _ | with_reducible assumption | with_reducible refine Within.alloc ?_ _ | with_reducible refine Within.drew ?_ | with_reducible refine Within.drewN ?_ _ | with_reducible refine Within.setCell ?_ (by first | (simp; done) | (simp; omega)) _ | with_reducible refine Within.trans ?_ (by assumption)))
            · intro wq hq
              have hcq := hq.cells
              clear hq
              go_simp
              first | rfl | (trace_state; fail)
            try simp only [Act.put, List.setIfInBounds_toArray, List.set_cons_zero, List.set_cons_succ]
          refine sch_one rfl rfl (fun K hK => ?_)
          go_simp
          refine (Bbitlen gT Q2 (by rw [Int.natAbs_natCast]; exact HQs2.out) _ (hJ.of (Within.refl _).drew)).mono ?_; rintro e9 w9 ⟨rfl, hb9⟩
          rw [Int.natAbs_natCast, ← HN2.out]
          have hv9 : Within w0 w9 := (Within.refl w0).drew.trans hb9
          refine hK _ _ (fun _ => (by repeat (first | with_reducible exact Within.refl _ | with_reducible assumption | with_reducible refine Within.alloc ?_ _ | with_reducible refine Within.drew ?_ | with_reducible refine Within.drewN ?_ _ | with_reducible refine Within.setCell ?_ (by first | (simp; done) | (simp; omega)) _ | with_reducible refine Within.trans ?_ (by assumption)))) ?_
          clear hK K
          try simp only [Act.put, List.setIfInBounds_toArray, List.set_cons_zero, List.set_cons_succ]
          refine sch_one rfl rfl (fun K hK => ?_)
          go_simp
          refine hK _ _ (fun _ => (by repeat (first | with_reducible exact Within.refl _ | with_reducible assumption | with_reducible refine Within.alloc ?_ _ | with_reducible refine Within.drew ?_ | with_reducible refine Within.drewN ?_ _ | with_reducible refine Within.setCell ?_ (by first | (simp; done) | (simp; omega)) _ | with_reducible refine Within.trans ?_ (by assumption)))) ?_
          clear hK K
          try simp only [Act.put, List.setIfInBounds_toArray, List.set_cons_zero, List.set_cons_succ]
          refine sch_one rfl rfl (fun K hK => ?_)
          go_simp
          refine hK _ _ (fun _ => (by repeat (first | with_reducible exact Within.refl _ | with_reducible assumption | with_reducible refine Within.alloc ?_ _ | with_reducible refine Within.drew ?_ | with_reducible refine Within.drewN ?_ _ | with_reducible refine Within.setCell ?_ (by first | (simp; done) | (simp; omega)) _ | with_reducible refine Within.trans ?_ (by assumption)))) ?_
          clear hK K
          try simp only [Act.put, List.setIfInBounds_toArray, List.set_cons_zero, List.set_cons_succ]
          refine sch_one rfl rfl (fun K hK => ?_)
          go_simp
          refine hK _ _ (fun h => absurd h (by decide)) ?_
          clear hK K
          try simp only [Act.put, List.setIfInBounds_toArray, List.set_cons_zero, List.set_cons_succ]
          refine sch_nil ?_
          have hw9 := hw0.trans hv9
          have hJ := hJ.of hv9
          clear x0 x1 x2 x3 y0 y1 y2 y3
          have x0 : w9.cell? ⟨w.heap.size, 0, none⟩ = some (.int .i64 (53)) := (hw9.cells _ _ (by simp)).trans (by go_simp)
          have x1 : w9.cell? ⟨w.heap.size, 1, none⟩ = some (.int .i64 (-1022)) := (hw9.cells _ _ (by simp)).trans (by go_simp)
          have x2 : w9.cell? ⟨w.heap.size, 2, none⟩ = some (.int .i64 (1023)) := (hw9.cells _ _ (by simp)).trans (by go_simp)
          have x3 : w9.cell? ⟨w.heap.size, 3, none⟩ = some (.int .i64 (11)) := (hw9.cells _ _ (by simp)).trans (by go_simp)
          by_cases hov : 1023 < K2 + (N2 : Int) - 1
          · have hO : gOver 53 (-1074) 1023 ng M e more mode = true := by unfold gOver; rw [HGK.out, ← HQX.out, ← HNB.out]; exact decide_eq_true (by have := HE.out.2.1; omega)
            have hV := HWD.out; rw [hO, if_pos rfl] at hV
            have hF := HFL.out; rw [hO, if_pos rfl] at hF
            have RO := fun (w' : World) => RoverD ng mode w'
            rw [← hV] at RO
            have HRO := Lib.hid RO; have HFF5 := Lib.hid hF; clear RO hV hF hO
            go_wp2_with fail
            refine (HRO.out _).mono ?_; rintro e10 w10 ⟨rfl, hb10⟩
            go_wp2
            go_ret2
            exact ⟨ret2 rfl (v_int HFF5.out.symm), ((Within.refl w).alloc _).trans (hw9.trans hb10)⟩
          · have hov' : K2 + (N2 : Int) - 1 ≤ 1023 := by omega
            have hO : gOver 53 (-1074) 1023 ng M e more mode = false := by unfold gOver; rw [HGK.out, ← HQX.out, ← HNB.out]; exact decide_eq_false (by have := HE.out.2.1; omega)
            have hV := HWD.out; rw [hO, if_neg Bool.false_ne_true, HGK.out, ← HQX.out] at hV
            have hF := HFL.out; rw [hO, if_neg Bool.false_ne_true, ← HFF.out] at hF
            have HVV := Lib.hid hV; have HFF5 := Lib.hid hF; clear hV hF hO
            go_upto_region 21 with fail
            refine wp_region_schG (fun W => W.cell? ⟨w.heap.size, 0, none⟩ = some (.int .i64 (53)) ∧ W.cell? ⟨w.heap.size, 1, none⟩ = some (.int .i64 (-1022)) ∧ W.cell? ⟨w.heap.size, 2, none⟩ = some (.int .i64 (1023)) ∧ W.cell? ⟨w.heap.size, 3, none⟩ = some (.int .i64 (11)) ∧ IntB W gT (Q2 : Int) ∧ Within (w.alloc (.cells #[.int .i64 53, .int .i64 (-1022), .int .i64 1023, .int .i64 11] 84)) W) 4 (.firm 0 (.firm 2 (.firm 3 (.one 1 (.one 4 .nil))))) (by kernel_rfl) (by kernel_rfl) ⟨x0, x1, x2, x3, hJ, hw9⟩ ?_
            rintro w0 ⟨y0, y1, y2, y3, hJ, hw0⟩
            try simp only [Act.put, List.setIfInBounds_toArray, List.set_cons_zero, List.set_cons_succ]
            have hs0 : w.heap.size < w0.heap.size := by have := hw0.sizes; simp at this; omega
            repeat
              apply sch_firm rfl rfl (by repeat (first | with_reducible exact Within.refl _ | with_reducible assumption | with_reducible refine Within.alloc ?_ _ | with_reducible refine Within.drew ?_ | with_reducible refine Within.drewN ?_ _ | with_reducible refine Within.setCell ?_ (by first | (simp; done) | (simp; omega)) _ | with_reducible refine Within.trans ?_ (by assumption)))
              · intro wq hq
                have hcq := hq.cells
                clear hq
                go_simp
                first | rfl | (trace_state; fail)
              try simp only [Act.put, List.setIfInBounds_toArray, List.set_cons_zero, List.set_cons_succ]
            refine sch_one rfl rfl (fun K hK => ?_)
            go_simp
            refine (Bbitlen gT Q2 (by rw [Int.natAbs_natCast]; exact HQs2.out) _ (hJ.of (Within.refl _).drew)).mono ?_; rintro e11 w11 ⟨rfl, hb11⟩
            rw [Int.natAbs_natCast, ← HN2.out]
            have hv11 : Within w0 w11 := (Within.refl w0).drew.trans hb11
            refine hK _ _ (fun _ => (by repeat (first | with_reducible exact Within.refl _ | with_reducible assumption | with_reducible refine Within.alloc ?_ _ | with_reducible refine Within.drew ?_ | with_reducible refine Within.drewN ?_ _ | with_reducible refine Within.setCell ?_ (by first | (simp; done) | (simp; omega)) _ | with_reducible refine Within.trans ?_ (by assumption)))) ?_
            clear hK K
            try simp only [Act.put, List.setIfInBounds_toArray, List.set_cons_zero, List.set_cons_succ]
            refine sch_one rfl rfl (fun K hK => ?_)
            go_simp
            refine hK _ _ (fun h => absurd h (by decide)) ?_
            clear hK K
            try simp only [Act.put, List.setIfInBounds_toArray, List.set_cons_zero, List.set_cons_succ]
            refine sch_nil ?_
            have hw11 := hw0.trans hv11
            have hJ := hJ.of hv11
            clear x0 x1 x2 x3 y0 y1 y2 y3
            have x0 : w11.cell? ⟨w.heap.size, 0, none⟩ = some (.int .i64 (53)) := (hw11.cells _ _ (by simp)).trans (by go_simp)
            have x1 : w11.cell? ⟨w.heap.size, 1, none⟩ = some (.int .i64 (-1022)) := (hw11.cells _ _ (by simp)).trans (by go_simp)
            have x2 : w11.cell? ⟨w.heap.size, 2, none⟩ = some (.int .i64 (1023)) := (hw11.cells _ _ (by simp)).trans (by go_simp)
            have x3 : w11.cell? ⟨w.heap.size, 3, none⟩ = some (.int .i64 (11)) := (hw11.cells _ _ (by simp)).trans (by go_simp)
            by_cases hn : N2 < 53
            · have hn' : (N2 : Int) < 53 := by omega
              obtain ⟨q1, q2, q3⟩ := HE.out.2.2.1 hn
              have hql2 : Q2 < 4503599627370496 := Nat.lt_of_lt_of_le (blen_lt Q2) (by rw [← HN2.out]; exact Nat.pow_le_pow_right (by decide) (show N2 ≤ 52 by omega))
              have RP := fun (w' : World) => RputD ng 0 Q2 (by decide) hql2 w'
              have hvv : 0 * 4503599627370496 + Q2 + (if ng then 9223372036854775808 else 0) = WD := by rw [HVV.out, q2, q1]; simp
              rw [hvv] at RP
              have HRP := Lib.hid RP; clear RP hvv q1 q2 q3
              have RU := Lib.hid (fun (w' : World) (h : IntB w' gT (Q2 : Int)) => Buint64 gT Q2 (by rw [Int.natAbs_natCast]; exact HQs2.out) w' h)
              have hmod : (Q2 : Int).natAbs % 18446744073709551616 = Q2 := by rw [Int.natAbs_natCast]; omega
              rw [hmod] at RU
              have HQL2 := Lib.hid hql2; clear hmod hql2
              go_upto_region 22 with fail
              refine wp_region_schG (fun W => W.cell? ⟨w.heap.size, 0, none⟩ = some (.int .i64 (53)) ∧ W.cell? ⟨w.heap.size, 1, none⟩ = some (.int .i64 (-1022)) ∧ W.cell? ⟨w.heap.size, 2, none⟩ = some (.int .i64 (1023)) ∧ W.cell? ⟨w.heap.size, 3, none⟩ = some (.int .i64 (11)) ∧ IntB W gT (Q2 : Int) ∧ Within (w.alloc (.cells #[.int .i64 53, .int .i64 (-1022), .int .i64 1023, .int .i64 11] 84)) W) 7 (.firm 0 (.firm 1 (.firm 2 (.firm 5 (.one 3 (.one 4 (.one 6 (.one 7 .nil)))))))) (by kernel_rfl) (by kernel_rfl) ⟨x0, x1, x2, x3, hJ, hw11⟩ ?_
              rintro w0 ⟨y0, y1, y2, y3, hJ, hw0⟩
              try simp only [Act.put, List.setIfInBounds_toArray, List.set_cons_zero, List.set_cons_succ]
              have hs0 : w.heap.size < w0.heap.size := by have := hw0.sizes; simp at this; omega
              repeat
                apply sch_firm rfl rfl (by repeat (first | with_reducible exact Within.refl _ | with_reducible assumption | with_reducible refine Within.alloc ?_ _ | with_reducible refine Within.drew ?_ | with_reducible refine Within.drewN ?_ _ | with_reducible refine Within.setCell ?_ (by first | (simp; done) | (simp; omega)) _ | with_reducible refine Within.trans ?_ (by assumption)))
                · intro wq hq
                  have hcq := hq.cells
                  clear hq
                  go_simp
                  first | rfl | (trace_state; fail)
                try simp only [Act.put, List.setIfInBounds_toArray, List.set_cons_zero, List.set_cons_succ]
              refine sch_one rfl rfl (fun K hK => ?_)
              go_simp
              refine (RU.out _ (hJ.of (Within.refl _).drew)).mono ?_; rintro e12 w12 ⟨rfl, rfl⟩
              refine hK _ _ (fun _ => (by repeat (first | with_reducible exact Within.refl _ | with_reducible assumption | with_reducible refine Within.alloc ?_ _ | with_reducible refine Within.drew ?_ | with_reducible refine Within.drewN ?_ _ | with_reducible refine Within.setCell ?_ (by first | (simp; done) | (simp; omega)) _ | with_reducible refine Within.trans ?_ (by assumption)))) ?_
              clear hK K
              try simp only [Act.put, List.setIfInBounds_toArray, List.set_cons_zero, List.set_cons_succ]
              refine sch_one rfl rfl (fun K hK => ?_)
              go_simp
              refine (HRP.out _).mono ?_; rintro e13 w13 ⟨rfl, hb13⟩
              have hv13 : Within w0 w13 := (Within.refl w0).drew.trans hb13
              refine hK _ _ (fun _ => (by repeat (first | with_reducible exact Within.refl _ | with_reducible assumption | with_reducible refine Within.alloc ?_ _ | with_reducible refine Within.drew ?_ | with_reducible refine Within.drewN ?_ _ | with_reducible refine Within.setCell ?_ (by first | (simp; done) | (simp; omega)) _ | with_reducible refine Within.trans ?_ (by assumption)))) ?_
              clear hK K
              try simp only [Act.put, List.setIfInBounds_toArray, List.set_cons_zero, List.set_cons_succ]
              refine sch_one rfl rfl (fun K hK => ?_)
              go_simp
              refine hK _ _ (fun _ => (by repeat (first | with_reducible exact Within.refl _ | with_reducible assumption | with_reducible refine Within.alloc ?_ _ | with_reducible refine Within.drew ?_ | with_reducible refine Within.drewN ?_ _ | with_reducible refine Within.setCell ?_ (by first | (simp; done) | (simp; omega)) _ | with_reducible refine Within.trans ?_ (by assumption)))) ?_
              clear hK K
              try simp only [Act.put, List.setIfInBounds_toArray, List.set_cons_zero, List.set_cons_succ]
              refine sch_one rfl rfl (fun K hK => ?_)
              go_simp
              refine hK _ _ (fun h => absurd h (by decide)) ?_
              clear hK K
              try simp only [Act.put, List.setIfInBounds_toArray, List.set_cons_zero, List.set_cons_succ]
              refine sch_nil ?_
              go_wp2
              go_ret2
              exact ⟨ret2 rfl (v_int HFF5.out.symm), ((Within.refl w).alloc _).trans (hw0.trans hv13)⟩
            · have hn' : 53 ≤ (N2 : Int) := by omega
              obtain ⟨q1, q2, q3⟩ := HE.out.2.2.2.1 (by omega)
              have q4 := HE.out.2.2.2.2
              rw [show (2 : Nat) ^ (53 - 1) = 4503599627370496 from rfl] at q1 q3
              rw [show (2 : Nat) ^ 53 = 9007199254740992 from rfl] at q2
              obtain ⟨fd, hfd⟩ : ∃ fd : Nat, K2 + 1074 + 1 = (fd : Int) := ⟨(K2 + 1074 + 1).toNat, by omega⟩
              have hfl : fd < 2048 := by omega
              have RP := fun (w' : World) => RputD ng fd (Q2 - 4503599627370496) hfl (by omega) w'
              have hvv : fd * 4503599627370496 + (Q2 - 4503599627370496) + (if ng then 9223372036854775808 else 0) = WD := by rw [HVV.out, ← q3, show (K2 - -1074).toNat = fd - 1 by omega, fld_join fd Q2 4503599627370496 (by omega) q1]
              rw [hvv] at RP
              have HRP := Lib.hid RP; clear RP hvv q3
              have RU := Lib.hid (fun (w' : World) (h : IntB w' gT (Q2 : Int)) => Buint64 gT Q2 (by rw [Int.natAbs_natCast]; exact HQs2.out) w' h)
              have hmod : (Q2 : Int).natAbs % 18446744073709551616 = Q2 := by rw [Int.natAbs_natCast]; omega
              have e9 : Q2 % 4503599627370496 = Q2 - 4503599627370496 := by omega
              have ga := u64_mask 52 (by decide) Q2 (by omega)
              rw [show (2 ^ 52 - 1 : Nat) = 4503599627370495 from rfl, show (2 ^ 52 : Nat) = 4503599627370496 from rfl, e9, show ((4503599627370495 : Nat) : Int) = 4503599627370495 from rfl] at ga
              clear e9
              rw [hmod] at RU
              have HQL2 := Lib.hid (And.intro q1 q2); clear hmod q1 q2
              have k0 : IntKind.i64.wrap 52 = 52 := by decide
              have k1 : IntKind.u64.wrap 52 = 52 := by decide
              have k2 : IntKind.u64.wrap 4503599627370496 = 4503599627370496 := by decide
              have k3 : IntKind.u64.wrap 4503599627370495 = 4503599627370495 := by decide
              have k9 : (2 : Int) ^ min (Int.toNat 52) 64 = 4503599627370496 := by decide
              go_upto_region 24 with fail
              refine wp_region_schG (fun W => W.cell? ⟨w.heap.size, 0, none⟩ = some (.int .i64 (53)) ∧ W.cell? ⟨w.heap.size, 1, none⟩ = some (.int .i64 (-1022)) ∧ W.cell? ⟨w.heap.size, 2, none⟩ = some (.int .i64 (1023)) ∧ W.cell? ⟨w.heap.size, 3, none⟩ = some (.int .i64 (11)) ∧ IntB W gT (Q2 : Int) ∧ Within (w.alloc (.cells #[.int .i64 53, .int .i64 (-1022), .int .i64 1023, .int .i64 11] 84)) W) 15 (.firm 0 (.firm 1 (.firm 2 (.firm 3 (.firm 5 (.firm 6 (.firm 7 (.firm 8 (.firm 9 (.firm 10 (.firm 13 (.one 4 (.one 11 (.one 12 (.one 14 (.one 15 .nil)))))))))))))))) (by kernel_rfl) (by kernel_rfl) ⟨x0, x1, x2, x3, hJ, hw11⟩ ?_
              rintro w0 ⟨y0, y1, y2, y3, hJ, hw0⟩
              try simp only [Act.put, List.setIfInBounds_toArray, List.set_cons_zero, List.set_cons_succ]
              have hs0 : w.heap.size < w0.heap.size := by have := hw0.sizes; simp at this; omega
              repeat
                apply sch_firm rfl rfl (by repeat (first | with_reducible exact Within.refl _ | with_reducible assumption | with_reducible refine Within.alloc ?_ _ | with_reducible refine Within.drew ?_ | with_reducible refine Within.drewN ?_ _ | with_reducible refine Within.setCell ?_ (by first | (simp; done) | (simp; omega)) _ | with_reducible refine Within.trans ?_ (by assumption)))
                · intro wq hq
                  have hcq := hq.cells
                  clear hq
                  go_simp
                  first | rfl | (trace_state; fail)
                try simp only [Act.put, List.setIfInBounds_toArray, List.set_cons_zero, List.set_cons_succ]
              refine sch_one rfl rfl (fun K hK => ?_)
              go_simp
              refine (RU.out _ (hJ.of (Within.refl _).drew)).mono ?_; rintro e12 w12 ⟨rfl, rfl⟩
              refine hK _ _ (fun _ => (by repeat (first | with_reducible exact Within.refl _ | with_reducible assumption | with_reducible refine Within.alloc ?_ _ | with_reducible refine Within.drew ?_ | with_reducible refine Within.drewN ?_ _ | with_reducible refine Within.setCell ?_ (by first | (simp; done) | (simp; omega)) _ | with_reducible refine Within.trans ?_ (by assumption)))) ?_
              clear hK K
              try simp only [Act.put, List.setIfInBounds_toArray, List.set_cons_zero, List.set_cons_succ]
              refine sch_one rfl rfl (fun K hK => ?_)
              go_simp
              refine hK _ _ (fun _ => (by repeat (first | with_reducible exact Within.refl _ | with_reducible assumption | with_reducible refine Within.alloc ?_ _ | with_reducible refine Within.drew ?_ | with_reducible refine Within.drewN ?_ _ | with_reducible refine Within.setCell ?_ (by first | (simp; done) | (simp; omega)) _ | with_reducible refine Within.trans ?_ (by assumption)))) ?_
              clear hK K
              try simp only [Act.put, List.setIfInBounds_toArray, List.set_cons_zero, List.set_cons_succ]
              refine sch_one rfl rfl (fun K hK => ?_)
              go_simp
              refine (HRP.out _).mono ?_; rintro e13 w13 ⟨rfl, hb13⟩
              have hv13 : Within w0 w13 := (Within.refl w0).drew.trans hb13
              refine hK _ _ (fun _ => (by repeat (first | with_reducible exact Within.refl _ | with_reducible assumption | with_reducible refine Within.alloc ?_ _ | with_reducible refine Within.drew ?_ | with_reducible refine Within.drewN ?_ _ | with_reducible refine Within.setCell ?_ (by first | (simp; done) | (simp; omega)) _ | with_reducible refine Within.trans ?_ (by assumption)))) ?_
              clear hK K
              try simp only [Act.put, List.setIfInBounds_toArray, List.set_cons_zero, List.set_cons_succ]
              refine sch_one rfl rfl (fun K hK => ?_)
              go_simp
              refine hK _ _ (fun _ => (by repeat (first | with_reducible exact Within.refl _ | with_reducible assumption | with_reducible refine Within.alloc ?_ _ | with_reducible refine Within.drew ?_ | with_reducible refine Within.drewN ?_ _ | with_reducible refine Within.setCell ?_ (by first | (simp; done) | (simp; omega)) _ | with_reducible refine Within.trans ?_ (by assumption)))) ?_
              clear hK K
              try simp only [Act.put, List.setIfInBounds_toArray, List.set_cons_zero, List.set_cons_succ]
              refine sch_one rfl rfl (fun K hK => ?_)
              go_simp
              refine hK _ _ (fun h => absurd h (by decide)) ?_
              clear hK K
              try simp only [Act.put, List.setIfInBounds_toArray, List.set_cons_zero, List.set_cons_succ]
              refine sch_nil ?_
              go_wp2
              go_ret2
              exact ⟨ret2 rfl (v_int HFF5.out.symm), ((Within.refl w).alloc _).trans (hw0.trans hv13)⟩

set_option maxRecDepth 100000 in
set_option maxHeartbeats 600000 in
theorem Round0S (ng more : Bool) (g M b : Nat) (e mode K : Int) (hb : b = blen M) (hb2 : b ≤ 30000) (he : -50000 ≤ e ∧ e ≤ 50000) (hM : (dg M).length ≤ 1000) (hK : K = max (e + (b : Int) - 24) (-149)) (hM0 : M ≠ 0) (WD : Nat) (FLG : Int) (hWD : WD = (if gOver 24 (-149) 127 ng M e more mode then (if topR ng mode then 2139095039 else 2139095040) else (gK 24 (-149) M e - -149).toNat * 8388608 + gQ 24 (-149) ng M e more mode) + (if ng then 2147483648 else 0)) (hFL : FLG = if gOver 24 (-149) 127 ng M e more mode then 5 else gFl 24 (-149) M e more) (w : World) (hI : IntB w g (M : Int)) : Calls Tryd.prog 109 #[fmS, .bool ng, .pointer (some ⟨g, 0, none⟩), .int .i64 e, .bool more, .int .i64 mode] w (fun e w' => e = .returned (.tuple #[.int .u64 (WD : Int), .int .i64 FLG]) ∧ Within w w') := by
  have HWD := Lib.hid hWD; have HFL := Lib.hid hFL; clear hWD hFL
  have HB := Lib.hid hb; have HK := Lib.hid hK; have HM0 := Lib.hid hM0; clear hb hK hM0
  have he1 := he.1; have he2 := he.2; clear he
  have BL := Lib.hid (fun (w' : World) (h : IntB w' g (M : Int)) => Bbitlen g M (by rw [Int.natAbs_natCast]; exact Nat.le_trans hM (by decide)) w' h)
  have HM := Lib.hid hM; clear hM
  have hK1 : -60000 ≤ K := by have := HK.out; omega
  have hK2 : K ≤ 100000 := by have := HK.out; omega
  have hGK : gK 24 (-149) M e = K := by unfold gK; rw [← HB.out]; exact HK.out.symm
  have HGK := Lib.hid hGK; clear hGK
  obtain ⟨qq, hqq⟩ : ∃ qq, qq = gq 24 (-149) M e := ⟨_, rfl⟩
  obtain ⟨cc, hcc⟩ : ∃ cc, cc = gc 24 (-149) M e more := ⟨_, rfl⟩
  obtain ⟨QQ, hQQ⟩ : ∃ QQ, QQ = gQ 24 (-149) ng M e more mode := ⟨_, rfl⟩
  have hql : gq 24 (-149) M e < 2 ^ 24 := gq_lt 24 (-149) M e
  rw [← hqq] at hql
  have HQL := Lib.hid hql; clear hql
  have hQl : gQ 24 (-149) ng M e more mode ≤ 2 ^ 24 := gQ_le 24 (-149) ng M e more mode
  rw [← hQQ] at hQl
  have HQ2 := Lib.hid hQl; clear hQl
  have hQu : QQ = qq + (upB ng qq cc mode).toNat := by rw [hQQ, hqq, hcc]; rfl
  have HQU := Lib.hid hQu; clear hQu
  have HQQ := Lib.hid hqq; have HCC := Lib.hid hcc; have HQX := Lib.hid hQQ; clear hqq hcc hQQ
  go_enter Tryd.func109, Tryd.ntmps109
  go_wp2_with fail
  refine (BL.out _ (by repeat (first | with_reducible assumption | with_reducible exact ib_new _ _ (by simp; done) | with_reducible refine IntB.alloc ?_ _ | with_reducible refine IntB.drewN ?_ _))).mono ?_; rintro e1 w1 ⟨rfl, hb1⟩
  have hI1 : IntB w1 g (M : Int) := (hI.alloc _).of hb1
  have x0 : w1.cell? ⟨w.heap.size, 0, none⟩ = some (.int .i64 (24)) := (hb1.cells _ _ (by simp)).trans (by go_simp)
  have x1 : w1.cell? ⟨w.heap.size, 1, none⟩ = some (.int .i64 (-126)) := (hb1.cells _ _ (by simp)).trans (by go_simp)
  have x2 : w1.cell? ⟨w.heap.size, 2, none⟩ = some (.int .i64 (127)) := (hb1.cells _ _ (by simp)).trans (by go_simp)
  have x3 : w1.cell? ⟨w.heap.size, 3, none⟩ = some (.int .i64 (8)) := (hb1.cells _ _ (by simp)).trans (by go_simp)
  rw [Int.natAbs_natCast, ← HB.out]
  have gm : max (e + (b : Int) - 1 - 24 + 1) (-149) = K := by have := HK.out; omega
  go_wp2_with fail
  refine (Bset w1.heap.size g M (by rw [Int.natAbs_natCast]; exact Nat.le_trans HM.out (by decide)) _ (by repeat (first | with_reducible assumption | with_reducible exact ty_new _ _ _ _ (by simp; done) | with_reducible refine ty_drew ?_ | with_reducible refine ty_alloc ?_ _)) (by repeat (first | with_reducible assumption | with_reducible exact ib_new _ _ (by simp; done) | with_reducible refine IntB.alloc ?_ _ | with_reducible refine IntB.drewN ?_ _))).mono ?_; rintro e2 w2 ⟨rfl, hI2, hG2⟩
  have hb2 : Within w1 w2 := Within.grown (by repeat (first | with_reducible exact Within.refl _ | with_reducible assumption | with_reducible refine Within.alloc ?_ _ | with_reducible refine Within.drew ?_ | with_reducible refine Within.drewN ?_ _ | with_reducible refine Within.setCell ?_ (by first | (simp; done) | (simp; omega)) _ | with_reducible refine Within.trans ?_ (by assumption))) hG2 (by simp)
  have t2 := hI2.ty
  have hI := hI1.of hb2
  clear hG2
  have hb20 : Within (w.alloc (.cells #[.int .i64 24, .int .i64 (-126), .int .i64 127, .int .i64 8] 84)) w2 := hb1.trans hb2
  clear x0 x1 x2 x3
  have x0 : w2.cell? ⟨w.heap.size, 0, none⟩ = some (.int .i64 (24)) := (hb20.cells _ _ (by simp)).trans (by go_simp)
  have x1 : w2.cell? ⟨w.heap.size, 1, none⟩ = some (.int .i64 (-126)) := (hb20.cells _ _ (by simp)).trans (by go_simp)
  have x2 : w2.cell? ⟨w.heap.size, 2, none⟩ = some (.int .i64 (127)) := (hb20.cells _ _ (by simp)).trans (by go_simp)
  have x3 : w2.cell? ⟨w.heap.size, 3, none⟩ = some (.int .i64 (8)) := (hb20.cells _ _ (by simp)).trans (by go_simp)
  go_upto_if 42 with fail
  go_cut [16, 17] (fun sq sc wx => PtrI (w.alloc (.cells #[.int .i64 24, .int .i64 (-126), .int .i64 127, .int .i64 8] 84)) (qq : Int) sq wx ∧ sc = .int .i64 cc ∧ Within (w.alloc (.cells #[.int .i64 24, .int .i64 (-126), .int .i64 127, .int .i64 8] 84)) wx)
  case first =>
    by_cases hle : K ≤ e
    · skip
      obtain ⟨k, hk⟩ : ∃ k : Nat, e - K = (k : Int) := ⟨(e - K).toNat, by omega⟩
      have hkb : k ≤ 150000 := by omega
      have hv : (M : Int) * 2 ^ k = (qq : Int) := by have h1 := HGK.out; rw [HQQ.out]; unfold gq; rw [h1, if_pos hle, hk, Int.toNat_natCast]; simp
      have hcv : cc = if more then -1 else -2 := by have h1 := HGK.out; rw [HCC.out]; unfold gc; rw [h1, if_pos hle]
      have HCV := Lib.hid hcv; clear hcv
      have d : decide (e ≥ K) = true := decide_eq_true hle
      have HLE := Lib.hid hle; clear hle
      go_wp2_with fail
      refine (Blsh w1.heap.size w1.heap.size k M (by rw [Int.natAbs_natCast]; exact Nat.le_trans HM.out (by decide)) (by omega) w2 t2 hI2).mono ?_; rintro e3 w3 ⟨rfl, hI3, hG3⟩
      have hb3 : Within (w.alloc (.cells #[.int .i64 24, .int .i64 (-126), .int .i64 127, .int .i64 8] 84)) w3 := Within.grown hb20 hG3 (by have := hb1.sizes; exact this)
      rw [hv] at hI3
      have hs1 := hb1.sizes
      cases more
      · have hcm : (-2 : Int) = cc := by rw [HCV.out]; rfl
        clear HCV
        go_wp2_with fail
        go_meet
        exact ⟨⟨_, rfl, hI3, hs1⟩, by first | rfl | rw [hcm], hb3⟩
      · have hcm : (-1 : Int) = cc := by rw [HCV.out]; rfl
        clear HCV
        go_wp2_with fail
        go_meet
        exact ⟨⟨_, rfl, hI3, hs1⟩, by first | rfl | rw [hcm], hb3⟩
    · skip
      obtain ⟨k, hk⟩ : ∃ k : Nat, K - e = (k : Int) := ⟨(K - e).toNat, by omega⟩
      have hkb : 1 ≤ k ∧ k ≤ 60000 := by have := HK.out; omega
      have hv : M / 2 ^ k = qq := by have h1 := HGK.out; rw [HQQ.out]; unfold gq; rw [h1, if_neg hle, hk, Int.toNat_natCast]
      have hcv : cutC M k more = cc := by have h1 := HGK.out; rw [HCC.out]; unfold gc; rw [h1, if_neg hle, hk, Int.toNat_natCast]
      have CT := Lib.hid (Rcut g M k more hkb.1 hkb.2 HM.out w2 hI)
      rw [hv, hcv] at CT
      clear hv hcv
      have d : decide (e ≥ K) = false := decide_eq_false (by omega)
      have HLE := Lib.hid hle; clear hle
      go_wp2_with fail
      refine CT.out.mono ?_; rintro e3 w3 ⟨g3, rfl, hI3, hg3, hb3'⟩
      have hb3 := hb20.trans hb3'
      have hs1 := Nat.le_trans hb20.sizes hg3
      go_wp2_with fail
      go_meet
      exact ⟨⟨_, rfl, hI3, hs1⟩, rfl, hb3⟩
  case rest =>
    obtain ⟨⟨gQ', rfl, hIq, hgq⟩, rfl, hw⟩ := hcut
    have x0 : wc.cell? ⟨w.heap.size, 0, none⟩ = some (.int .i64 (24)) := (hw.cells _ _ (by simp)).trans (by go_simp)
    have x1 : wc.cell? ⟨w.heap.size, 1, none⟩ = some (.int .i64 (-126)) := (hw.cells _ _ (by simp)).trans (by go_simp)
    have x2 : wc.cell? ⟨w.heap.size, 2, none⟩ = some (.int .i64 (127)) := (hw.cells _ _ (by simp)).trans (by go_simp)
    have x3 : wc.cell? ⟨w.heap.size, 3, none⟩ = some (.int .i64 (8)) := (hw.cells _ _ (by simp)).trans (by go_simp)
    have GO := Lib.hid (Rgoes ng gQ' qq cc mode (HCC.out ▸ gc_range _ _ _ _ _) (Nat.le_trans (dg_small (k := 2) (Nat.lt_of_lt_of_le HQL.out (by decide))) (by decide)) wc hIq)
    go_wp2_with fail
    refine GO.out.mono ?_; rintro e4 w4 ⟨rfl, hb4⟩
    obtain ⟨u, hu⟩ : ∃ u, u = upB ng qq cc mode := ⟨_, rfl⟩
    rw [← hu]
    have HU := HQU.out; rw [← hu] at HU
    have HQ3 := Lib.hid HU; clear HU hu GO
    have hIq := hIq.of hb4
    have hw4 := hw.trans hb4
    clear x0 x1 x2 x3
    have x0 : w4.cell? ⟨w.heap.size, 0, none⟩ = some (.int .i64 (24)) := (hw4.cells _ _ (by simp)).trans (by go_simp)
    have x1 : w4.cell? ⟨w.heap.size, 1, none⟩ = some (.int .i64 (-126)) := (hw4.cells _ _ (by simp)).trans (by go_simp)
    have x2 : w4.cell? ⟨w.heap.size, 2, none⟩ = some (.int .i64 (127)) := (hw4.cells _ _ (by simp)).trans (by go_simp)
    have x3 : w4.cell? ⟨w.heap.size, 3, none⟩ = some (.int .i64 (8)) := (hw4.cells _ _ (by simp)).trans (by go_simp)
    go_upto_if 64 with fail
    go_cut [16] (fun sq wx => PtrI (w.alloc (.cells #[.int .i64 24, .int .i64 (-126), .int .i64 127, .int .i64 8] 84)) (QQ : Int) sq wx ∧ Within (w.alloc (.cells #[.int .i64 24, .int .i64 (-126), .int .i64 127, .int .i64 8] 84)) wx)
    case first =>
      cases u
      · have hq : (qq : Int) = (QQ : Int) := by rw [HQ3.out]; rfl
        rw [hq] at hIq; clear HQ3 hq
        go_wp2_with fail
        go_meet
        exact ⟨⟨_, rfl, hIq, hgq⟩, hw4⟩
      · have hq : (qq : Int) + 1 = (QQ : Int) := by rw [HQ3.out]; rfl
        have HQ4 := Lib.hid hq; clear HQ3 hq
        have hlq := hIq.lt
        go_wp2_with fail
        refine (BnewInt 1 (by decide) (by decide) w4).mono ?_; rintro e5 w5 ⟨g5, rfl, hI5, hg5, hb5⟩
        have hIq := hIq.of hb5
        go_wp2_with fail
        refine (BAdd gQ' gQ' g5 qq 1 (by rw [Int.natAbs_natCast]; exact Nat.le_trans (dg_small (k := 2) (Nat.lt_of_lt_of_le HQL.out (by decide))) (by decide)) (by decide +kernel) w5 hIq.ty hIq hI5).mono ?_; rintro e6 w6 ⟨rfl, hI6, hG6⟩
        rw [HQ4.out] at hI6
        have hb6 : Within (w.alloc (.cells #[.int .i64 24, .int .i64 (-126), .int .i64 127, .int .i64 8] 84)) w6 := Within.grown (hw4.trans hb5) hG6 hgq
        go_wp2_with fail
        go_meet
        exact ⟨⟨_, rfl, hI6, hgq⟩, hb6⟩
    case rest =>
      obtain ⟨⟨gR, rfl, hIr, hgr⟩, hw'⟩ := hcut
      have x0 : wc.cell? ⟨w.heap.size, 0, none⟩ = some (.int .i64 (24)) := (hw'.cells _ _ (by simp)).trans (by go_simp)
      have x1 : wc.cell? ⟨w.heap.size, 1, none⟩ = some (.int .i64 (-126)) := (hw'.cells _ _ (by simp)).trans (by go_simp)
      have x2 : wc.cell? ⟨w.heap.size, 2, none⟩ = some (.int .i64 (127)) := (hw'.cells _ _ (by simp)).trans (by go_simp)
      have x3 : wc.cell? ⟨w.heap.size, 3, none⟩ = some (.int .i64 (8)) := (hw'.cells _ _ (by simp)).trans (by go_simp)
      obtain ⟨FF, hFF⟩ : ∃ FF, FF = gFl 24 (-149) M e more := ⟨_, rfl⟩
      have hFF2 : FF = if -2 < cc then (if e + (b : Int) - 1 < -126 then 3 else 1) else 0 := by rw [hFF]; unfold gFl; rw [← HCC.out, ← HB.out]; rfl
      have HFF := Lib.hid hFF; have HF2 := Lib.hid hFF2; clear hFF hFF2
      have go2 : bits .or .i64 1 2 = 3 := by decide
      go_upto_if 70 with fail
      go_cut [18] (fun sf wx => sf = .int .i64 FF ∧ wx = wc)
      case first =>
        by_cases hc2 : -2 < cc
        · have d : decide (-2 < cc) = true := decide_eq_true hc2
          by_cases ht : e + (b : Int) - 1 < -126
          · have dt : decide (e + (b : Int) - 1 < -126) = true := decide_eq_true ht
            have hv : (3 : Int) = FF := by rw [HF2.out, if_pos hc2, if_pos ht]
            have HV := Lib.hid hv; clear hv d dt
            go_wp2_with fail
            go_meet
            exact ⟨by rw [← HV.out], rfl⟩
          · have dt : decide (e + (b : Int) - 1 < -126) = false := decide_eq_false ht
            have hv : (1 : Int) = FF := by rw [HF2.out, if_pos hc2, if_neg ht]
            have HV := Lib.hid hv; clear hv d dt
            go_wp2_with fail
            go_meet
            exact ⟨by rw [← HV.out], rfl⟩
        · have d : decide (-2 < cc) = false := decide_eq_false hc2
          have hv : (0 : Int) = FF := by rw [HF2.out, if_neg hc2]
          have hc3 : cc ≤ -2 := by omega
          have HV := Lib.hid hv; clear hv d hc2
          go_wp2_with fail
          go_meet
          exact ⟨by rw [← HV.out], rfl⟩
      case rest =>
        obtain ⟨rfl, rfl⟩ := hcut
        obtain ⟨NB, hNB⟩ : ∃ NB, NB = blen QQ := ⟨_, rfl⟩
        obtain ⟨K2, hK2'⟩ : ∃ K2, K2 = gK2 24 (-149) ng M e more mode := ⟨_, rfl⟩
        obtain ⟨Q2, hQ2'⟩ : ∃ Q2, Q2 = gQ2 24 (-149) ng M e more mode := ⟨_, rfl⟩
        obtain ⟨N2, hN2'⟩ : ∃ N2, N2 = blen Q2 := ⟨_, rfl⟩
        have hK2e : K2 = if 24 < (NB : Int) then K + 1 else K := by rw [hK2', hNB, HQX.out]; unfold gK2; rw [HGK.out]; all_goals rfl
        have hQ2e : Q2 = if 24 < (NB : Int) then QQ / 2 else QQ := by rw [hQ2', hNB, HQX.out]; unfold gQ2; all_goals rfl
        have hE := g_ends (D := 24) (lo := -149) (ng := ng) (M := M) (e := e) (more := more) (mode := mode) HM0.out (by decide)
        rw [show ((24 : Nat) : Int) = 24 from rfl, ← hQ2', ← hK2', ← HQX.out, HGK.out, ← hN2', ← hNB] at hE
        have HNB := Lib.hid hNB; have HK2 := Lib.hid hK2e; have HQ2' := Lib.hid hQ2e; have HN2 := Lib.hid hN2'; have HE := Lib.hid hE; clear hNB hK2' hQ2' hN2' hK2e hQ2e hE
        have hNBb : NB ≤ 25 := by rw [HNB.out]; exact blen_le (Nat.lt_of_le_of_lt HQ2.out (by decide))
        have hN2b : N2 ≤ 24 := HE.out.1
        have hQs : (dg QQ).length ≤ 1000000 := Nat.le_trans (dg_small (k := 2) (Nat.lt_of_le_of_lt HQ2.out (by decide))) (by decide)
        have hQs2 : (dg Q2).length ≤ 1000000 := by have h1 := HQ2'.out; refine Nat.le_trans (dg_len_mono ?_) hQs; rw [h1]; split; exact Nat.div_le_self _ _; exact Nat.le_refl _
        have HQs := Lib.hid hQs; have HQs2 := Lib.hid hQs2; clear hQs hQs2
        have hK2b : -60000 ≤ K2 ∧ K2 ≤ 100001 := by have := HK2.out; rw [this]; split <;> omega
        have hK21 := hK2b.1; have hK22 := hK2b.2; clear hK2b
        go_upto_region 16 with fail
        refine wp_region_schG (fun W => W.cell? ⟨w.heap.size, 0, none⟩ = some (.int .i64 (24)) ∧ W.cell? ⟨w.heap.size, 1, none⟩ = some (.int .i64 (-126)) ∧ W.cell? ⟨w.heap.size, 2, none⟩ = some (.int .i64 (127)) ∧ W.cell? ⟨w.heap.size, 3, none⟩ = some (.int .i64 (8)) ∧ IntB W gR (QQ : Int) ∧ Within (w.alloc (.cells #[.int .i64 24, .int .i64 (-126), .int .i64 127, .int .i64 8] 84)) W) 4 (.firm 0 (.firm 2 (.firm 3 (.one 1 (.one 4 .nil))))) (by kernel_rfl) (by kernel_rfl) ⟨x0, x1, x2, x3, hIr, hw'⟩ ?_
        rintro w0 ⟨y0, y1, y2, y3, hJ, hw0⟩
        try simp only [Act.put, List.setIfInBounds_toArray, List.set_cons_zero, List.set_cons_succ]
        have hs0 : w.heap.size < w0.heap.size := by have := hw0.sizes; simp at this; omega
        repeat
          apply sch_firm rfl rfl (by repeat (first | with_reducible exact Within.refl _ | with_reducible assumption | with_reducible refine Within.alloc ?_ _ | with_reducible refine Within.drew ?_ | with_reducible refine Within.drewN ?_ _ | with_reducible refine Within.setCell ?_ (by first | (simp; done) | (simp; omega)) _ | with_reducible refine Within.trans ?_ (by assumption)))
          · intro wq hq
            have hcq := hq.cells
            clear hq
            go_simp
            first | rfl | (trace_state; fail)
          try simp only [Act.put, List.setIfInBounds_toArray, List.set_cons_zero, List.set_cons_succ]
        refine sch_one rfl rfl (fun K hK => ?_)
        go_simp
        refine (Bbitlen gR QQ (by rw [Int.natAbs_natCast]; exact HQs.out) _ (hJ.of (Within.refl _).drew)).mono ?_; rintro e7 w7 ⟨rfl, hb7⟩
        rw [Int.natAbs_natCast, ← HNB.out]
        have hv7 : Within w0 w7 := (Within.refl w0).drew.trans hb7
        refine hK _ _ (fun _ => (by repeat (first | with_reducible exact Within.refl _ | with_reducible assumption | with_reducible refine Within.alloc ?_ _ | with_reducible refine Within.drew ?_ | with_reducible refine Within.drewN ?_ _ | with_reducible refine Within.setCell ?_ (by first | (simp; done) | (simp; omega)) _ | with_reducible refine Within.trans ?_ (by assumption)))) ?_
        clear hK K
        try simp only [Act.put, List.setIfInBounds_toArray, List.set_cons_zero, List.set_cons_succ]
        refine sch_one rfl rfl (fun K hK => ?_)
        go_simp
        refine hK _ _ (fun h => absurd h (by decide)) ?_
        clear hK K
        try simp only [Act.put, List.setIfInBounds_toArray, List.set_cons_zero, List.set_cons_succ]
        refine sch_nil ?_
        have hw7 := hw0.trans hv7
        have hJ := hJ.of hv7
        clear x0 x1 x2 x3 y0 y1 y2 y3
        have x0 : w7.cell? ⟨w.heap.size, 0, none⟩ = some (.int .i64 (24)) := (hw7.cells _ _ (by simp)).trans (by go_simp)
        have x1 : w7.cell? ⟨w.heap.size, 1, none⟩ = some (.int .i64 (-126)) := (hw7.cells _ _ (by simp)).trans (by go_simp)
        have x2 : w7.cell? ⟨w.heap.size, 2, none⟩ = some (.int .i64 (127)) := (hw7.cells _ _ (by simp)).trans (by go_simp)
        have x3 : w7.cell? ⟨w.heap.size, 3, none⟩ = some (.int .i64 (8)) := (hw7.cells _ _ (by simp)).trans (by go_simp)
        go_upto_if 81 with fail
        go_cut [15, 16] (fun sk sq wx => sk = .int .i64 K2 ∧ PtrI (w.alloc (.cells #[.int .i64 24, .int .i64 (-126), .int .i64 127, .int .i64 8] 84)) (Q2 : Int) sq wx ∧ Within (w.alloc (.cells #[.int .i64 24, .int .i64 (-126), .int .i64 127, .int .i64 8] 84)) wx)
        case first =>
          by_cases hN : 24 < (NB : Int)
          · have hv : QQ / 2 ^ 1 = Q2 := by have h1 := HQ2'.out; rw [h1, if_pos hN]
            have hk : K + 1 = K2 := by have h1 := HK2.out; rw [h1, if_pos hN]
            have HV := Lib.hid hv; have HKK := Lib.hid hk; clear hv hk
            have hN' : 24 < NB := by omega
            go_wp2_with fail
            refine (Brsh gR gR 1 QQ (Nat.le_trans HQs.out (by decide)) (by decide) w7 hJ.ty hJ).mono ?_; rintro e8 w8 ⟨rfl, hI8, hG8⟩
            rw [HV.out] at hI8
            have hb8 : Within (w.alloc (.cells #[.int .i64 24, .int .i64 (-126), .int .i64 127, .int .i64 8] 84)) w8 := Within.grown hw7 hG8 hgr
            go_wp2_with fail
            go_meet
            exact ⟨by rw [HKK.out], ⟨_, rfl, hI8, hgr⟩, hb8⟩
          · have hv : QQ = Q2 := by have h1 := HQ2'.out; rw [h1, if_neg hN]
            have hk : K = K2 := by have h1 := HK2.out; rw [h1, if_neg hN]
            rw [hv] at hJ
            have HKK := Lib.hid hk; clear hv hk
            have hN' : NB ≤ 24 := by omega
            go_wp2_with fail
            go_meet
            exact ⟨by rw [HKK.out], ⟨_, rfl, hJ, hgr⟩, hw7⟩
        case rest =>
          obtain ⟨rfl, ⟨gT, rfl, hIt, hgt⟩, hw''⟩ := hcut
          have x0 : wc.cell? ⟨w.heap.size, 0, none⟩ = some (.int .i64 (24)) := (hw''.cells _ _ (by simp)).trans (by go_simp)
          have x1 : wc.cell? ⟨w.heap.size, 1, none⟩ = some (.int .i64 (-126)) := (hw''.cells _ _ (by simp)).trans (by go_simp)
          have x2 : wc.cell? ⟨w.heap.size, 2, none⟩ = some (.int .i64 (127)) := (hw''.cells _ _ (by simp)).trans (by go_simp)
          have x3 : wc.cell? ⟨w.heap.size, 3, none⟩ = some (.int .i64 (8)) := (hw''.cells _ _ (by simp)).trans (by go_simp)
          have s1 : IntKind.i64.wrap (K2 + (N2 : Int)) = K2 + (N2 : Int) := by rw [IntKind.wrap_i64]; omega
          have s2 : IntKind.i64.wrap (K2 + (N2 : Int) - 1) = K2 + (N2 : Int) - 1 := by rw [IntKind.wrap_i64]; omega
          go_upto_region 19 with fail
          refine wp_region_schG (fun W => W.cell? ⟨w.heap.size, 0, none⟩ = some (.int .i64 (24)) ∧ W.cell? ⟨w.heap.size, 1, none⟩ = some (.int .i64 (-126)) ∧ W.cell? ⟨w.heap.size, 2, none⟩ = some (.int .i64 (127)) ∧ W.cell? ⟨w.heap.size, 3, none⟩ = some (.int .i64 (8)) ∧ IntB W gT (Q2 : Int) ∧ Within (w.alloc (.cells #[.int .i64 24, .int .i64 (-126), .int .i64 127, .int .i64 8] 84)) W) 7 (.firm 0 (.firm 1 (.firm 5 (.firm 6 (.one 2 (.one 3 (.one 4 (.one 7 .nil)))))))) (by kernel_rfl) (by kernel_rfl) ⟨x0, x1, x2, x3, hIt, hw''⟩ ?_
          rintro w0 ⟨y0, y1, y2, y3, hJ, hw0⟩
          try simp only [Act.put, List.setIfInBounds_toArray, List.set_cons_zero, List.set_cons_succ]
          have hs0 : w.heap.size < w0.heap.size := by have := hw0.sizes; simp at this; omega
          repeat
            apply sch_firm rfl rfl (by repeat (first | with_reducible exact Within.refl _ | with_reducible assumption | with_reducible refine Within.alloc ?_ _ | with_reducible refine Within.drew ?_ | with_reducible refine Within.drewN ?_ _ | with_reducible refine Within.setCell ?_ (by first | (simp; done) | (simp; omega)) _ | with_reducible refine Within.trans ?_ (by assumption)))
            · intro wq hq
              have hcq := hq.cells
              clear hq
              go_simp
              first | rfl | (trace_state; fail)
            try simp only [Act.put, List.setIfInBounds_toArray, List.set_cons_zero, List.set_cons_succ]
          refine sch_one rfl rfl (fun K hK => ?_)
          go_simp
          refine (Bbitlen gT Q2 (by rw [Int.natAbs_natCast]; exact HQs2.out) _ (hJ.of (Within.refl _).drew)).mono ?_; rintro e9 w9 ⟨rfl, hb9⟩
          rw [Int.natAbs_natCast, ← HN2.out]
          have hv9 : Within w0 w9 := (Within.refl w0).drew.trans hb9
          refine hK _ _ (fun _ => (by repeat (first | with_reducible exact Within.refl _ | with_reducible assumption | with_reducible refine Within.alloc ?_ _ | with_reducible refine Within.drew ?_ | with_reducible refine Within.drewN ?_ _ | with_reducible refine Within.setCell ?_ (by first | (simp; done) | (simp; omega)) _ | with_reducible refine Within.trans ?_ (by assumption)))) ?_
          clear hK K
          try simp only [Act.put, List.setIfInBounds_toArray, List.set_cons_zero, List.set_cons_succ]
          refine sch_one rfl rfl (fun K hK => ?_)
          go_simp
          refine hK _ _ (fun _ => (by repeat (first | with_reducible exact Within.refl _ | with_reducible assumption | with_reducible refine Within.alloc ?_ _ | with_reducible refine Within.drew ?_ | with_reducible refine Within.drewN ?_ _ | with_reducible refine Within.setCell ?_ (by first | (simp; done) | (simp; omega)) _ | with_reducible refine Within.trans ?_ (by assumption)))) ?_
          clear hK K
          try simp only [Act.put, List.setIfInBounds_toArray, List.set_cons_zero, List.set_cons_succ]
          refine sch_one rfl rfl (fun K hK => ?_)
          go_simp
          refine hK _ _ (fun _ => (by repeat (first | with_reducible exact Within.refl _ | with_reducible assumption | with_reducible refine Within.alloc ?_ _ | with_reducible refine Within.drew ?_ | with_reducible refine Within.drewN ?_ _ | with_reducible refine Within.setCell ?_ (by first | (simp; done) | (simp; omega)) _ | with_reducible refine Within.trans ?_ (by assumption)))) ?_
          clear hK K
          try simp only [Act.put, List.setIfInBounds_toArray, List.set_cons_zero, List.set_cons_succ]
          refine sch_one rfl rfl (fun K hK => ?_)
          go_simp
          refine hK _ _ (fun h => absurd h (by decide)) ?_
          clear hK K
          try simp only [Act.put, List.setIfInBounds_toArray, List.set_cons_zero, List.set_cons_succ]
          refine sch_nil ?_
          have hw9 := hw0.trans hv9
          have hJ := hJ.of hv9
          clear x0 x1 x2 x3 y0 y1 y2 y3
          have x0 : w9.cell? ⟨w.heap.size, 0, none⟩ = some (.int .i64 (24)) := (hw9.cells _ _ (by simp)).trans (by go_simp)
          have x1 : w9.cell? ⟨w.heap.size, 1, none⟩ = some (.int .i64 (-126)) := (hw9.cells _ _ (by simp)).trans (by go_simp)
          have x2 : w9.cell? ⟨w.heap.size, 2, none⟩ = some (.int .i64 (127)) := (hw9.cells _ _ (by simp)).trans (by go_simp)
          have x3 : w9.cell? ⟨w.heap.size, 3, none⟩ = some (.int .i64 (8)) := (hw9.cells _ _ (by simp)).trans (by go_simp)
          by_cases hov : 127 < K2 + (N2 : Int) - 1
          · have hO : gOver 24 (-149) 127 ng M e more mode = true := by unfold gOver; rw [HGK.out, ← HQX.out, ← HNB.out]; exact decide_eq_true (by have := HE.out.2.1; omega)
            have hV := HWD.out; rw [hO, if_pos rfl] at hV
            have hF := HFL.out; rw [hO, if_pos rfl] at hF
            have RO := fun (w' : World) => RoverS ng mode w'
            rw [← hV] at RO
            have HRO := Lib.hid RO; have HFF5 := Lib.hid hF; clear RO hV hF hO
            go_wp2_with fail
            refine (HRO.out _).mono ?_; rintro e10 w10 ⟨rfl, hb10⟩
            go_wp2
            go_ret2
            exact ⟨ret2 rfl (v_int HFF5.out.symm), ((Within.refl w).alloc _).trans (hw9.trans hb10)⟩
          · have hov' : K2 + (N2 : Int) - 1 ≤ 127 := by omega
            have hO : gOver 24 (-149) 127 ng M e more mode = false := by unfold gOver; rw [HGK.out, ← HQX.out, ← HNB.out]; exact decide_eq_false (by have := HE.out.2.1; omega)
            have hV := HWD.out; rw [hO, if_neg Bool.false_ne_true, HGK.out, ← HQX.out] at hV
            have hF := HFL.out; rw [hO, if_neg Bool.false_ne_true, ← HFF.out] at hF
            have HVV := Lib.hid hV; have HFF5 := Lib.hid hF; clear hV hF hO
            go_upto_region 21 with fail
            refine wp_region_schG (fun W => W.cell? ⟨w.heap.size, 0, none⟩ = some (.int .i64 (24)) ∧ W.cell? ⟨w.heap.size, 1, none⟩ = some (.int .i64 (-126)) ∧ W.cell? ⟨w.heap.size, 2, none⟩ = some (.int .i64 (127)) ∧ W.cell? ⟨w.heap.size, 3, none⟩ = some (.int .i64 (8)) ∧ IntB W gT (Q2 : Int) ∧ Within (w.alloc (.cells #[.int .i64 24, .int .i64 (-126), .int .i64 127, .int .i64 8] 84)) W) 4 (.firm 0 (.firm 2 (.firm 3 (.one 1 (.one 4 .nil))))) (by kernel_rfl) (by kernel_rfl) ⟨x0, x1, x2, x3, hJ, hw9⟩ ?_
            rintro w0 ⟨y0, y1, y2, y3, hJ, hw0⟩
            try simp only [Act.put, List.setIfInBounds_toArray, List.set_cons_zero, List.set_cons_succ]
            have hs0 : w.heap.size < w0.heap.size := by have := hw0.sizes; simp at this; omega
            repeat
              apply sch_firm rfl rfl (by repeat (first | with_reducible exact Within.refl _ | with_reducible assumption | with_reducible refine Within.alloc ?_ _ | with_reducible refine Within.drew ?_ | with_reducible refine Within.drewN ?_ _ | with_reducible refine Within.setCell ?_ (by first | (simp; done) | (simp; omega)) _ | with_reducible refine Within.trans ?_ (by assumption)))
              · intro wq hq
                have hcq := hq.cells
                clear hq
                go_simp
                first | rfl | (trace_state; fail)
              try simp only [Act.put, List.setIfInBounds_toArray, List.set_cons_zero, List.set_cons_succ]
            refine sch_one rfl rfl (fun K hK => ?_)
            go_simp
            refine (Bbitlen gT Q2 (by rw [Int.natAbs_natCast]; exact HQs2.out) _ (hJ.of (Within.refl _).drew)).mono ?_; rintro e11 w11 ⟨rfl, hb11⟩
            rw [Int.natAbs_natCast, ← HN2.out]
            have hv11 : Within w0 w11 := (Within.refl w0).drew.trans hb11
            refine hK _ _ (fun _ => (by repeat (first | with_reducible exact Within.refl _ | with_reducible assumption | with_reducible refine Within.alloc ?_ _ | with_reducible refine Within.drew ?_ | with_reducible refine Within.drewN ?_ _ | with_reducible refine Within.setCell ?_ (by first | (simp; done) | (simp; omega)) _ | with_reducible refine Within.trans ?_ (by assumption)))) ?_
            clear hK K
            try simp only [Act.put, List.setIfInBounds_toArray, List.set_cons_zero, List.set_cons_succ]
            refine sch_one rfl rfl (fun K hK => ?_)
            go_simp
            refine hK _ _ (fun h => absurd h (by decide)) ?_
            clear hK K
            try simp only [Act.put, List.setIfInBounds_toArray, List.set_cons_zero, List.set_cons_succ]
            refine sch_nil ?_
            have hw11 := hw0.trans hv11
            have hJ := hJ.of hv11
            clear x0 x1 x2 x3 y0 y1 y2 y3
            have x0 : w11.cell? ⟨w.heap.size, 0, none⟩ = some (.int .i64 (24)) := (hw11.cells _ _ (by simp)).trans (by go_simp)
            have x1 : w11.cell? ⟨w.heap.size, 1, none⟩ = some (.int .i64 (-126)) := (hw11.cells _ _ (by simp)).trans (by go_simp)
            have x2 : w11.cell? ⟨w.heap.size, 2, none⟩ = some (.int .i64 (127)) := (hw11.cells _ _ (by simp)).trans (by go_simp)
            have x3 : w11.cell? ⟨w.heap.size, 3, none⟩ = some (.int .i64 (8)) := (hw11.cells _ _ (by simp)).trans (by go_simp)
            by_cases hn : N2 < 24
            · have hn' : (N2 : Int) < 24 := by omega
              obtain ⟨q1, q2, q3⟩ := HE.out.2.2.1 hn
              have hql2 : Q2 < 8388608 := Nat.lt_of_lt_of_le (blen_lt Q2) (by rw [← HN2.out]; exact Nat.pow_le_pow_right (by decide) (show N2 ≤ 23 by omega))
              have RP := fun (w' : World) => RputS ng 0 Q2 (by decide) hql2 w'
              have hvv : 0 * 8388608 + Q2 + (if ng then 2147483648 else 0) = WD := by rw [HVV.out, q2, q1]; simp
              rw [hvv] at RP
              have HRP := Lib.hid RP; clear RP hvv q1 q2 q3
              have RU := Lib.hid (fun (w' : World) (h : IntB w' gT (Q2 : Int)) => Buint64 gT Q2 (by rw [Int.natAbs_natCast]; exact HQs2.out) w' h)
              have hmod : (Q2 : Int).natAbs % 18446744073709551616 = Q2 := by rw [Int.natAbs_natCast]; omega
              rw [hmod] at RU
              have HQL2 := Lib.hid hql2; clear hmod hql2
              go_upto_region 22 with fail
              refine wp_region_schG (fun W => W.cell? ⟨w.heap.size, 0, none⟩ = some (.int .i64 (24)) ∧ W.cell? ⟨w.heap.size, 1, none⟩ = some (.int .i64 (-126)) ∧ W.cell? ⟨w.heap.size, 2, none⟩ = some (.int .i64 (127)) ∧ W.cell? ⟨w.heap.size, 3, none⟩ = some (.int .i64 (8)) ∧ IntB W gT (Q2 : Int) ∧ Within (w.alloc (.cells #[.int .i64 24, .int .i64 (-126), .int .i64 127, .int .i64 8] 84)) W) 7 (.firm 0 (.firm 1 (.firm 2 (.firm 5 (.one 3 (.one 4 (.one 6 (.one 7 .nil)))))))) (by kernel_rfl) (by kernel_rfl) ⟨x0, x1, x2, x3, hJ, hw11⟩ ?_
              rintro w0 ⟨y0, y1, y2, y3, hJ, hw0⟩
              try simp only [Act.put, List.setIfInBounds_toArray, List.set_cons_zero, List.set_cons_succ]
              have hs0 : w.heap.size < w0.heap.size := by have := hw0.sizes; simp at this; omega
              repeat
                apply sch_firm rfl rfl (by repeat (first | with_reducible exact Within.refl _ | with_reducible assumption | with_reducible refine Within.alloc ?_ _ | with_reducible refine Within.drew ?_ | with_reducible refine Within.drewN ?_ _ | with_reducible refine Within.setCell ?_ (by first | (simp; done) | (simp; omega)) _ | with_reducible refine Within.trans ?_ (by assumption)))
                · intro wq hq
                  have hcq := hq.cells
                  clear hq
                  go_simp
                  first | rfl | (trace_state; fail)
                try simp only [Act.put, List.setIfInBounds_toArray, List.set_cons_zero, List.set_cons_succ]
              refine sch_one rfl rfl (fun K hK => ?_)
              go_simp
              refine (RU.out _ (hJ.of (Within.refl _).drew)).mono ?_; rintro e12 w12 ⟨rfl, rfl⟩
              refine hK _ _ (fun _ => (by repeat (first | with_reducible exact Within.refl _ | with_reducible assumption | with_reducible refine Within.alloc ?_ _ | with_reducible refine Within.drew ?_ | with_reducible refine Within.drewN ?_ _ | with_reducible refine Within.setCell ?_ (by first | (simp; done) | (simp; omega)) _ | with_reducible refine Within.trans ?_ (by assumption)))) ?_
              clear hK K
              try simp only [Act.put, List.setIfInBounds_toArray, List.set_cons_zero, List.set_cons_succ]
              refine sch_one rfl rfl (fun K hK => ?_)
              go_simp
              refine (HRP.out _).mono ?_; rintro e13 w13 ⟨rfl, hb13⟩
              have hv13 : Within w0 w13 := (Within.refl w0).drew.trans hb13
              refine hK _ _ (fun _ => (by repeat (first | with_reducible exact Within.refl _ | with_reducible assumption | with_reducible refine Within.alloc ?_ _ | with_reducible refine Within.drew ?_ | with_reducible refine Within.drewN ?_ _ | with_reducible refine Within.setCell ?_ (by first | (simp; done) | (simp; omega)) _ | with_reducible refine Within.trans ?_ (by assumption)))) ?_
              clear hK K
              try simp only [Act.put, List.setIfInBounds_toArray, List.set_cons_zero, List.set_cons_succ]
              refine sch_one rfl rfl (fun K hK => ?_)
              go_simp
              refine hK _ _ (fun _ => (by repeat (first | with_reducible exact Within.refl _ | with_reducible assumption | with_reducible refine Within.alloc ?_ _ | with_reducible refine Within.drew ?_ | with_reducible refine Within.drewN ?_ _ | with_reducible refine Within.setCell ?_ (by first | (simp; done) | (simp; omega)) _ | with_reducible refine Within.trans ?_ (by assumption)))) ?_
              clear hK K
              try simp only [Act.put, List.setIfInBounds_toArray, List.set_cons_zero, List.set_cons_succ]
              refine sch_one rfl rfl (fun K hK => ?_)
              go_simp
              refine hK _ _ (fun h => absurd h (by decide)) ?_
              clear hK K
              try simp only [Act.put, List.setIfInBounds_toArray, List.set_cons_zero, List.set_cons_succ]
              refine sch_nil ?_
              go_wp2
              go_ret2
              exact ⟨ret2 rfl (v_int HFF5.out.symm), ((Within.refl w).alloc _).trans (hw0.trans hv13)⟩
            · have hn' : 24 ≤ (N2 : Int) := by omega
              obtain ⟨q1, q2, q3⟩ := HE.out.2.2.2.1 (by omega)
              have q4 := HE.out.2.2.2.2
              rw [show (2 : Nat) ^ (24 - 1) = 8388608 from rfl] at q1 q3
              rw [show (2 : Nat) ^ 24 = 16777216 from rfl] at q2
              obtain ⟨fd, hfd⟩ : ∃ fd : Nat, K2 + 149 + 1 = (fd : Int) := ⟨(K2 + 149 + 1).toNat, by omega⟩
              have hfl : fd < 256 := by omega
              have RP := fun (w' : World) => RputS ng fd (Q2 - 8388608) hfl (by omega) w'
              have hvv : fd * 8388608 + (Q2 - 8388608) + (if ng then 2147483648 else 0) = WD := by rw [HVV.out, ← q3, show (K2 - -149).toNat = fd - 1 by omega, fld_join fd Q2 8388608 (by omega) q1]
              rw [hvv] at RP
              have HRP := Lib.hid RP; clear RP hvv q3
              have RU := Lib.hid (fun (w' : World) (h : IntB w' gT (Q2 : Int)) => Buint64 gT Q2 (by rw [Int.natAbs_natCast]; exact HQs2.out) w' h)
              have hmod : (Q2 : Int).natAbs % 18446744073709551616 = Q2 := by rw [Int.natAbs_natCast]; omega
              have e9 : Q2 % 8388608 = Q2 - 8388608 := by omega
              have ga := u64_mask 23 (by decide) Q2 (by omega)
              rw [show (2 ^ 23 - 1 : Nat) = 8388607 from rfl, show (2 ^ 23 : Nat) = 8388608 from rfl, e9, show ((8388607 : Nat) : Int) = 8388607 from rfl] at ga
              clear e9
              rw [hmod] at RU
              have HQL2 := Lib.hid (And.intro q1 q2); clear hmod q1 q2
              have k0 : IntKind.i64.wrap 23 = 23 := by decide
              have k1 : IntKind.u64.wrap 23 = 23 := by decide
              have k2 : IntKind.u64.wrap 8388608 = 8388608 := by decide
              have k3 : IntKind.u64.wrap 8388607 = 8388607 := by decide
              have k9 : (2 : Int) ^ min (Int.toNat 23) 64 = 8388608 := by decide
              go_upto_region 24 with fail
              refine wp_region_schG (fun W => W.cell? ⟨w.heap.size, 0, none⟩ = some (.int .i64 (24)) ∧ W.cell? ⟨w.heap.size, 1, none⟩ = some (.int .i64 (-126)) ∧ W.cell? ⟨w.heap.size, 2, none⟩ = some (.int .i64 (127)) ∧ W.cell? ⟨w.heap.size, 3, none⟩ = some (.int .i64 (8)) ∧ IntB W gT (Q2 : Int) ∧ Within (w.alloc (.cells #[.int .i64 24, .int .i64 (-126), .int .i64 127, .int .i64 8] 84)) W) 15 (.firm 0 (.firm 1 (.firm 2 (.firm 3 (.firm 5 (.firm 6 (.firm 7 (.firm 8 (.firm 9 (.firm 10 (.firm 13 (.one 4 (.one 11 (.one 12 (.one 14 (.one 15 .nil)))))))))))))))) (by kernel_rfl) (by kernel_rfl) ⟨x0, x1, x2, x3, hJ, hw11⟩ ?_
              rintro w0 ⟨y0, y1, y2, y3, hJ, hw0⟩
              try simp only [Act.put, List.setIfInBounds_toArray, List.set_cons_zero, List.set_cons_succ]
              have hs0 : w.heap.size < w0.heap.size := by have := hw0.sizes; simp at this; omega
              repeat
                apply sch_firm rfl rfl (by repeat (first | with_reducible exact Within.refl _ | with_reducible assumption | with_reducible refine Within.alloc ?_ _ | with_reducible refine Within.drew ?_ | with_reducible refine Within.drewN ?_ _ | with_reducible refine Within.setCell ?_ (by first | (simp; done) | (simp; omega)) _ | with_reducible refine Within.trans ?_ (by assumption)))
                · intro wq hq
                  have hcq := hq.cells
                  clear hq
                  go_simp
                  first | rfl | (trace_state; fail)
                try simp only [Act.put, List.setIfInBounds_toArray, List.set_cons_zero, List.set_cons_succ]
              refine sch_one rfl rfl (fun K hK => ?_)
              go_simp
              refine (RU.out _ (hJ.of (Within.refl _).drew)).mono ?_; rintro e12 w12 ⟨rfl, rfl⟩
              refine hK _ _ (fun _ => (by repeat (first | with_reducible exact Within.refl _ | with_reducible assumption | with_reducible refine Within.alloc ?_ _ | with_reducible refine Within.drew ?_ | with_reducible refine Within.drewN ?_ _ | with_reducible refine Within.setCell ?_ (by first | (simp; done) | (simp; omega)) _ | with_reducible refine Within.trans ?_ (by assumption)))) ?_
              clear hK K
              try simp only [Act.put, List.setIfInBounds_toArray, List.set_cons_zero, List.set_cons_succ]
              refine sch_one rfl rfl (fun K hK => ?_)
              go_simp
              refine hK _ _ (fun _ => (by repeat (first | with_reducible exact Within.refl _ | with_reducible assumption | with_reducible refine Within.alloc ?_ _ | with_reducible refine Within.drew ?_ | with_reducible refine Within.drewN ?_ _ | with_reducible refine Within.setCell ?_ (by first | (simp; done) | (simp; omega)) _ | with_reducible refine Within.trans ?_ (by assumption)))) ?_
              clear hK K
              try simp only [Act.put, List.setIfInBounds_toArray, List.set_cons_zero, List.set_cons_succ]
              refine sch_one rfl rfl (fun K hK => ?_)
              go_simp
              refine (HRP.out _).mono ?_; rintro e13 w13 ⟨rfl, hb13⟩
              have hv13 : Within w0 w13 := (Within.refl w0).drew.trans hb13
              refine hK _ _ (fun _ => (by repeat (first | with_reducible exact Within.refl _ | with_reducible assumption | with_reducible refine Within.alloc ?_ _ | with_reducible refine Within.drew ?_ | with_reducible refine Within.drewN ?_ _ | with_reducible refine Within.setCell ?_ (by first | (simp; done) | (simp; omega)) _ | with_reducible refine Within.trans ?_ (by assumption)))) ?_
              clear hK K
              try simp only [Act.put, List.setIfInBounds_toArray, List.set_cons_zero, List.set_cons_succ]
              refine sch_one rfl rfl (fun K hK => ?_)
              go_simp
              refine hK _ _ (fun _ => (by repeat (first | with_reducible exact Within.refl _ | with_reducible assumption | with_reducible refine Within.alloc ?_ _ | with_reducible refine Within.drew ?_ | with_reducible refine Within.drewN ?_ _ | with_reducible refine Within.setCell ?_ (by first | (simp; done) | (simp; omega)) _ | with_reducible refine Within.trans ?_ (by assumption)))) ?_
              clear hK K
              try simp only [Act.put, List.setIfInBounds_toArray, List.set_cons_zero, List.set_cons_succ]
              refine sch_one rfl rfl (fun K hK => ?_)
              go_simp
              refine hK _ _ (fun h => absurd h (by decide)) ?_
              clear hK K
              try simp only [Act.put, List.setIfInBounds_toArray, List.set_cons_zero, List.set_cons_succ]
              refine sch_nil ?_
              go_wp2
              go_ret2
              exact ⟨ret2 rfl (v_int HFF5.out.symm), ((Within.refl w).alloc _).trans (hw0.trans hv13)⟩

theorem RroundD (ng more : Bool) (g M : Nat) (e mode : Int) (he : -50000 ≤ e ∧ e ≤ 50000) (hM : (dg M).length ≤ 900) (hM0 : M ≠ 0) (w : World) (hI : IntB w g (M : Int)) : Calls Tryd.prog 109 #[fmD, .bool ng, .pointer (some ⟨g, 0, none⟩), .int .i64 e, .bool more, .int .i64 mode] w (fun e' w' => e' = .returned (.tuple #[.int .u64 (gWord 53 (-1074) 1023 9218868437227405311 9218868437227405312 4503599627370496 9223372036854775808 ng M e more mode : Int), .int .i64 (gFlags 53 (-1074) 1023 ng M e more mode)]) ∧ Within w w') :=
  Round0D ng more g M (blen M) e mode _ rfl (Nat.le_trans (blen_of_dg hM) (by decide)) he (Nat.le_trans hM (by decide)) rfl hM0 _ _ rfl rfl w hI
theorem RroundS (ng more : Bool) (g M : Nat) (e mode : Int) (he : -50000 ≤ e ∧ e ≤ 50000) (hM : (dg M).length ≤ 900) (hM0 : M ≠ 0) (w : World) (hI : IntB w g (M : Int)) : Calls Tryd.prog 109 #[fmS, .bool ng, .pointer (some ⟨g, 0, none⟩), .int .i64 e, .bool more, .int .i64 mode] w (fun e' w' => e' = .returned (.tuple #[.int .u64 (gWord 24 (-149) 127 2139095039 2139095040 8388608 2147483648 ng M e more mode : Int), .int .i64 (gFlags 24 (-149) 127 ng M e more mode)]) ∧ Within w w') :=
  Round0S ng more g M (blen M) e mode _ rfl (Nat.le_trans (blen_of_dg hM) (by decide)) he (Nat.le_trans hM (by decide)) rfl hM0 _ _ rfl rfl w hI
end Go.Proofs.YtifgngmebnjfkaaDoor
