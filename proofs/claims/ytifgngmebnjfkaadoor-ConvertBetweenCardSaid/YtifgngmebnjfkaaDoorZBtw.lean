/- The card of ConvertBetween: whatever the input, the call returns true and the input reads as it did; the formats hold what the program's text lays. -/
import Derived.Test.YtifgngmebnjfkaaDoorRows
import Derived.WalkKit
import Derived.WalkSpells
import Derived.WalkLawsBesides
import Derived.BigQuiet
import Derived.Lib.Hide
import Derived.Deep.OwnRows
import Derived.OwnWalk
import Derived.LoopTactic
import Derived.Outline
import Derived.IntWalk
import Derived.OrdersHeld
import Derived.StillTail
import Derived.Deep.RegionHeld3
import Derived.Maps.AppendAt
import Derived.Deep.DeepCutAuto
import Derived.Deep.QuietTactic
import Derived.Lib.TrailingZeros
import Derived.Lib.BitFns
import Derived.Lib.Strings
import Derived.Lib.Slices
import Derived.Lib.Small
import Derived.Lib.Walk
import Ieee.Arith
import Derived.Test.YtifgngmebnjfkaaDoorCards
import Derived.Test.YtifgngmebnjfkaaDoorTie
import Derived.ProofKit
import Derived.OpenShut
import Derived.ShutString
import Derived.ChangeOld
import Derived.Below
import Derived.Deep.DeepHandedRow
import Derived.Deep.Strs
import Derived.Lib.LaidTab
import Derived.Test.YtifgngmebnjfkaaDoorZBtw4
set_option linter.unusedVariables false
set_option linter.unusedSimpArgs false
section
namespace Go.Proofs.YtifgngmebnjfkaaDoor
open Go.RowKit
theorem wD_is {x : Nat} (hx : x < 4294967296) (hf : x % 2147483648 < 2139095040) : Fp.Is Ieee.double (wD x) (ngS x) (Fp.mag Ieee.single (x % 2147483648) * 2 ^ Fp.sgap) := by
  obtain ⟨h1, h2⟩ := Fp.widen_is (single_is hx hf)
  have hl := num_lt h2
  have J := Fp.Rep.is h2 (decide (2147483648 ≤ x))
  have e := num_sgn (decide (2147483648 ≤ x)) (Fp.mag Ieee.single (x % 2147483648) * 2 ^ Fp.sgap)
  have hF : Fp.num Ieee.double (decide (2147483648 ≤ x)) (Fp.mag Ieee.single (x % 2147483648) * 2 ^ Fp.sgap) % 9223372036854775808 < 9218868437227405312 := by
    rw [e]; unfold sgnD; split <;> omega
  unfold wD
  rw [wbits_num hf hF h1]
  exact J
theorem mul_pows (m n a b S c P : Nat) (h : S + S = c + P) : (m * 2 ^ a * 2 ^ S) * (n * 2 ^ b * 2 ^ S) = m * n * 2 ^ (a + b + c) * 2 ^ P := by
  have e : 2 ^ S * 2 ^ S = 2 ^ c * 2 ^ P := by rw [← Nat.pow_add, ← Nat.pow_add, h]
  have e1 : (m * 2 ^ a * 2 ^ S) * (n * 2 ^ b * 2 ^ S) = m * n * (2 ^ a * 2 ^ b) * (2 ^ S * 2 ^ S) := by ac_rfl
  rw [e1, e, Nat.pow_add, Nat.pow_add]
  ac_rfl
def prodN (x y : Nat) : Nat := mS x * mS y * 2 ^ (eS x + eS y + 1074).toNat
theorem eS_hi (x : Nat) : eS x ≤ 106 := by unfold eS tE; split <;> (try split) <;> omega
theorem kS_fin {x : Nat} (hf : x % 2147483648 < 2139095040) : kS x = 0 := (mS_mag hf).2.1
def pTop : Nat := 1300
theorem pTop_is : pTop = 1300 := rfl
theorem prod_lt (x y : Nat) : prodN x y < 2 ^ (48 + pTop) := by
  have h1 := mS_lt x
  have h2 := mS_lt y
  have e1 := eS_hi x
  have e2 := eS_hi y
  have h3 : mS x * mS y ≤ 16777215 * 16777215 := Nat.mul_le_mul (by omega) (by omega)
  unfold prodN
  have h4 : 2 ^ (eS x + eS y + 1074).toNat ≤ 2 ^ pTop := Nat.pow_le_pow_right (by decide) (by have := pTop_is; omega)
  rw [Nat.pow_add]
  refine Nat.lt_of_le_of_lt (Nat.mul_le_mul h3 h4) ?_
  exact Nat.mul_lt_mul_of_pos_right (by decide) (Nat.pow_pos (by decide))
theorem prod_fin {x y : Nat} (hx : x < 4294967296) (hy : y < 4294967296) (fx : x % 2147483648 < 2139095040) (fy : y % 2147483648 < 2139095040) : ∃ p, Ieee.double.mul (wD x) (wD y) = some p ∧ Fp.Is Ieee.double p (ngS x ^^ ngS y) (prodN x y) := by
  have hq : mS x * mS y < 2 ^ (Ieee.double.fractionBits + 1) := by
    have h1 := mS_lt x
    have h2 := mS_lt y
    have h3 : mS x * mS y ≤ 16777215 * 16777215 := Nat.mul_le_mul (by omega) (by omega)
    have h4 : (2 : Nat) ^ (Ieee.double.fractionBits + 1) = 9007199254740992 := by decide
    omega
  have hl := prod_lt x y
  have hR : Fp.Rep Ieee.double (prodN x y) := Fp.rep_of Ieee.double _ _ rfl hq (Nat.lt_of_lt_of_le hl (by rw [Fp.mag_infD]; exact Nat.pow_le_pow_right (by decide) (by have := pTop_is; unfold Fp.dtop; omega)))
  have h1 := wD_is hx fx
  have h2 := wD_is hy fy
  obtain ⟨a1, a2, a3, _⟩ := mS_mag fx
  obtain ⟨b1, b2, b3, _⟩ := mS_mag fy
  rw [a1] at h1
  rw [b1] at h2
  have ex := eS_lo x a2
  have ey := eS_lo y b2
  have key := mul_pows (mS x) (mS y) (eS x + 149).toNat (eS y + 149).toNat Fp.sgap 776 (Fp.deep Ieee.double) (by have := Fp.sgap_eq; have := Fp.dD; omega)
  rw [show (eS x + 149).toNat + (eS y + 149).toNat + 776 = (eS x + eS y + 1074).toNat by omega] at key
  exact ⟨_, Fp.mul_is Ieee.double Fp.dL0 h1 h2 key hR, Fp.Rep.is hR _⟩
theorem read_is {b n : Nat} {s : Bool} (h : Fp.Is Ieee.double b s n) : ∃ m e, Ieee.double.read b = .number s m e ∧ (m = 0 ↔ n = 0) := by
  obtain ⟨m, e, h1, _, h3⟩ := h.read
  refine ⟨m, e, h1, ⟨fun h0 => ?_, fun h0 => ?_⟩⟩
  · rw [← h3, h0, Nat.zero_mul]
  · rw [h0] at h3; exact (Nat.mul_eq_zero.1 h3).resolve_right (Nat.ne_of_gt (Nat.pow_pos (by decide)))
theorem mul_inf_l (s : Bool) {b n : Nat} {t : Bool} (h : Fp.Is Ieee.double b t n) : Ieee.double.mul (infD s) b = if n = 0 then none else some (infD (s ^^ t)) := by
  obtain ⟨m, e, h1, h2⟩ := read_is h
  unfold Ieee.Format.mul
  rw [read_infD, h1]
  show (if m = 0 then none else some (Ieee.Datum.infinity (s ^^ t))).map Ieee.double.write = _
  by_cases h0 : n = 0
  · rw [if_pos h0, if_pos (h2.2 h0)]; rfl
  · rw [if_neg h0, if_neg (fun h => h0 (h2.1 h)), ← write_infD]; rfl
theorem mul_inf_r (s : Bool) {b n : Nat} {t : Bool} (h : Fp.Is Ieee.double b t n) : Ieee.double.mul b (infD s) = if n = 0 then none else some (infD (t ^^ s)) := by
  obtain ⟨m, e, h1, h2⟩ := read_is h
  unfold Ieee.Format.mul
  rw [read_infD, h1]
  show (if m = 0 then none else some (Ieee.Datum.infinity (s ^^ t))).map Ieee.double.write = _
  by_cases h0 : n = 0
  · rw [if_pos h0, if_pos (h2.2 h0)]; rfl
  · rw [if_neg h0, if_neg (fun h => h0 (h2.1 h)), Bool.xor_comm t s, ← write_infD]; rfl
theorem mul_inf_inf (s t : Bool) : Ieee.double.mul (infD s) (infD t) = some (infD (s ^^ t)) := by cases s <;> cases t <;> decide +kernel
theorem isN_k (x : Nat) : isN x = decide (kS x = 2) := by
  unfold isN kS tK
  refine decide_eq_decide.2 ?_
  split <;> (try split) <;> omega
theorem isI_k (x : Nat) : isI x = decide (kS x = 1) := by
  unfold isI kS tK
  refine decide_eq_decide.2 ?_
  split <;> (try split) <;> omega
theorem nS_ng {x : Nat} (h : kS x ≠ 2) : nS x = ngS x := by
  unfold nS tN ngS
  unfold kS tK at h
  split
  · rename_i h1
    rw [if_pos h1.1, if_neg h1.2] at h
    exact absurd rfl h
  · rfl
theorem uS_sg {x : Nat} (fx : x % 2147483648 < 2139095040) : uS x = sgI (ngS x) (mS x) (eS x + 1074).toNat := by
  obtain ⟨a1, a2, a3, _⟩ := mS_mag fx
  have ex := eS_lo x a2
  have e : mS x * 2 ^ (eS x + 149).toNat * 2 ^ Fp.sgap = mS x * 2 ^ (eS x + 1074).toNat := by
    rw [Nat.mul_assoc, ← Nat.pow_add]; congr 2; have := Fp.sgap_eq; omega
  unfold uS sgI Fp.val
  rw [a1, e]
  split <;> simp
def addRW (ka : Int) (na : Bool) (ma : Nat) (ea kb : Int) (nb : Bool) (mb : Nat) (eb mode : Int) : Nat :=
  if ka = 2 ∨ kb = 2 then 2143289344
  else if ka = 1 ∧ kb = 1 ∧ na ≠ nb then 2143289344
  else if ka = 1 then infS na
  else if kb = 1 then infS nb
  else if sgI na ma (ea - min ea eb).toNat + sgI nb mb (eb - min ea eb).toNat = 0 then (if ma = 0 ∧ mb = 0 ∧ na = nb then sgnS na else sgnS (decide (mode = 4)))
  else gWord 24 (-149) 127 2139095039 2139095040 8388608 2147483648 (decide (sgI na ma (ea - min ea eb).toNat + sgI nb mb (eb - min ea eb).toNat < 0)) (sgI na ma (ea - min ea eb).toNat + sgI nb mb (eb - min ea eb).toNat).natAbs (min ea eb) false mode
def addRF (ka : Int) (na : Bool) (ma : Nat) (ea kb : Int) (nb : Bool) (mb : Nat) (eb mode : Int) : Int :=
  if ka = 2 ∨ kb = 2 then 0
  else if ka = 1 ∧ kb = 1 ∧ na ≠ nb then 8
  else if ka = 1 then 0
  else if kb = 1 then 0
  else if sgI na ma (ea - min ea eb).toNat + sgI nb mb (eb - min ea eb).toNat = 0 then 0
  else gFlags 24 (-149) 127 (decide (sgI na ma (ea - min ea eb).toNat + sgI nb mb (eb - min ea eb).toNat < 0)) (sgI na ma (ea - min ea eb).toNat + sgI nb mb (eb - min ea eb).toNat).natAbs (min ea eb) false mode
theorem add_units {na nb : Bool} {ma mb : Nat} {ea eb : Int} (h1 : -1074 ≤ ea) (h2 : -1074 ≤ eb) (mode : Int) :
    addRW 0 na ma ea 0 nb mb eb mode = eSumW (sgI na ma (ea + 1074).toNat + sgI nb mb (eb + 1074).toNat) (sgI na ma (ea + 1074).toNat) na nb mode ∧ addRF 0 na ma ea 0 nb mb eb mode = eSumF (sgI na ma (ea + 1074).toNat + sgI nb mb (eb + 1074).toNat) mode := by
  unfold addRW addRF eSumW eSumF
  have n0 : ¬ ((0 : Int) = 2 ∨ (0 : Int) = 2) := by decide
  have n1 : ¬ ((0 : Int) = 1 ∧ (0 : Int) = 1 ∧ na ≠ nb) := fun h => absurd h.1 (by decide)
  have n2 : ¬ ((0 : Int) = 1) := by decide
  rw [if_neg n0, if_neg n1, if_neg n2, if_neg n2, if_neg n0, if_neg n1, if_neg n2, if_neg n2]
  obtain ⟨e, he⟩ : ∃ e, min ea eb = e := ⟨_, rfl⟩
  have q1 := sgI_min (J := 1074) (E := ea) (e := e) na ma (by omega) (by omega)
  have q2 := sgI_min (J := 1074) (E := eb) (e := e) nb mb (by omega) (by omega)
  have hc : ((1074 : Nat) : Int) = 1074 := rfl
  rw [hc] at q1 q2
  have za : sgI na ma (ea + 1074).toNat = 0 ↔ ma = 0 := by
    unfold sgI
    have hp : (2 : Int) ^ (ea + 1074).toNat ≠ 0 := Int.pow_ne_zero (by decide)
    split
    · rw [Int.neg_eq_zero, Int.mul_eq_zero]; constructor
      · rintro (h | h); exact Int.natCast_eq_zero.1 h; exact absurd h hp
      · intro h; exact .inl (by rw [h]; rfl)
    · rw [Int.mul_eq_zero]; constructor
      · rintro (h | h); exact Int.natCast_eq_zero.1 h; exact absurd h hp
      · intro h; exact .inl (by rw [h]; rfl)
  have zb : sgI nb mb (eb + 1074).toNat = 0 ↔ mb = 0 := by
    unfold sgI
    have hp : (2 : Int) ^ (eb + 1074).toNat ≠ 0 := Int.pow_ne_zero (by decide)
    split
    · rw [Int.neg_eq_zero, Int.mul_eq_zero]; constructor
      · rintro (h | h); exact Int.natCast_eq_zero.1 h; exact absurd h hp
      · intro h; exact .inl (by rw [h]; rfl)
    · rw [Int.mul_eq_zero]; constructor
      · rintro (h | h); exact Int.natCast_eq_zero.1 h; exact absurd h hp
      · intro h; exact .inl (by rw [h]; rfl)
  rw [he]
  obtain ⟨v, hv⟩ : ∃ v, sgI na ma (ea - e).toNat + sgI nb mb (eb - e).toNat = v := ⟨_, rfl⟩
  have hz : sgI na ma (ea + 1074).toNat + sgI nb mb (eb + 1074).toNat = v * 2 ^ (e + 1074).toNat := by rw [q1, q2, ← Int.add_mul, hv]
  rw [hv]
  have hP : (0 : Int) < 2 ^ (e + 1074).toNat := Int.pow_pos (by decide)
  have hz0 : sgI na ma (ea + 1074).toNat + sgI nb mb (eb + 1074).toNat = 0 ↔ v = 0 := by
    rw [hz, Int.mul_eq_zero]
    exact ⟨fun h => h.resolve_right (Int.ne_of_gt hP), fun h => .inl h⟩
  by_cases h0 : v = 0
  · rw [if_pos h0, if_pos h0, if_pos (hz0.2 h0), if_pos (hz0.2 h0)]
    refine ⟨?_, rfl⟩
    have hs := hz0.2 h0
    by_cases ha : ma = 0
    · have hA := za.2 ha
      have hb : mb = 0 := zb.1 (by rw [hA, Int.zero_add] at hs; exact hs)
      rw [if_pos hA]
      by_cases hn : na = nb
      · subst hn
        rw [if_pos ⟨ha, hb, rfl⟩]
        unfold noughtW sgnS
        cases na <;> simp
      · rw [if_neg (fun h => hn h.2.2)]
        unfold noughtW sgnS
        cases na <;> cases nb <;> simp_all
    · rw [if_neg (fun h => ha h.1), if_neg (fun h => ha (za.1 h))]
      unfold noughtW sgnS
      simp
  · rw [if_neg h0, if_neg h0, if_neg (fun h => h0 (hz0.1 h)), if_neg (fun h => h0 (hz0.1 h))]
    unfold xWord xFlags
    rw [hz]
    have hneg : decide (v * 2 ^ (e + 1074).toNat < 0) = decide (v < 0) := by
      refine decide_eq_decide.2 ⟨fun h => ?_, fun h => Int.mul_neg_of_neg_of_pos h hP⟩
      by_cases hn : v < 0
      · exact hn
      · have h9 := Int.mul_nonneg (show 0 ≤ v by omega) (Int.le_of_lt hP)
        exact absurd h (Int.not_lt.2 h9)
    have habs : (v * 2 ^ (e + 1074).toNat).natAbs = v.natAbs * 2 ^ (e + 1074).toNat := by rw [Int.natAbs_mul, Int.natAbs_pow]; rfl
    rw [hneg, habs]
    have h := gWord_same (D := 24) (lo := -149) (most := 127) (top := 2139095039) (inf := 2139095040) (FR := 8388608) (SG := 2147483648) (ng := decide (v < 0)) (M := v.natAbs) (M' := v.natAbs * 2 ^ (e + 1074).toNat) (E := e) (E' := -1074) (mode := mode) 1074 (by omega) (by decide) (by decide) (by omega) (by
      rw [show ((-1074 : Int) + ((1074 : Nat) : Int)).toNat = 0 by decide, Nat.pow_zero, Nat.mul_one]; rfl)
    exact h
theorem ng_inf (s : Bool) : ngD (infD s) = s := by cases s <;> decide
theorem is_inf (s : Bool) : isID (infD s) = true := by cases s <;> decide
theorem is_fi {a : Nat} (h : Fi a) : isID a = false := decide_eq_false (by have := h.2; omega)
theorem k_fin {z : Nat} (h1 : kS z ≠ 2) (h2 : kS z ≠ 1) : z % 2147483648 < 2139095040 := fin_of (by rw [isN_k, decide_eq_false h1]) (by rw [isI_k, decide_eq_false h2])
theorem k_zero {z : Nat} (h1 : kS z ≠ 2) (h2 : kS z ≠ 1) : kS z = 0 := by rcases kS_range z with h | h | h; exact h; exact absurd h h2; exact absurd h h1
theorem sum_inf_word (s : Bool) {z : Nat} (hz : z < 4294967296) (hk : kS z ≠ 2) (mode : Int) : sumWd (infD s) (wD z) mode = addRW 1 s 0 0 (kS z) (nS z) (mS z) (eS z) mode ∧ sumFl (infD s) (wD z) mode = addRF 1 s 0 0 (kS z) (nS z) (mS z) (eS z) mode := by
  unfold sumWd sumFl addRW addRF
  have n0 : ¬ ((1 : Int) = 2 ∨ kS z = 2) := fun h => h.elim (by decide) hk
  rw [if_pos (is_inf s), if_pos (is_inf s), if_neg n0, if_neg n0, ng_inf, nS_ng hk]
  by_cases hi : kS z = 1
  · have hw := wD_inf hz (by rw [isI_k, decide_eq_true hi])
    rw [hw, is_inf, ng_inf]
    by_cases g : s = ngS z
    · rw [if_neg (show ¬ ((true && s != ngS z) = true) by rw [← g]; simp), if_neg (show ¬ ((true && s != ngS z) = true) by rw [← g]; simp), if_neg (show ¬ ((1 : Int) = 1 ∧ kS z = 1 ∧ s ≠ ngS z) from fun h => h.2.2 g), if_neg (show ¬ ((1 : Int) = 1 ∧ kS z = 1 ∧ s ≠ ngS z) from fun h => h.2.2 g), if_pos rfl, if_pos rfl]
      exact ⟨rfl, rfl⟩
    · rw [if_pos (show (true && s != ngS z) = true by simp [g]), if_pos (show (true && s != ngS z) = true by simp [g]), if_pos ⟨rfl, hi, g⟩, if_pos ⟨rfl, hi, g⟩]
      exact ⟨rfl, rfl⟩
  · obtain ⟨f1, _, _⟩ := wD_fin hz (by rw [isN_k, decide_eq_false hk]) (by rw [isI_k, decide_eq_false hi])
    rw [is_fi f1, if_neg (show ¬ ((false && s != ngD (wD z)) = true) by simp), if_neg (show ¬ ((false && s != ngD (wD z)) = true) by simp), if_neg (show ¬ ((1 : Int) = 1 ∧ kS z = 1 ∧ s ≠ ngS z) from fun h => hi h.2.1), if_neg (show ¬ ((1 : Int) = 1 ∧ kS z = 1 ∧ s ≠ ngS z) from fun h => hi h.2.1), if_pos rfl, if_pos rfl]
    exact ⟨rfl, rfl⟩
theorem repz_sg {b : Bool} {M d : Nat} (h : M ≤ 9007199254740992) : RepZ (sgI b M d) := by
  unfold sgI
  split
  · exact ⟨-(M : Int), d, by rw [Int.neg_mul], by rw [Int.natAbs_neg]; exact h⟩
  · exact ⟨(M : Int), d, rfl, h⟩
theorem sgI_abs' (b : Bool) (M d : Nat) : (sgI b M d).natAbs = M * 2 ^ d := by
  have h2 : (M : Int) * 2 ^ d = ((M * 2 ^ d : Nat) : Int) := by simp
  unfold sgI
  rw [h2]
  split <;> omega
theorem uS_small {z : Nat} (hz : z < 4294967296) (fz : z % 2147483648 < 2139095040) : (uS z).natAbs ≤ 2 ^ 1500 := by
  obtain ⟨_, _, _, _, _, a5⟩ := wide_ok hz fz
  exact a5
theorem rep_rn {z : Int} (h : z.natAbs ≤ 2 ^ flim) : Fp.Rep Ieee.double (rn z).natAbs := by
  obtain ⟨_, h2⟩ := rung_small h
  have R := Fp.rep_mag Ieee.double Fp.dF (r := Fp.grid Ieee.double z.natAbs 0) (by rw [Fp.dI]; exact h2)
  have e : (rn z).natAbs = Fp.mag Ieee.double (Fp.grid Ieee.double z.natAbs 0) := by unfold rn; split <;> omega
  rw [e]; exact R
theorem sum_fin_word {p z : Nat} {s : Bool} {m : Nat} {e : Int} (hp : Fp.Is Ieee.double p s (m * 2 ^ (e + 1074).toNat)) (hm : m ≤ 9007199254740992) (he : -1074 ≤ e) (hb : m * 2 ^ (e + 1074).toNat ≤ 2 ^ 1500) (hz : z < 4294967296) (hk : kS z ≠ 2) (mode : Int) : sumWd p (wD z) mode = addRW 0 s m e (kS z) (nS z) (mS z) (eS z) mode ∧ sumFl p (wD z) mode = addRF 0 s m e (kS z) (nS z) (mS z) (eS z) mode := by
  have hfp : Fi p := ⟨hp.1, by have := hp.2.1; rw [Fp.rg64, Fp.dI] at this; exact this⟩
  have hup : Fp.un Ieee.double p = sgI s m (e + 1074).toNat := by rw [hp.un]; unfold Fp.val sgI; split <;> simp
  have hng : ngD p = s := by
    have h := hp.2.2.1
    rw [Fp.sg64] at h
    have h1 := hp.1
    unfold ngD
    rw [← h]
    have h1' : p < 18446744073709551616 := h1
    rw [Bool.eq_iff_iff, decide_eq_true_iff, beq_iff_eq]
    omega
  by_cases hi : kS z = 1
  · unfold sumWd sumFl addRW addRF
    have n0 : ¬ ((0 : Int) = 2 ∨ kS z = 2) := fun h => h.elim (by decide) hk
    have n1 : ∀ Q, ¬ ((0 : Int) = 1 ∧ Q) := fun Q h => absurd h.1 (by decide)
    rw [is_fi hfp, if_neg Bool.false_ne_true, if_neg Bool.false_ne_true, wD_inf hz (by rw [isI_k, decide_eq_true hi]), is_inf, if_pos rfl, if_pos rfl, if_neg n0, if_neg n0, if_neg (n1 _), if_neg (n1 _), if_neg (show ¬ ((0 : Int) = 1) by decide), if_neg (show ¬ ((0 : Int) = 1) by decide), if_pos hi, if_pos hi, ng_inf, nS_ng hk]
    exact ⟨rfl, rfl⟩
  · have fz := k_fin hk hi
    obtain ⟨f1, f2, f3⟩ := wD_fin hz (by rw [isN_k, decide_eq_false hk]) (by rw [isI_k, decide_eq_false hi])
    have h0 := k_zero hk hi
    have ez := eS_lo z h0
    obtain ⟨a1, a2⟩ := add_units (na := s) (nb := nS z) (ma := m) (mb := mS z) (ea := e) (eb := eS z) he (by omega) mode
    rw [h0, a1, a2]
    unfold sumWd sumFl
    rw [is_fi hfp, is_fi f1, if_neg Bool.false_ne_true, if_neg Bool.false_ne_true, if_neg Bool.false_ne_true, if_neg Bool.false_ne_true, hup, f2, uS_sg fz, hng, f3, nS_ng hk]
    have hA : (sgI s m (e + 1074).toNat).natAbs ≤ 2 ^ 1500 := by rw [sgI_abs']; exact hb
    have hB : (sgI (ngS z) (mS z) (eS z + 1074).toNat).natAbs ≤ 2 ^ 1500 := by rw [← uS_sg fz]; exact uS_small hz fz
    exact add_is (repz_sg hm) (repz_sg (by have := mS_lt z; omega)) (rep_rn (pow_le_flim (small_add hA hB).1 (by decide))) (s) (ngS z) mode
def refFW (x y z : Nat) (mode : Int) : Nat :=
  if kS x = 2 ∨ kS y = 2 ∨ kS z = 2 then 2143289344
  else if (kS x = 1 ∧ kS y = 0 ∧ mS y = 0) ∨ (kS y = 1 ∧ kS x = 0 ∧ mS x = 0) then 2143289344
  else if kS x = 1 ∨ kS y = 1 then addRW 1 (nS x != nS y) 0 0 (kS z) (nS z) (mS z) (eS z) mode
  else addRW 0 (nS x != nS y) (mS x * mS y) (eS x + eS y) (kS z) (nS z) (mS z) (eS z) mode
def refFF (x y z : Nat) (mode : Int) : Int :=
  if kS x = 2 ∨ kS y = 2 ∨ kS z = 2 then 0
  else if (kS x = 1 ∧ kS y = 0 ∧ mS y = 0) ∨ (kS y = 1 ∧ kS x = 0 ∧ mS x = 0) then 8
  else if kS x = 1 ∨ kS y = 1 then addRF 1 (nS x != nS y) 0 0 (kS z) (nS z) (mS z) (eS z) mode
  else addRF 0 (nS x != nS y) (mS x * mS y) (eS x + eS y) (kS z) (nS z) (mS z) (eS z) mode
theorem bne_xor (a b : Bool) : (a != b) = (a ^^ b) := by cases a <;> cases b <;> rfl
theorem mag_zero {y : Nat} (fy : y % 2147483648 < 2139095040) : Fp.mag Ieee.single (y % 2147483648) * 2 ^ Fp.sgap = 0 ↔ mS y = 0 := by
  obtain ⟨b1, _⟩ := mS_mag fy
  rw [b1, Nat.mul_eq_zero, Nat.mul_eq_zero]
  have p1 : ∀ n : Nat, 2 ^ n ≠ 0 := fun n => Nat.ne_of_gt (Nat.pow_pos (by decide))
  exact ⟨fun h => (h.resolve_right (p1 _)).resolve_right (p1 _), fun h => .inl (.inl h)⟩
theorem fin_two {x : Nat} (hx : x < 4294967296) (h2 : kS x ≠ 2) (h1 : kS x ≠ 1) : kS x = 0 ∧ x % 2147483648 < 2139095040 ∧ Fp.Is Ieee.double (wD x) (nS x) (Fp.mag Ieee.single (x % 2147483648) * 2 ^ Fp.sgap) := by
  have fx := k_fin h2 h1
  exact ⟨k_zero h2 h1, fx, by rw [nS_ng h2]; exact wD_is hx fx⟩
theorem inf_two {x : Nat} (hx : x < 4294967296) (h1 : kS x = 1) : wD x = infD (nS x) := by
  rw [nS_ng (by omega)]
  exact wD_inf hx (by rw [isI_k, decide_eq_true h1])
theorem mul_cases {x y : Nat} (hx : x < 4294967296) (hy : y < 4294967296) (nx : kS x ≠ 2) (ny : kS y ≠ 2) :
    (Ieee.double.mul (wD x) (wD y) = none ∧ ((kS x = 1 ∧ kS y = 0 ∧ mS y = 0) ∨ (kS y = 1 ∧ kS x = 0 ∧ mS x = 0))) ∨
    (Ieee.double.mul (wD x) (wD y) = some (infD (nS x != nS y)) ∧ (kS x = 1 ∨ kS y = 1) ∧ ¬ ((kS x = 1 ∧ kS y = 0 ∧ mS y = 0) ∨ (kS y = 1 ∧ kS x = 0 ∧ mS x = 0))) ∨
    (∃ p, Ieee.double.mul (wD x) (wD y) = some p ∧ Fp.Is Ieee.double p (nS x != nS y) (prodN x y) ∧ kS x = 0 ∧ kS y = 0) := by
  rw [bne_xor]
  by_cases ix : kS x = 1
  · by_cases iy : kS y = 1
    · refine .inr (.inl ⟨?_, .inl ix, fun h => by omega⟩)
      rw [inf_two hx ix, inf_two hy iy, mul_inf_inf]
    · obtain ⟨ky, fy, hI⟩ := fin_two hy ny iy
      have h := mul_inf_l (nS x) hI
      rw [← inf_two hx ix] at h
      by_cases h0 : mS y = 0
      · rw [if_pos ((mag_zero fy).2 h0)] at h
        exact .inl ⟨h, .inl ⟨ix, ky, h0⟩⟩
      · rw [if_neg (fun h => h0 ((mag_zero fy).1 h))] at h
        exact .inr (.inl ⟨h, .inl ix, fun h => by rcases h with h | h; exact h0 h.2.2; omega⟩)
  · obtain ⟨kx, fx, hI⟩ := fin_two hx nx ix
    by_cases iy : kS y = 1
    · have h := mul_inf_r (nS y) hI
      rw [← inf_two hy iy] at h
      by_cases h0 : mS x = 0
      · rw [if_pos ((mag_zero fx).2 h0)] at h
        exact .inl ⟨h, .inr ⟨iy, kx, h0⟩⟩
      · rw [if_neg (fun h => h0 ((mag_zero fx).1 h))] at h
        exact .inr (.inl ⟨h, .inr iy, fun h => by rcases h with h | h; omega; exact h0 h.2.2⟩)
    · obtain ⟨ky, fy, _⟩ := fin_two hy ny iy
      obtain ⟨p, h1, h2⟩ := prod_fin hx hy fx fy
      rw [← nS_ng nx, ← nS_ng ny] at h2
      exact .inr (.inr ⟨p, h1, h2, kx, ky⟩)
theorem prod_le {x y : Nat} (fx : x % 2147483648 < 2139095040) (fy : y % 2147483648 < 2139095040) : prodN x y ≤ 2 ^ 1500 := by
  obtain ⟨K, hK⟩ : ∃ K : Nat, K = 1500 := ⟨_, rfl⟩
  rw [← hK]
  exact Nat.le_trans (Nat.le_of_lt (prod_lt x y)) (Nat.pow_le_pow_right (by decide) (by have := pTop_is; omega))
theorem k0_fin {x : Nat} (h : kS x = 0) : x % 2147483648 < 2139095040 := k_fin (by omega) (by omega)
theorem prod_small {x y : Nat} (hx : x < 4294967296) (hy : y < 4294967296) (nx : isN x = false) (ny : isN y = false) (p : Nat) (hm : Ieee.double.mul (wD x) (wD y) = some p) (hi : isID p = false) : (Fp.un Ieee.double p).natAbs ≤ 2 ^ 1500 := by
  rw [isN_k, decide_eq_false_iff_not] at nx ny
  rcases mul_cases hx hy nx ny with ⟨h, _⟩ | ⟨h, _⟩ | ⟨q, h, hq, kx, ky⟩
  · rw [h] at hm; cases hm
  · rw [h] at hm; obtain rfl := Option.some.inj hm; rw [is_inf] at hi; cases hi
  · rw [h] at hm; obtain rfl := Option.some.inj hm
    have hb := prod_le (k0_fin kx) (k0_fin ky)
    obtain ⟨K, hK⟩ : ∃ K : Nat, 2 ^ 1500 = K := ⟨_, rfl⟩
    rw [hK] at hb ⊢
    rw [hq.un]
    unfold Fp.val
    split <;> omega
theorem fus_word {x y z : Nat} (hx : x < 4294967296) (hy : y < 4294967296) (hz : z < 4294967296) (mode : Int) : fusWd x y z mode = refFW x y z mode ∧ fusFl x y z mode = refFF x y z mode := by
  unfold fusWd fusFl refFW refFF
  rw [isN_k, isN_k, isN_k]
  by_cases hN : kS x = 2 ∨ kS y = 2 ∨ kS z = 2
  · have e : (decide (kS x = 2) || decide (kS y = 2) || decide (kS z = 2)) = true := by
      rcases hN with h | h | h <;> simp [h]
    rw [if_pos e, if_pos e, if_pos hN, if_pos hN]
    exact ⟨rfl, rfl⟩
  · have nx : kS x ≠ 2 := fun h => hN (.inl h)
    have ny : kS y ≠ 2 := fun h => hN (.inr (.inl h))
    have nz : kS z ≠ 2 := fun h => hN (.inr (.inr h))
    have e : ¬ (decide (kS x = 2) || decide (kS y = 2) || decide (kS z = 2)) = true := by simp [nx, ny, nz]
    rw [if_neg e, if_neg e, if_neg hN, if_neg hN]
    rcases mul_cases hx hy nx ny with ⟨h, h1⟩ | ⟨h, h1, h2⟩ | ⟨p, h, hp, kx, ky⟩
    · rw [h, if_pos h1, if_pos h1]; exact ⟨rfl, rfl⟩
    · rw [h, if_neg h2, if_neg h2, if_pos h1, if_pos h1]
      exact sum_inf_word _ hz nz mode
    · have n1 : ¬ ((kS x = 1 ∧ kS y = 0 ∧ mS y = 0) ∨ (kS y = 1 ∧ kS x = 0 ∧ mS x = 0)) := by omega
      have n2 : ¬ (kS x = 1 ∨ kS y = 1) := by omega
      rw [h, if_neg n1, if_neg n1, if_neg n2, if_neg n2]
      have hM : mS x * mS y ≤ 9007199254740992 := by
        have h1 := mS_lt x
        have h2 := mS_lt y
        have h3 : mS x * mS y ≤ 16777215 * 16777215 := Nat.mul_le_mul (by omega) (by omega)
        omega
      have e1 := eS_lo x kx
      have e2 := eS_lo y ky
      exact sum_fin_word (e := eS x + eS y) hp hM (by omega) (prod_le (k0_fin kx) (k0_fin ky)) hz nz mode
end Go.Proofs.YtifgngmebnjfkaaDoor
end

section
namespace Go.Proofs.YtifgngmebnjfkaaDoor
def cV (k1 : Int) (b1 : Bool) (u1 : Int) (k2 : Int) (b2 : Bool) (u2 : Int) : Int := if k1 = 1 ∨ k2 = 1 then sideN k1 b1 - sideN k2 b2 else cmpI u1 u2
def sgnB (ng : Bool) : Nat := if ng then 2147483648 else 0
theorem word_as {R : Nat} (ng : Bool) (hR : R ≤ 2139095040) : R + sgnB ng < 4294967296 ∧ (R + sgnB ng) % 2147483648 = R ∧ kS (R + sgnB ng) = (if R = 2139095040 then 1 else 0) ∧ nS (R + sgnB ng) = ng ∧ ngS (R + sgnB ng) = ng ∧ kS (R + sgnB ng) ≠ 2 := by
  have h1 : (R + sgnB ng) % 2147483648 = R := by unfold sgnB; split <;> omega
  have h2 : R + sgnB ng < 4294967296 := by unfold sgnB; split <;> omega
  have h3 : decide (2147483648 ≤ R + sgnB ng) = ng := by
    unfold sgnB
    cases ng
    · rw [if_neg Bool.false_ne_true]; exact decide_eq_false (by omega)
    · rw [if_pos rfl]; exact decide_eq_true (by omega)
  have hm : (R + sgnB ng) % 8388608 = R % 8388608 := by omega
  have hd : (R + sgnB ng) / 8388608 % 256 = R / 8388608 := by omega
  have hk : kS (R + sgnB ng) = (if R = 2139095040 then 1 else 0) := by
    unfold kS tK
    rw [hm, hd]
    by_cases h : R = 2139095040
    · rw [if_pos h, h]; decide
    · rw [if_neg h, if_neg (by omega)]
  refine ⟨h2, h1, hk, ?_, h3, by rw [hk]; split <;> decide⟩
  unfold nS tN
  rw [hm, hd, h3]
  by_cases h : R / 8388608 = 255
  · rw [if_neg (fun g => g.2 (by omega))]
  · rw [if_neg (fun g => h g.1)]
theorem uS_as {R : Nat} (ng : Bool) (hR : R ≤ 2139095040) : uS (R + sgnB ng) = if ng then -((Fp.mag Ieee.single R * 2 ^ Fp.sgap : Nat) : Int) else ((Fp.mag Ieee.single R * 2 ^ Fp.sgap : Nat) : Int) := by
  obtain ⟨_, h1, _, _, h2, _⟩ := word_as ng hR
  unfold uS Fp.val
  rw [h1, h2]
theorem cmpI_le {a b : Int} (h : a ≤ b) : cmpI a b ≤ 0 := by
  unfold cmpI
  by_cases h1 : a < b
  · rw [if_pos h1]; decide
  · rw [if_neg h1, if_neg (by omega)]; decide
theorem cmpI_lt' {a b : Int} (h : a < b) : cmpI a b = -1 := by unfold cmpI; rw [if_pos h]
theorem cmpI_self (a : Int) : cmpI a a = 0 := by unfold cmpI; rw [if_neg (Int.lt_irrefl _), if_neg (Int.lt_irrefl _)]
theorem mag_up (R : Nat) : Fp.mag Ieee.single R * 2 ^ Fp.sgap < Fp.mag Ieee.single (R + 1) * 2 ^ Fp.sgap := Nat.mul_lt_mul_of_pos_right ((Fp.mag_lt_iff Ieee.single).2 (Nat.lt_succ_self R)) (Nat.two_pow_pos _)
def nextS (p : Nat) : Nat := if p % 2147483648 = 0 then 1 else if p < 2147483648 then p + 1 else p - 1
theorem pair_is {V : Int} (_h0 : V ≠ 0) (b : Bool) :
    xWord V 4 < 4294967296 ∧ xWord V 3 < 4294967296 ∧ kS (xWord V 4) ≠ 2 ∧ kS (xWord V 3) ≠ 2 ∧
    cV (kS (xWord V 4)) (nS (xWord V 4)) (uS (xWord V 4)) 0 b V ≤ 0 ∧ cV 0 b V (kS (xWord V 3)) (nS (xWord V 3)) (uS (xWord V 3)) ≤ 0 ∧
    (bX V.natAbs = false → cV (kS (xWord V 4)) (nS (xWord V 4)) (uS (xWord V 4)) (kS (xWord V 3)) (nS (xWord V 3)) (uS (xWord V 3)) = 0) ∧
    (bX V.natAbs = true → cV (kS (xWord V 4)) (nS (xWord V 4)) (uS (xWord V 4)) (kS (xWord V 3)) (nS (xWord V 3)) (uS (xWord V 3)) = -1 ∧ nextS (xWord V 4) = xWord V 3) := by
  obtain ⟨r1, r2, r3, r4⟩ := bR_val V.natAbs
  have hup := mag_up (bR V.natAbs)
  have w4 := xWord_b V 4
  have w3 := xWord_b V 3
  have sS : ∀ b : Bool, (if b = true then 2147483648 else 0) = sgnB b := fun _ => rfl
  rw [sS] at w4 w3
  have hy := bU_yes (N := V.natAbs) (decide (V < 0))
  have hn := bU_no (N := V.natAbs) (decide (V < 0))
  by_cases hV : V < 0
  · rw [decide_eq_true hV, if_pos rfl] at hy hn
    rw [decide_eq_true hV] at w4 w3
    rw [hy] at w4
    rw [hn] at w3
    have e0 : (false : Bool).toNat = 0 := rfl
    rw [e0, Nat.add_zero] at w3
    obtain ⟨q1, q2, q3, q4, q5, q6⟩ := word_as (R := bR V.natAbs) true (by omega)
    have qu := uS_as (R := bR V.natAbs) true (by omega)
    rw [← w3] at q1 q2 q3 q4 q5 q6 qu
    rw [if_neg (show ¬ bR V.natAbs = 2139095040 by omega)] at q3
    rw [if_pos rfl] at qu
    cases hX : bX V.natAbs
    · rw [hX, e0, Nat.add_zero, ← w3] at w4
      have r4' := r4 hX
      rw [w4]
      have c1 : cV (kS (xWord V 3)) (nS (xWord V 3)) (uS (xWord V 3)) (kS (xWord V 3)) (nS (xWord V 3)) (uS (xWord V 3)) = 0 := by unfold cV; rw [q3, if_neg (by decide)]; exact cmpI_self _
      refine ⟨q1, q1, q6, q6, ?_, ?_, fun _ => c1, fun h => (by cases h)⟩
      · unfold cV; rw [q3, if_neg (by decide)]; exact cmpI_le (by rw [qu]; omega)
      · unfold cV; rw [q3, if_neg (by decide)]; exact cmpI_le (by rw [qu]; omega)
    · have e1 : (true : Bool).toNat = 1 := rfl
      rw [hX, e1] at w4
      obtain ⟨p1, p2, p3, p4, p5, p6⟩ := word_as (R := bR V.natAbs + 1) true (by omega)
      have pu := uS_as (R := bR V.natAbs + 1) true (by omega)
      rw [← w4] at p1 p2 p3 p4 p5 p6 pu
      rw [if_pos rfl] at pu
      have hnext : nextS (xWord V 4) = xWord V 3 := by
        unfold nextS
        rw [p2, if_neg (by omega), w4, w3]
        unfold sgnB
        rw [if_pos rfl, if_neg (by omega)]; omega
      by_cases hi : bR V.natAbs + 1 = 2139095040
      · rw [if_pos hi] at p3
        refine ⟨p1, q1, p6, q6, ?_, ?_, fun h => (by cases h), fun _ => ⟨?_, hnext⟩⟩
        · unfold cV; rw [p3, if_pos (.inl rfl), p4]; cases b <;> decide
        · unfold cV; rw [q3, if_neg (by decide)]; exact cmpI_le (by rw [qu]; omega)
        · unfold cV; rw [p3, q3, if_pos (.inl rfl), p4, q4]; decide
      · rw [if_neg hi] at p3
        have r3' := r3 (by omega)
        refine ⟨p1, q1, p6, q6, ?_, ?_, fun h => (by cases h), fun _ => ⟨?_, hnext⟩⟩
        · unfold cV; rw [p3, if_neg (by decide)]; exact cmpI_le (by rw [pu]; omega)
        · unfold cV; rw [q3, if_neg (by decide)]; exact cmpI_le (by rw [qu]; omega)
        · unfold cV; rw [p3, q3, if_neg (by decide)]; exact cmpI_lt' (by rw [pu, qu]; omega)
  · rw [decide_eq_false hV, if_neg Bool.false_ne_true] at hy hn
    rw [decide_eq_false hV] at w4 w3
    rw [hn] at w4
    rw [hy] at w3
    have e0 : (false : Bool).toNat = 0 := rfl
    rw [e0, Nat.add_zero] at w4
    obtain ⟨q1, q2, q3, q4, q5, q6⟩ := word_as (R := bR V.natAbs) false (by omega)
    have qu := uS_as (R := bR V.natAbs) false (by omega)
    rw [← w4] at q1 q2 q3 q4 q5 q6 qu
    rw [if_neg (show ¬ bR V.natAbs = 2139095040 by omega)] at q3
    rw [if_neg Bool.false_ne_true] at qu
    cases hX : bX V.natAbs
    · rw [hX, e0, Nat.add_zero, ← w4] at w3
      have r4' := r4 hX
      rw [w3]
      have c1 : cV (kS (xWord V 4)) (nS (xWord V 4)) (uS (xWord V 4)) (kS (xWord V 4)) (nS (xWord V 4)) (uS (xWord V 4)) = 0 := by unfold cV; rw [q3, if_neg (by decide)]; exact cmpI_self _
      refine ⟨q1, q1, q6, q6, ?_, ?_, fun _ => c1, fun h => (by cases h)⟩
      · unfold cV; rw [q3, if_neg (by decide)]; exact cmpI_le (by rw [qu]; omega)
      · unfold cV; rw [q3, if_neg (by decide)]; exact cmpI_le (by rw [qu]; omega)
    · have e1 : (true : Bool).toNat = 1 := rfl
      rw [hX, e1] at w3
      obtain ⟨p1, p2, p3, p4, p5, p6⟩ := word_as (R := bR V.natAbs + 1) false (by omega)
      have pu := uS_as (R := bR V.natAbs + 1) false (by omega)
      rw [← w3] at p1 p2 p3 p4 p5 p6 pu
      rw [if_neg Bool.false_ne_true] at pu
      have hnext : nextS (xWord V 4) = xWord V 3 := by
        unfold nextS
        rw [q2, w4, w3]
        unfold sgnB
        rw [if_neg Bool.false_ne_true]
        split
        · omega
        · rw [if_pos (by omega)]
      by_cases hi : bR V.natAbs + 1 = 2139095040
      · rw [if_pos hi] at p3
        refine ⟨q1, p1, q6, p6, ?_, ?_, fun h => (by cases h), fun _ => ⟨?_, hnext⟩⟩
        · unfold cV; rw [q3, if_neg (by decide)]; exact cmpI_le (by rw [qu]; omega)
        · unfold cV; rw [p3, if_pos (.inr rfl), p4]; cases b <;> decide
        · unfold cV; rw [p3, q3, if_pos (.inr rfl), p4, q4]; decide
      · rw [if_neg hi] at p3
        have r3' := r3 (by omega)
        refine ⟨q1, p1, q6, p6, ?_, ?_, fun h => (by cases h), fun _ => ⟨?_, hnext⟩⟩
        · unfold cV; rw [q3, if_neg (by decide)]; exact cmpI_le (by rw [qu]; omega)
        · unfold cV; rw [p3, if_neg (by decide)]; exact cmpI_le (by rw [pu]; omega)
        · unfold cV; rw [p3, q3, if_neg (by decide)]; exact cmpI_lt' (by rw [pu, qu]; omega)
theorem amongst_is (V : Int) (mode : Int) : xWord V mode = xWord V 4 ∨ xWord V mode = xWord V 3 := by
  have wm := xWord_b V mode
  have w4 := xWord_b V 4
  have w3 := xWord_b V 3
  have hy := bU_yes (N := V.natAbs) (decide (V < 0))
  have hn := bU_no (N := V.natAbs) (decide (V < 0))
  cases hm : bU (decide (V < 0)) V.natAbs mode
  · rw [hm] at wm
    cases hd : decide (V < 0)
    · rw [hd] at hn wm w4; rw [if_neg Bool.false_ne_true] at hn; rw [hn] at w4; exact .inl (wm.trans w4.symm)
    · rw [hd] at hn wm w3; rw [if_pos rfl] at hn; rw [hn] at w3; exact .inr (wm.trans w3.symm)
  · have hX := bU_X hm
    rw [hm] at wm
    rw [hX] at hy
    cases hd : decide (V < 0)
    · rw [hd] at hy wm w3; rw [if_neg Bool.false_ne_true] at hy; rw [hy] at w3; exact .inr (wm.trans w3.symm)
    · rw [hd] at hy wm w4; rw [if_pos rfl] at hy; rw [hy] at w4; exact .inl (wm.trans w4.symm)
end Go.Proofs.YtifgngmebnjfkaaDoor
end

section
namespace Go.Proofs.YtifgngmebnjfkaaDoor
def IsRnd (V : Int) (wd : Int → Nat) (fl : Int → Int) : Prop := ∀ mode : Int, 0 ≤ mode ∧ mode ≤ 4 → (V ≠ 0 → wd mode = xWord V mode ∧ fl mode = xFlags V mode) ∧ (V = 0 → (wd mode = 0 ∨ wd mode = 2147483648) ∧ fl mode = 0)
def PairOk (p q : Nat) (V k : Int) : Prop := p < 4294967296 ∧ q < 4294967296 ∧ kS p ≠ 2 ∧ kS q ≠ 2 ∧ (∀ b, cV (kS p) (nS p) (uS p) 0 b V ≤ 0) ∧ (∀ b, cV 0 b V (kS q) (nS q) (uS q) ≤ 0) ∧
  ((cV (kS p) (nS p) (uS p) (kS q) (nS q) (uS q) = 0 ∧ k = 0) ∨ (cV (kS p) (nS p) (uS p) (kS q) (nS q) (uS q) = -1 ∧ k % 2 = 1 ∧ 0 ≤ k ∧ k ≤ 5 ∧ nextS p = q))
theorem zero_as {p : Nat} (h : p = 0 ∨ p = 2147483648) : p < 4294967296 ∧ kS p = 0 ∧ uS p = 0 := by
  have hm : Fp.mag Ieee.single 0 = 0 := Fp.mag_zero Ieee.single
  rcases h with rfl | rfl
  · refine ⟨by decide, by decide, ?_⟩
    have := uS_as (R := 0) false (by decide)
    rw [hm, Nat.zero_mul] at this
    exact this
  · refine ⟨by decide, by decide, ?_⟩
    have := uS_as (R := 0) true (by decide)
    rw [hm, Nat.zero_mul] at this
    exact this
theorem pair_rnd {V : Int} {wd : Int → Nat} {fl : Int → Int} (h : IsRnd V wd fl) : PairOk (wd 4) (wd 3) V (fl 3) := by
  by_cases h0 : V = 0
  · obtain ⟨a4, _⟩ := (h 4 (by decide)).2 h0
    obtain ⟨a3, f3⟩ := (h 3 (by decide)).2 h0
    obtain ⟨p1, p2, p3⟩ := zero_as a4
    obtain ⟨q1, q2, q3⟩ := zero_as a3
    subst h0
    refine ⟨p1, q1, by rw [p2]; decide, by rw [q2]; decide, fun b => ?_, fun b => ?_, .inl ⟨?_, f3⟩⟩
    · unfold cV; rw [p2, if_neg (by decide), p3]; exact Int.le_of_eq (cmpI_self 0)
    · unfold cV; rw [q2, if_neg (by decide), q3]; exact Int.le_of_eq (cmpI_self 0)
    · unfold cV; rw [p2, q2, if_neg (by decide), p3, q3]; exact cmpI_self 0
  · obtain ⟨w4, _⟩ := (h 4 (by decide)).1 h0
    obtain ⟨w3, f3⟩ := (h 3 (by decide)).1 h0
    rw [w4, w3, f3]
    obtain ⟨p1, q1, p2, q2, _, _, x0, x1⟩ := pair_is h0 true
    have hb : ∀ b, cV (kS (xWord V 4)) (nS (xWord V 4)) (uS (xWord V 4)) 0 b V ≤ 0 ∧ cV 0 b V (kS (xWord V 3)) (nS (xWord V 3)) (uS (xWord V 3)) ≤ 0 := fun b => by
      obtain ⟨_, _, _, _, c1, c2, _⟩ := pair_is h0 b
      exact ⟨c1, c2⟩
    obtain ⟨f0, f1⟩ := flags_b V 3
    refine ⟨p1, q1, p2, q2, fun b => (hb b).1, fun b => (hb b).2, ?_⟩
    cases hX : bX V.natAbs
    · exact .inl ⟨x0 hX, f0 hX⟩
    · obtain ⟨g1, g2, g3⟩ := f1 hX
      obtain ⟨c, n⟩ := x1 hX
      exact .inr ⟨c, g1, g2, g3, n⟩
theorem amongst_rnd {V : Int} {wd : Int → Nat} {fl : Int → Int} (h : IsRnd V wd fl) {mode : Int} (hm : 0 ≤ mode ∧ mode ≤ 4) :
    (wd mode = wd 4 ∨ wd mode = wd 3) ∨ ((wd mode = 0 ∨ wd mode = 2147483648) ∧ (wd 4 = 0 ∨ wd 4 = 2147483648)) := by
  by_cases h0 : V = 0
  · exact .inr ⟨((h mode hm).2 h0).1, ((h 4 (by decide)).2 h0).1⟩
  · rw [((h mode hm).1 h0).1, ((h 4 (by decide)).1 h0).1, ((h 3 (by decide)).1 h0).1]
    exact .inl (amongst_is V mode)
end Go.Proofs.YtifgngmebnjfkaaDoor
end

section
namespace Go.Proofs.YtifgngmebnjfkaaDoor
theorem rnd_narrow {x : Nat} (hx : x < 18446744073709551616) (fx : x % 9223372036854775808 < 9218868437227405312) : IsRnd (Fp.un Ieee.double x) (nWord x) (nFlags x) := by
  intro mode hm
  obtain ⟨n1, n2⟩ := narrow_word (x := x) hm
  obtain ⟨g1, g2, g3, g4⟩ := mD_mag (x := x) fx
  have hE := eD_lo x g2
  have hng : Fp.sg Ieee.double x = ngD x := by
    rw [Fp.sg64]
    unfold ngD
    by_cases h : 9223372036854775808 ≤ x
    · rw [decide_eq_true h, beq_iff_eq]; omega
    · rw [decide_eq_false h, beq_eq_false_iff_ne]; omega
  have hu : Fp.un Ieee.double x = if ngD x then -((mD x * 2 ^ (eD x + 1074).toNat : Nat) : Int) else ((mD x * 2 ^ (eD x + 1074).toNat : Nat) : Int) := by
    unfold Fp.un
    rw [hng, Fp.rg64, ← g1]; rfl
  constructor
  · intro h0
    have hM : mD x ≠ 0 := by
      intro h; rw [h, Nat.zero_mul] at hu; apply h0; rw [hu]; split <;> rfl
    rw [← n1, ← n2, g2, sWS_main _ hM, sFS_main _ hM]
    have ha : (Fp.un Ieee.double x).natAbs = mD x * 2 ^ (eD x + 1074).toNat := by rw [hu]; split <;> omega
    have hs : nD x = decide (Fp.un Ieee.double x < 0) := by
      rw [g3]
      have hp : 0 < mD x * 2 ^ (eD x + 1074).toNat := Nat.mul_pos (Nat.pos_of_ne_zero hM) (Nat.two_pow_pos _)
      rw [hu]
      cases hb : ngD x
      · rw [if_neg Bool.false_ne_true]; exact (decide_eq_false (by omega)).symm
      · rw [if_pos rfl]; exact (decide_eq_true (by omega)).symm
    rw [hs]
    unfold xWord xFlags
    exact gWord_same 1200 (by omega) (by omega) (by omega) hM (by
      rw [ha, show (eD x + ((1200 : Nat) : Int)).toNat = (eD x + 1074).toNat + 126 by omega, show ((-1074 : Int) + ((1200 : Nat) : Int)).toNat = 126 by omega, Nat.pow_add, ← Nat.mul_assoc])
  · intro h0
    have hM : mD x = 0 := by
      have : mD x * 2 ^ (eD x + 1074).toNat = 0 := by rw [hu] at h0; split at h0 <;> omega
      rcases Nat.mul_eq_zero.1 this with h | h
      · exact h
      · exact absurd h (Nat.ne_of_gt (Nat.two_pow_pos _))
    rw [← n1, ← n2, g2, hM, sWS_zero, sFS_zero]
    refine ⟨?_, rfl⟩
    split
    · exact .inr rfl
    · exact .inl rfl
end Go.Proofs.YtifgngmebnjfkaaDoor
end

section
namespace Go.Proofs.YtifgngmebnjfkaaDoor
open Go.RowKit
set_option maxRecDepth 100000 in
set_option maxHeartbeats 600000 in
theorem Rtimes (k1 k2 E1 E2 : Int) (b1 b2 : Bool) (g1 g2 M1 M2 : Nat) (h1 : -5000 ≤ E1 ∧ E1 ≤ 5000) (h2 : -5000 ≤ E2 ∧ E2 ≤ 5000) (l1 : (dg M1).length ≤ 400) (l2 : (dg M2).length ≤ 400) (w : World) (hI1 : IntB w g1 (M1 : Int)) (hI2 : IntB w g2 (M2 : Int)) : Calls Tryd.prog 49 #[.agg #[.int .i64 k1, .bool b1, .pointer (some ⟨g1, 0, none⟩), .int .i64 E1], .agg #[.int .i64 k2, .bool b2, .pointer (some ⟨g2, 0, none⟩), .int .i64 E2]] w (fun en w' => ∃ g, en = .returned (.agg #[.int .i64 0, .bool (b1 != b2), .pointer (some ⟨g, 0, none⟩), .int .i64 (E1 + E2)]) ∧ IntB w' g ((M1 * M2 : Nat) : Int) ∧ w.heap.size ≤ g ∧ Within w w') := by
  have MU := Lib.hid (fun (z : Nat) (w' : World) (hz : IntTy w' z) (hx : IntB w' g1 (M1 : Int)) (hy : IntB w' g2 (M2 : Int)) => Bmul z g1 g2 (M1 : Int) (M2 : Int) (Nat.le_trans l1 (by decide)) (Nat.le_trans l2 (by decide)) w' hz hx hy)
  obtain ⟨PM, hPM⟩ : ∃ P : Nat, P = M1 * M2 := ⟨_, rfl⟩
  have hPM2 : (M1 : Int) * (M2 : Int) = (PM : Int) := by rw [hPM, Int.natCast_mul]
  rw [hPM2] at MU
  rw [← hPM]
  have hwE : IntKind.i64.wrap (E1 + E2) = E1 + E2 := IntWalk.i64_in _ ⟨by omega, by omega⟩
  clear hPM hPM2 h1 h2 l1 l2
  go_enter Tryd.func49, Tryd.ntmps49
  go_upto_region 1 with fail
  refine wp_region_schG (fun W => W.cell? ⟨w.heap.size, 0, none⟩ = some (.int .i64 k1) ∧ W.cell? ⟨w.heap.size, 1, none⟩ = some (.bool b1) ∧ W.cell? ⟨w.heap.size, 2, none⟩ = some (.pointer (some ⟨g1, 0, none⟩)) ∧ W.cell? ⟨w.heap.size, 3, none⟩ = some (.int .i64 E1) ∧ W.cell? ⟨w.heap.size + 1, 0, none⟩ = some (.int .i64 k2) ∧ W.cell? ⟨w.heap.size + 1, 1, none⟩ = some (.bool b2) ∧ W.cell? ⟨w.heap.size + 1, 2, none⟩ = some (.pointer (some ⟨g2, 0, none⟩)) ∧ W.cell? ⟨w.heap.size + 1, 3, none⟩ = some (.int .i64 E2) ∧ IntB W g1 (M1 : Int) ∧ IntB W g2 (M2 : Int) ∧ Within (((w.alloc (.cells #[.int .i64 k1, .bool b1, .pointer (some ⟨g1, 0, none⟩), .int .i64 E1] 26)).alloc (.cells #[.int .i64 k2, .bool b2, .pointer (some ⟨g2, 0, none⟩), .int .i64 E2] 26)).alloc (.cells #[.int .i64 0, .bool false, .pointer none, .int .i64 0] 26)) W ∧ W.cell? ⟨w.heap.size + 1 + 1, 0, none⟩ = some (.int .i64 0) ∧ W.cell? ⟨w.heap.size + 1 + 1, 1, none⟩ = some (.bool false) ∧ W.cell? ⟨w.heap.size + 1 + 1, 2, none⟩ = some (.pointer none) ∧ W.cell? ⟨w.heap.size + 1 + 1, 3, none⟩ = some (.int .i64 0) ∧ (∀ o, W.frozen? ⟨w.heap.size + 1 + 1, o, none⟩ = false) ∧ NumTy W (w.heap.size + 1 + 1) ∧ w.heap.size < W.heap.size ∧ w.heap.size + 1 < W.heap.size ∧ w.heap.size + 1 + 1 < W.heap.size) 17 (.firm 0 (.firm 1 (.firm 2 (.firm 3 (.firm 4 (.firm 6 (.firm 7 (.firm 8 (.firm 9 (.firm 11 (.firm 12 (.firm 13 (.firm 14 (.firm 15 (.one 5 (.one 10 (.firm 16 (.one 17 .nil)))))))))))))))))) (by kernel_rfl) (by kernel_rfl) ⟨by go_simp, by go_simp, by go_simp, by go_simp, by go_simp, by go_simp, by go_simp, by go_simp, (by repeat (first | with_reducible assumption | with_reducible exact ib_new _ _ (by simp; done) | with_reducible refine IntB.alloc ?_ _ | with_reducible refine IntB.drew ?_ | with_reducible refine IntB.drewN ?_ _)), (by repeat (first | with_reducible assumption | with_reducible exact ib_new _ _ (by simp; done) | with_reducible refine IntB.alloc ?_ _ | with_reducible refine IntB.drew ?_ | with_reducible refine IntB.drewN ?_ _)), Within.refl _, by go_simp, by go_simp, by go_simp, by go_simp, by intro o; go_simp, ⟨_, hp_new _ _ _ (by simp)⟩, by first | (simp; done) | (simp; omega), by first | (simp; done) | (simp; omega), by first | (simp; done) | (simp; omega)⟩ ?_
  rintro w0 ⟨c0, c1, c2, c3, c4, c5, c6, c7, hJ1, hJ2, hw0, r0, r1, r2, r3, rf, tr, hs0, hs1, hs2⟩
  try simp only [Act.put, List.setIfInBounds_toArray, List.set_cons_zero, List.set_cons_succ]
  apply sch_firm rfl rfl (by repeat (first | with_reducible exact Within.refl _ | with_reducible assumption | with_reducible refine Within.alloc ?_ _ | with_reducible refine Within.drew ?_ | with_reducible refine Within.drewN ?_ _ | with_reducible refine Within.setCell ?_ (by first | (simp; done) | (simp; omega)) _ | with_reducible refine Within.trans ?_ (by assumption)))
  · intro wq hq
    have hcq := hq.cells
    clear hq
    go_simp
    first | rfl | (trace_state; fail)
  try simp only [Act.put, List.setIfInBounds_toArray, List.set_cons_zero, List.set_cons_succ]
  apply sch_firm rfl rfl (by repeat (first | with_reducible exact Within.refl _ | with_reducible assumption | with_reducible refine Within.alloc ?_ _ | with_reducible refine Within.drew ?_ | with_reducible refine Within.drewN ?_ _ | with_reducible refine Within.setCell ?_ (by first | (simp; done) | (simp; omega)) _ | with_reducible refine Within.trans ?_ (by assumption)))
  · intro wq hq
    have hcq := hq.cells
    clear hq
    go_simp
    first | rfl | (trace_state; fail)
  try simp only [Act.put, List.setIfInBounds_toArray, List.set_cons_zero, List.set_cons_succ]
  apply sch_firm rfl rfl (by repeat (first | with_reducible exact Within.refl _ | with_reducible assumption | with_reducible refine Within.alloc ?_ _ | with_reducible refine Within.drew ?_ | with_reducible refine Within.drewN ?_ _ | with_reducible refine Within.setCell ?_ (by first | (simp; done) | (simp; omega)) _ | with_reducible refine Within.trans ?_ (by assumption)))
  · intro wq hq
    have hcq := hq.cells
    clear hq
    go_simp
    first | rfl | (trace_state; fail)
  try simp only [Act.put, List.setIfInBounds_toArray, List.set_cons_zero, List.set_cons_succ]
  apply sch_firm rfl rfl (by repeat (first | with_reducible exact Within.refl _ | with_reducible assumption | with_reducible refine Within.alloc ?_ _ | with_reducible refine Within.drew ?_ | with_reducible refine Within.drewN ?_ _ | with_reducible refine Within.setCell ?_ (by first | (simp; done) | (simp; omega)) _ | with_reducible refine Within.trans ?_ (by assumption)))
  · intro wq hq
    have hcq := hq.cells
    clear hq
    go_simp
    first | rfl | (trace_state; fail)
  try simp only [Act.put, List.setIfInBounds_toArray, List.set_cons_zero, List.set_cons_succ]
  apply sch_firm rfl rfl (by repeat (first | with_reducible exact Within.refl _ | with_reducible assumption | with_reducible refine Within.alloc ?_ _ | with_reducible refine Within.drew ?_ | with_reducible refine Within.drewN ?_ _ | with_reducible refine Within.setCell ?_ (by first | (simp; done) | (simp; omega)) _ | with_reducible refine Within.trans ?_ (by assumption)))
  · intro wq hq
    have hcq := hq.cells
    clear hq
    go_simp
    first | rfl | (trace_state; fail)
  try simp only [Act.put, List.setIfInBounds_toArray, List.set_cons_zero, List.set_cons_succ]
  apply sch_firm rfl rfl (by repeat (first | with_reducible exact Within.refl _ | with_reducible assumption | with_reducible refine Within.alloc ?_ _ | with_reducible refine Within.drew ?_ | with_reducible refine Within.drewN ?_ _ | with_reducible refine Within.setCell ?_ (by first | (simp; done) | (simp; omega)) _ | with_reducible refine Within.trans ?_ (by assumption)))
  · intro wq hq
    have hcq := hq.cells
    clear hq
    go_simp
    first | rfl | (trace_state; fail)
  try simp only [Act.put, List.setIfInBounds_toArray, List.set_cons_zero, List.set_cons_succ]
  apply sch_firm rfl rfl (by repeat (first | with_reducible exact Within.refl _ | with_reducible assumption | with_reducible refine Within.alloc ?_ _ | with_reducible refine Within.drew ?_ | with_reducible refine Within.drewN ?_ _ | with_reducible refine Within.setCell ?_ (by first | (simp; done) | (simp; omega)) _ | with_reducible refine Within.trans ?_ (by assumption)))
  · intro wq hq
    have hcq := hq.cells
    clear hq
    go_simp
    first | rfl | (trace_state; fail)
  try simp only [Act.put, List.setIfInBounds_toArray, List.set_cons_zero, List.set_cons_succ]
  apply sch_firm rfl rfl (by repeat (first | with_reducible exact Within.refl _ | with_reducible assumption | with_reducible refine Within.alloc ?_ _ | with_reducible refine Within.drew ?_ | with_reducible refine Within.drewN ?_ _ | with_reducible refine Within.setCell ?_ (by first | (simp; done) | (simp; omega)) _ | with_reducible refine Within.trans ?_ (by assumption)))
  · intro wq hq
    have hcq := hq.cells
    clear hq
    go_simp
    first | rfl | (trace_state; fail)
  try simp only [Act.put, List.setIfInBounds_toArray, List.set_cons_zero, List.set_cons_succ]
  apply sch_firm rfl rfl (by repeat (first | with_reducible exact Within.refl _ | with_reducible assumption | with_reducible refine Within.alloc ?_ _ | with_reducible refine Within.drew ?_ | with_reducible refine Within.drewN ?_ _ | with_reducible refine Within.setCell ?_ (by first | (simp; done) | (simp; omega)) _ | with_reducible refine Within.trans ?_ (by assumption)))
  · intro wq hq
    have hcq := hq.cells
    clear hq
    go_simp
    first | rfl | (trace_state; fail)
  try simp only [Act.put, List.setIfInBounds_toArray, List.set_cons_zero, List.set_cons_succ]
  apply sch_firm rfl rfl (by repeat (first | with_reducible exact Within.refl _ | with_reducible assumption | with_reducible refine Within.alloc ?_ _ | with_reducible refine Within.drew ?_ | with_reducible refine Within.drewN ?_ _ | with_reducible refine Within.setCell ?_ (by first | (simp; done) | (simp; omega)) _ | with_reducible refine Within.trans ?_ (by assumption)))
  · intro wq hq
    have hcq := hq.cells
    clear hq
    go_simp
    first | rfl | (trace_state; fail)
  try simp only [Act.put, List.setIfInBounds_toArray, List.set_cons_zero, List.set_cons_succ]
  apply sch_firm rfl rfl (by repeat (first | with_reducible exact Within.refl _ | with_reducible assumption | with_reducible refine Within.alloc ?_ _ | with_reducible refine Within.drew ?_ | with_reducible refine Within.drewN ?_ _ | with_reducible refine Within.setCell ?_ (by first | (simp; done) | (simp; omega)) _ | with_reducible refine Within.trans ?_ (by assumption)))
  · intro wq hq
    have hcq := hq.cells
    clear hq
    go_simp
    first | rfl | (trace_state; fail)
  try simp only [Act.put, List.setIfInBounds_toArray, List.set_cons_zero, List.set_cons_succ]
  apply sch_firm rfl rfl (by repeat (first | with_reducible exact Within.refl _ | with_reducible assumption | with_reducible refine Within.alloc ?_ _ | with_reducible refine Within.drew ?_ | with_reducible refine Within.drewN ?_ _ | with_reducible refine Within.setCell ?_ (by first | (simp; done) | (simp; omega)) _ | with_reducible refine Within.trans ?_ (by assumption)))
  · intro wq hq
    have hcq := hq.cells
    clear hq
    go_simp
    first | rfl | (trace_state; fail)
  try simp only [Act.put, List.setIfInBounds_toArray, List.set_cons_zero, List.set_cons_succ]
  apply sch_firm rfl rfl (by repeat (first | with_reducible exact Within.refl _ | with_reducible assumption | with_reducible refine Within.alloc ?_ _ | with_reducible refine Within.drew ?_ | with_reducible refine Within.drewN ?_ _ | with_reducible refine Within.setCell ?_ (by first | (simp; done) | (simp; omega)) _ | with_reducible refine Within.trans ?_ (by assumption)))
  · intro wq hq
    have hcq := hq.cells
    clear hq
    go_simp
    first | rfl | (trace_state; fail)
  try simp only [Act.put, List.setIfInBounds_toArray, List.set_cons_zero, List.set_cons_succ]
  apply sch_firm rfl rfl (by repeat (first | with_reducible exact Within.refl _ | with_reducible assumption | with_reducible refine Within.alloc ?_ _ | with_reducible refine Within.drew ?_ | with_reducible refine Within.drewN ?_ _ | with_reducible refine Within.setCell ?_ (by first | (simp; done) | (simp; omega)) _ | with_reducible refine Within.trans ?_ (by assumption)))
  · intro wq hq
    have hcq := hq.cells
    clear hq
    go_simp
    first | rfl | (trace_state; fail)
  try simp only [Act.put, List.setIfInBounds_toArray, List.set_cons_zero, List.set_cons_succ]
  refine sch_one rfl rfl (fun K hK => ?_)
  go_simp
  refine hK _ _ (fun _ => (by repeat (first | with_reducible exact Within.refl _ | with_reducible assumption | with_reducible refine Within.alloc ?_ _ | with_reducible refine Within.drew ?_ | with_reducible refine Within.drewN ?_ _ | with_reducible refine Within.setCell ?_ (by first | (simp; done) | (simp; omega)) _ | with_reducible refine Within.trans ?_ (by assumption)))) ?_
  clear hK K
  try simp only [Act.put, List.setIfInBounds_toArray, List.set_cons_zero, List.set_cons_succ]
  refine sch_one rfl rfl (fun K hK => ?_)
  go_simp
  refine (MU.out _ _ (by repeat (first | with_reducible assumption | with_reducible exact ty_new _ _ _ _ (by simp; done) | with_reducible refine ty_drew ?_ | with_reducible refine ty_alloc ?_ _)) (by repeat (first | with_reducible assumption | with_reducible exact ib_new _ _ (by simp; done) | with_reducible refine IntB.alloc ?_ _ | with_reducible refine IntB.drew ?_ | with_reducible refine IntB.drewN ?_ _)) (by repeat (first | with_reducible assumption | with_reducible exact ib_new _ _ (by simp; done) | with_reducible refine IntB.alloc ?_ _ | with_reducible refine IntB.drew ?_ | with_reducible refine IntB.drewN ?_ _))).mono ?_; rintro e4 w4 ⟨rfl, hA, hG⟩
  have hv4 : Within w0 w4 := Within.grown (by repeat (first | with_reducible exact Within.refl _ | with_reducible assumption | with_reducible refine Within.alloc ?_ _ | with_reducible refine Within.drew ?_ | with_reducible refine Within.drewN ?_ _ | with_reducible refine Within.setCell ?_ (by first | (simp; done) | (simp; omega)) _ | with_reducible refine Within.trans ?_ (by assumption))) hG (by first | (simp; done) | (simp; omega))
  clear hG
  refine hK _ _ (fun _ => (by repeat (first | with_reducible exact Within.refl _ | with_reducible assumption | with_reducible refine Within.alloc ?_ _ | with_reducible refine Within.drew ?_ | with_reducible refine Within.drewN ?_ _ | with_reducible refine Within.setCell ?_ (by first | (simp; done) | (simp; omega)) _ | with_reducible refine Within.trans ?_ (by assumption)))) ?_
  clear hK K
  try simp only [Act.put, List.setIfInBounds_toArray, List.set_cons_zero, List.set_cons_succ]
  apply sch_firm rfl rfl (by repeat (first | with_reducible exact Within.refl _ | with_reducible assumption | with_reducible refine Within.alloc ?_ _ | with_reducible refine Within.drew ?_ | with_reducible refine Within.drewN ?_ _ | with_reducible refine Within.setCell ?_ (by first | (simp; done) | (simp; omega)) _ | with_reducible refine Within.trans ?_ (by assumption)))
  · intro wq hq
    have hcq := hq.cells
    clear hq
    go_simp
    first | rfl | (trace_state; fail)
  try simp only [Act.put, List.setIfInBounds_toArray, List.set_cons_zero, List.set_cons_succ]
  refine sch_one rfl rfl (fun K hK => ?_)
  have q0 := (hv4.cells _ _ hs2).trans r0
  have q1 := (hv4.cells _ _ hs2).trans r1
  have q2 := (hv4.cells _ _ hs2).trans r2
  have q3 := (hv4.cells _ _ hs2).trans r3
  have qf := fun o => (hv4.frozens _ o hs2).trans (rf o)
  have qs := Nat.lt_of_lt_of_le hs2 hv4.sizes
  go_simp
  refine hK _ _ (fun h => absurd h (by decide)) ?_
  clear hK K
  try simp only [Act.put, List.setIfInBounds_toArray, List.set_cons_zero, List.set_cons_succ]
  refine sch_nil ?_
  have hz : w.heap.size + 1 + 1 < w0.heap.size := hs2
  have hw4 : Within w w4 := Within.trans ((((Within.refl w).alloc _).alloc _).alloc _) (hw0.trans hv4)
  obtain ⟨ct, htr⟩ := tr
  have tr4 : NumTy w4 (w.heap.size + 1 + 1) := ⟨ct, (hv4.block _ hs2).trans htr⟩
  go_wp2
  refine bodyPost_ret (v := .agg #[.int .i64 0, .bool (!(b1 == b2)), .pointer (some ⟨w0.heap.size, 0, none⟩), .int .i64 (E1 + E2)]) (by simp [results, Tryd.results49, go_sem, q0, q1, q2, q3, qs]) rfl ⟨w0.heap.size, rfl, ?_, by omega, ?_⟩
  · exact (by repeat (first | with_reducible assumption | with_reducible refine NumTy.set ?_ _ _ | with_reducible refine IntB.setNum ?_ (by show w0.heap.size ≠ w.heap.size + 1 + 1; omega) ?_ _))
  · exact (by repeat (first | with_reducible exact Within.refl _ | with_reducible assumption | with_reducible refine Within.alloc ?_ _ | with_reducible refine Within.drew ?_ | with_reducible refine Within.drewN ?_ _ | with_reducible refine Within.setCell ?_ (by first | (simp; done) | (simp; omega)) _ | with_reducible refine Within.trans ?_ (by assumption)))
end Go.Proofs.YtifgngmebnjfkaaDoor
end

section
namespace Go.Proofs.YtifgngmebnjfkaaDoor
open Go.RowKit
theorem ord32 {x y : Nat} (hx : isN x = false) (hy : isN y = false) : FloatKind.f32.format.order x y = some (compare (Fp.key32 x) (Fp.key32 y)) := Fp.order32 x y hx hy
theorem o_eq32 {x y : Nat} (hx : isN x = false) (hy : isN y = false) : (FloatKind.f32.format.order x y == some .eq) = decide (Fp.key32 x = Fp.key32 y) := Fp.eq32 x y hx hy
theorem o_gt32 {x y : Nat} (hx : isN x = false) (hy : isN y = false) : (FloatKind.f32.format.order x y == some .gt) = decide (Fp.key32 y < Fp.key32 x) := by
  rw [ord32 hx hy]
  rcases Int.lt_trichotomy (Fp.key32 x) (Fp.key32 y) with h | h | h
  · rw [Fp.cmp_lt h, decide_eq_false (by omega)]; rfl
  · rw [Fp.cmp_eq h, decide_eq_false (by omega)]; rfl
  · rw [Fp.cmp_gt h, decide_eq_true h]; rfl
theorem key_as {x : Nat} (hx : x < 4294967296) : Fp.key32 x = if 2147483648 ≤ x then -((x % 2147483648 : Nat) : Int) else ((x % 2147483648 : Nat) : Int) := by
  unfold Fp.key32
  by_cases h : 2147483648 ≤ x
  · rw [if_pos (by omega), if_pos h]
  · rw [if_neg (by omega), if_neg h]
theorem wide_any {x : Nat} (hx : x < 4294967296) (hn : isN x = false) : ∃ a, floatToFloatBits .f32 x .f64 = some a ∧ a % 9223372036854775808 ≤ 9218868437227405312 := by
  cases hi : isI x
  · have hf : x % 2147483648 < 2139095040 := fin_of hn hi
    obtain ⟨a, h1, h2, _⟩ := wide_ok hx hf
    exact ⟨a, h1, Nat.le_of_lt h2.2⟩
  · exact ⟨_, wide_inf hx hi, infD_le _⟩
set_option maxRecDepth 100000 in
set_option maxHeartbeats 600000 in
theorem m_cps_up (w : World) : Calls Tryd.prog 117 #[.float .f64 3936146074321813504, .float .f64 9218868437227405312] w fun e w' => e = .returned (.float .f64 3936146074321813504) ∧ w = w' := by
  have h1 : bits .andNot .u64 3936146074321813504 9223372036854775808 = 3936146074321813504 := by decide +kernel
  have h2 : bits .and .u64 9218868437227405312 9223372036854775808 = 0 := by decide +kernel
  have h3 : bits .or .u64 3936146074321813504 0 = 3936146074321813504 := by decide +kernel
  go_enter Tryd.func117, Tryd.ntmps117
  go_wp2
  go_ret
  exact ⟨rfl, rfl⟩
set_option maxRecDepth 100000 in
set_option maxHeartbeats 600000 in
theorem m_inf_one (w : World) : Calls Tryd.prog 86 #[.int .i64 1] w fun e w' => e = .returned (.float .f64 9218868437227405312) ∧ w = w' := by
  go_enter Tryd.func86, Tryd.ntmps86
  go_wp2
  go_ret
  exact ⟨rfl, rfl⟩
set_option maxRecDepth 100000 in
set_option maxHeartbeats 600000 in
theorem m_next_zero (x : Nat) (hx : x < 4294967296) (hn : isN x = false) (hi : x ≠ 2139095040) (h0 : x % 2147483648 = 0) (w : World) : Calls Tryd.prog 85 #[.float .f32 x, .float .f32 2139095040] w fun e w' => e = .returned (.float .f32 1) ∧ w = w' := by
  obtain ⟨a, ha, hal⟩ := wide_any hx hn
  have hcv := fun (w : World) => run_convert_float_float (P := Tryd.prog) w 31 40 .f32 .f64 x a (by kernel_rfl) (by kernel_rfl) ha
  have hcy := fun (w : World) => run_convert_float_float (P := Tryd.prog) w 31 40 .f32 .f64 2139095040 9218868437227405312 (by kernel_rfl) (by kernel_rfl) (by decide +kernel)
  have NX := Lib.hid (fun w => m_isnan a w)
  rw [decide_eq_false (by omega)] at NX
  have NY := Lib.hid (fun w => m_isnan 9218868437227405312 w)
  rw [decide_eq_false (by decide)] at NY
  have e1 : (FloatKind.f32.format.order x 2139095040 == some .eq) = false := by rw [o_eq32 hn (by decide), key_as hx, show Fp.key32 2139095040 = 2139095040 by decide]; refine decide_eq_false ?_; have := of_decide_eq_false hn; split <;> omega
  have e2 : (FloatKind.f32.format.order x 0 == some .eq) = true := by rw [o_eq32 hn (by decide), key_as hx, h0]; refine decide_eq_true ?_; split <;> decide
  have hc1 := fun (w : World) => run_convert_float_float (P := Tryd.prog) w 31 40 .f32 .f64 1 3936146074321813504 (by kernel_rfl) (by kernel_rfl) (by decide +kernel)
  have hc2 := fun (w : World) => run_convert_float_float (P := Tryd.prog) w 40 31 .f64 .f32 3936146074321813504 1 (by kernel_rfl) (by kernel_rfl) (by decide +kernel)
  clear ha hal hx hn hi h0
  go_enter Tryd.func85, Tryd.ntmps85
  go_wp2_with fail
  refine (NX.out _).mono ?_; rintro e1 w1 ⟨rfl, rfl⟩
  go_wp2_with fail
  refine (NY.out _).mono ?_; rintro e2 w2 ⟨rfl, rfl⟩
  go_wp2_with fail
  refine (m_cps_up _).mono ?_; rintro e3 w3 ⟨rfl, rfl⟩
  go_wp2
  go_ret
  exact ⟨rfl, rfl⟩
set_option maxRecDepth 100000 in
set_option maxHeartbeats 600000 in
theorem m_next_pos (x : Nat) (hx : x < 4294967296) (hn : isN x = false) (hi : x ≠ 2139095040) (h0 : x % 2147483648 ≠ 0) (hp : x < 2147483648) (w : World) : Calls Tryd.prog 85 #[.float .f32 x, .float .f32 2139095040] w fun e w' => e = .returned (.float .f32 (x + 1)) ∧ w = w' := by
  obtain ⟨a, ha, hal⟩ := wide_any hx hn
  have hcv := fun (w : World) => run_convert_float_float (P := Tryd.prog) w 31 40 .f32 .f64 x a (by kernel_rfl) (by kernel_rfl) ha
  have hcy := fun (w : World) => run_convert_float_float (P := Tryd.prog) w 31 40 .f32 .f64 2139095040 9218868437227405312 (by kernel_rfl) (by kernel_rfl) (by decide +kernel)
  have NX := Lib.hid (fun w => m_isnan a w)
  rw [decide_eq_false (by omega)] at NX
  have NY := Lib.hid (fun w => m_isnan 9218868437227405312 w)
  rw [decide_eq_false (by decide)] at NY
  have e1 : (FloatKind.f32.format.order x 2139095040 == some .eq) = false := by rw [o_eq32 hn (by decide), key_as hx, show Fp.key32 2139095040 = 2139095040 by decide]; refine decide_eq_false ?_; have := of_decide_eq_false hn; split <;> omega
  have e2 : (FloatKind.f32.format.order x 0 == some .eq) = false := by rw [o_eq32 hn (by decide), key_as hx, show Fp.key32 0 = 0 by decide]; refine decide_eq_false ?_; split <;> omega
  have e3 : (FloatKind.f32.format.order 2139095040 x == some .gt) = true := by rw [o_gt32 (by decide) hn, key_as hx, show Fp.key32 2139095040 = 2139095040 by decide, if_neg (by omega)]; exact decide_eq_true (by have := of_decide_eq_false hn; omega)
  have e4 : (FloatKind.f32.format.order x 0 == some .gt) = true := by rw [o_gt32 hn (by decide), key_as hx, show Fp.key32 0 = 0 by decide, if_neg (by omega)]; exact decide_eq_true (by omega)
  have gw : IntKind.u32.wrap ((x : Int) + 1) = ((x + 1 : Nat) : Int) := by rw [IntKind.wrap_u32]; omega
  obtain ⟨z, hz⟩ : ∃ z, z = x + 1 := ⟨_, rfl⟩
  rw [← hz] at gw ⊢
  have hz2 := hz
  clear hz hz2
  clear ha hal hx hn hi h0 hp
  go_enter Tryd.func85, Tryd.ntmps85
  go_wp2_with fail
  refine (NX.out _).mono ?_; rintro e1 w1 ⟨rfl, rfl⟩
  go_wp2_with fail
  refine (NY.out _).mono ?_; rintro e2 w2 ⟨rfl, rfl⟩
  go_wp2
  go_ret
  exact ⟨rfl, rfl⟩
set_option maxRecDepth 100000 in
set_option maxHeartbeats 600000 in
theorem m_next_neg (x : Nat) (hx : x < 4294967296) (hn : isN x = false) (hi : x ≠ 2139095040) (h0 : x % 2147483648 ≠ 0) (hp : ¬ x < 2147483648) (w : World) : Calls Tryd.prog 85 #[.float .f32 x, .float .f32 2139095040] w fun e w' => e = .returned (.float .f32 (x - 1)) ∧ w = w' := by
  obtain ⟨a, ha, hal⟩ := wide_any hx hn
  have hcv := fun (w : World) => run_convert_float_float (P := Tryd.prog) w 31 40 .f32 .f64 x a (by kernel_rfl) (by kernel_rfl) ha
  have hcy := fun (w : World) => run_convert_float_float (P := Tryd.prog) w 31 40 .f32 .f64 2139095040 9218868437227405312 (by kernel_rfl) (by kernel_rfl) (by decide +kernel)
  have NX := Lib.hid (fun w => m_isnan a w)
  rw [decide_eq_false (by omega)] at NX
  have NY := Lib.hid (fun w => m_isnan 9218868437227405312 w)
  rw [decide_eq_false (by decide)] at NY
  have e1 : (FloatKind.f32.format.order x 2139095040 == some .eq) = false := by rw [o_eq32 hn (by decide), key_as hx, show Fp.key32 2139095040 = 2139095040 by decide]; refine decide_eq_false ?_; have := of_decide_eq_false hn; split <;> omega
  have e2 : (FloatKind.f32.format.order x 0 == some .eq) = false := by rw [o_eq32 hn (by decide), key_as hx, show Fp.key32 0 = 0 by decide]; refine decide_eq_false ?_; split <;> omega
  have e3 : (FloatKind.f32.format.order 2139095040 x == some .gt) = true := by rw [o_gt32 (by decide) hn, key_as hx, show Fp.key32 2139095040 = 2139095040 by decide, if_pos (by omega)]; exact decide_eq_true (by omega)
  have e4 : (FloatKind.f32.format.order x 0 == some .gt) = false := by rw [o_gt32 hn (by decide), key_as hx, show Fp.key32 0 = 0 by decide, if_pos (by omega)]; exact decide_eq_false (by omega)
  have gw : IntKind.u32.wrap ((x : Int) - 1) = ((x - 1 : Nat) : Int) := by rw [IntKind.wrap_u32]; omega
  obtain ⟨z, hz⟩ : ∃ z, z = x - 1 := ⟨_, rfl⟩
  rw [← hz] at gw ⊢
  have hz2 := hz
  clear hz hz2
  clear ha hal hx hn hi h0 hp
  go_enter Tryd.func85, Tryd.ntmps85
  go_wp2_with fail
  refine (NX.out _).mono ?_; rintro e1 w1 ⟨rfl, rfl⟩
  go_wp2_with fail
  refine (NY.out _).mono ?_; rintro e2 w2 ⟨rfl, rfl⟩
  go_wp2
  go_ret
  exact ⟨rfl, rfl⟩
theorem m_next32 (x : Nat) (hx : x < 4294967296) (hn : isN x = false) (hi : x ≠ 2139095040) (w : World) : Calls Tryd.prog 85 #[.float .f32 x, .float .f32 2139095040] w fun e w' => e = .returned (.float .f32 (nextS x)) ∧ w = w' := by
  unfold nextS
  by_cases h0 : x % 2147483648 = 0
  · rw [if_pos h0]; exact m_next_zero x hx hn hi h0 w
  · rw [if_neg h0]
    by_cases hp : x < 2147483648
    · rw [if_pos hp]; exact m_next_pos x hx hn hi h0 hp w
    · rw [if_neg hp]; exact m_next_neg x hx hn hi h0 hp w
theorem Rcmp_any (k1 k2 E1 E2 : Int) (b1 b2 : Bool) (g1 g2 M1 M2 : Nat) (h1 : ExpOk 1074 E1) (h2 : ExpOk 1074 E2) (l1 : (dg M1).length ≤ 900) (l2 : (dg M2).length ≤ 900) (w : World) (hI1 : IntB w g1 (M1 : Int)) (hI2 : IntB w g2 (M2 : Int)) : Calls Tryd.prog 15 #[.agg #[.int .i64 k1, .bool b1, .pointer (some ⟨g1, 0, none⟩), .int .i64 E1], .agg #[.int .i64 k2, .bool b2, .pointer (some ⟨g2, 0, none⟩), .int .i64 E2]] w (fun en w' => en = .returned (.int .i64 (cV k1 b1 (sgI b1 M1 (E1 + (1074 : Nat)).toNat) k2 b2 (sgI b2 M2 (E2 + (1074 : Nat)).toNat))) ∧ Within w w') := by
  unfold cV
  by_cases c1 : k1 = 1
  · rw [if_pos (.inl c1)]; exact Rcmp_inf1 k1 k2 E1 E2 b1 b2 g1 g2 (by rw [c1]; rfl) w
  · by_cases c2 : k2 = 1
    · rw [if_pos (.inr c2)]; exact Rcmp_inf0 k1 k2 E1 E2 b1 b2 g1 g2 (beq_eq_false_iff_ne.2 c1) (by rw [c2]; rfl) w
    · rw [if_neg (by omega)]; exact Rcmp_val k1 k2 E1 E2 b1 b2 g1 g2 M1 M2 1074 h1 h2 c1 c2 l1 l2 w hI1 hI2
end Go.Proofs.YtifgngmebnjfkaaDoor
end

section
namespace Go.Proofs.YtifgngmebnjfkaaDoor
open Go.RowKit
theorem amt_word {p : Nat} (hk : kS p ≠ 2) (k2 : Int) (b2 : Bool) (u2 : Int) : cV (kS p) (nS p) (sgI (nS p) (mS p) (eS p + (1074 : Nat)).toNat) k2 b2 u2 = cV (kS p) (nS p) (uS p) k2 b2 u2 ∧ cV k2 b2 u2 (kS p) (nS p) (sgI (nS p) (mS p) (eS p + (1074 : Nat)).toNat) = cV k2 b2 u2 (kS p) (nS p) (uS p) := by
  unfold cV
  by_cases h1 : kS p = 1
  · rw [if_pos (.inl h1), if_pos (.inl h1), if_pos (.inr h1), if_pos (.inr h1)]; exact ⟨rfl, rfl⟩
  · have hf := k_fin hk h1
    have e : sgI (nS p) (mS p) (eS p + (1074 : Nat)).toNat = uS p := by rw [uS_sg hf, nS_ng hk]; rfl
    rw [e]; exact ⟨rfl, rfl⟩
theorem eS_ok (x : Nat) : ExpOk 1074 (eS x) := by
  have h1 := eS_hi x
  have h2 : -149 ≤ eS x := by unfold eS tE; split <;> (try split) <;> omega
  exact ⟨by omega, by omega, by decide⟩
theorem mS_len (x : Nat) : (dg (mS x)).length ≤ 900 := Nat.le_trans (dg_small (k := 1) (Nat.lt_trans (mS_lt x) (by decide))) (by decide)
theorem isN_no {p : Nat} (h : kS p ≠ 2) : isN p = false := by rw [isN_k]; exact decide_eq_false h
set_option maxRecDepth 100000 in
set_option maxHeartbeats 600000 in
theorem pair_same (p q : Nat) (V k : Int) (hp : p < 4294967296) (hq : q < 4294967296) (kp : kS p ≠ 2) (kq : kS q ≠ 2) (hlo : ∀ b, cV (kS p) (nS p) (uS p) 0 b V ≤ 0) (hhi : ∀ b, cV 0 b V (kS q) (nS q) (uS q) ≤ 0) (hc : cV (kS p) (nS p) (uS p) (kS q) (nS q) (uS q) = 0) (hk : k = 0) (bv : Bool) (gv Mv : Nat) (Ev : Int) (hE : ExpOk 1074 Ev) (hl : (dg Mv).length ≤ 900) (hv : sgI bv Mv (Ev + (1074 : Nat)).toNat = V) (w : World) (hI : IntB w gv (Mv : Int)) : Calls Tryd.prog 45 #[.float .f32 p, .float .f32 q, .agg #[.int .i64 0, .bool bv, .pointer (some ⟨gv, 0, none⟩), .int .i64 Ev], .int .i64 k] w fun e w' => e = .returned (.bool true) ∧ Within w w' := by
  have O1 := Lib.hid (fun w => ROf32 p hp w)
  have O2 := Lib.hid (fun w => ROf32 q hq w)
  have C1 := Lib.hid (fun g1 w h1 h2 => Rcmp_any (kS p) 0 (eS p) Ev (nS p) bv g1 gv (mS p) Mv (eS_ok p) hE (mS_len p) hl w h1 h2)
  have C2 := Lib.hid (fun g2 w h1 h2 => Rcmp_any 0 (kS q) Ev (eS q) bv (nS q) gv g2 Mv (mS q) hE (eS_ok q) hl (mS_len q) w h1 h2)
  have C3 := Lib.hid (fun g1 g2 w h1 h2 => Rcmp_any (kS p) (kS q) (eS p) (eS q) (nS p) (nS q) g1 g2 (mS p) (mS q) (eS_ok p) (eS_ok q) (mS_len p) (mS_len q) w h1 h2)
  rw [hv, (amt_word kp _ _ _).1] at C1
  rw [hv, (amt_word kq _ _ _).2] at C2
  rw [(amt_word kp _ _ _).1, (amt_word kq _ _ _).2, hc] at C3
  have n1 := isN_no kp
  have n2 := isN_no kq
  have d1 : decide (cV (kS p) (nS p) (uS p) 0 bv V > 0) = false := decide_eq_false (by have := hlo bv; omega)
  have d2 : decide (cV 0 bv V (kS q) (nS q) (uS q) > 0) = false := decide_eq_false (by have := hhi bv; omega)
  have d3 : (kS p == 2) = false := beq_eq_false_iff_ne.2 kp
  have d4 : (kS q == 2) = false := beq_eq_false_iff_ne.2 kq
  generalize cV (kS p) (nS p) (uS p) 0 bv V = c1 at *
  generalize cV 0 bv V (kS q) (nS q) (uS q) = c2 at *
  have HI := Lib.hid hI; clear hI hlo hhi hc kp kq hv hE hl hp hq n1 n2
  generalize kS p = kp at *
  generalize kS q = kq at *
  generalize nS p = np at *
  generalize nS q = nq at *
  generalize eS p = ep at *
  generalize eS q = eq at *
  generalize mS p = mp at *
  generalize mS q = mq at *
  have hw0 : Within w (w.alloc (.cells #[.int .i64 0, .bool bv, .pointer (some ⟨gv, 0, none⟩), .int .i64 Ev] 26)) := (Within.refl w).alloc _
  go_enter Tryd.func45, Tryd.ntmps45
  go_wp2_with fail
  refine (O1.out _).mono ?_; rintro e1 w1 ⟨g1, rfl, hI1, _, hb1⟩
  have hw1 := hw0.trans hb1
  go_wp2_with fail
  refine (O2.out _).mono ?_; rintro e2 w2 ⟨g2, rfl, hI2, _, hb2⟩
  have hw2 := hw1.trans hb2
  have hI1 := hI1.of hb2
  have r0 := (hb1.trans hb2).cells w.heap.size 0 (by simp)
  have r1 := (hb1.trans hb2).cells w.heap.size 1 (by simp)
  have r2 := (hb1.trans hb2).cells w.heap.size 2 (by simp)
  have r3 := (hb1.trans hb2).cells w.heap.size 3 (by simp)
  have k0 : w2.cell? ⟨w.heap.size, 0, none⟩ = some (.int .i64 0) := r0.trans (by simp)
  have k1 : w2.cell? ⟨w.heap.size, 1, none⟩ = some (.bool bv) := r1.trans (by simp)
  have k2 : w2.cell? ⟨w.heap.size, 2, none⟩ = some (.pointer (some ⟨gv, 0, none⟩)) := r2.trans (by simp)
  have k3 : w2.cell? ⟨w.heap.size, 3, none⟩ = some (.int .i64 Ev) := r3.trans (by simp)
  clear r0 r1 r2 r3
  have kl := World.block_lt_of_cell? _ _ k0
  have hI0 := HI.out.of hw2
  have hv3 : Within w2 ((w2.alloc (.cells #[.int .i64 kp, .bool np, .pointer (some ⟨g1, 0, none⟩), .int .i64 ep] 26)).alloc (.cells #[.int .i64 kq, .bool nq, .pointer (some ⟨g2, 0, none⟩), .int .i64 eq] 26)) := ((Within.refl w2).alloc _).alloc _
  go_wp2_with fail
  obtain ⟨W2, hW2⟩ : ∃ W, W = (w2.alloc (.cells #[.int .i64 kp, .bool np, .pointer (some ⟨g1, 0, none⟩), .int .i64 ep] 26)).alloc (.cells #[.int .i64 kq, .bool nq, .pointer (some ⟨g2, 0, none⟩), .int .i64 eq] 26) := ⟨_, rfl⟩
  rw [← hW2] at hv3 ⊢
  have zW : W2.heap.size = w2.heap.size + 2 := by rw [hW2]; simp
  have b02 : W2.cell? ⟨w.heap.size, 0, none⟩ = some (.int .i64 0) := (hv3.cells _ _ kl).trans k0
  have b12 : W2.cell? ⟨w.heap.size, 1, none⟩ = some (.bool bv) := (hv3.cells _ _ kl).trans k1
  have b22 : W2.cell? ⟨w.heap.size, 2, none⟩ = some (.pointer (some ⟨gv, 0, none⟩)) := (hv3.cells _ _ kl).trans k2
  have b32 : W2.cell? ⟨w.heap.size, 3, none⟩ = some (.int .i64 Ev) := (hv3.cells _ _ kl).trans k3
  have l02 : W2.cell? ⟨w2.heap.size, 0, none⟩ = some (.int .i64 kp) := by rw [hW2]; simp
  have l12 : W2.cell? ⟨w2.heap.size, 1, none⟩ = some (.bool np) := by rw [hW2]; simp
  have l22 : W2.cell? ⟨w2.heap.size, 2, none⟩ = some (.pointer (some ⟨g1, 0, none⟩)) := by rw [hW2]; simp
  have l32 : W2.cell? ⟨w2.heap.size, 3, none⟩ = some (.int .i64 ep) := by rw [hW2]; simp
  have h02 : W2.cell? ⟨w2.heap.size + 1, 0, none⟩ = some (.int .i64 kq) := by rw [hW2]; simp
  have h12 : W2.cell? ⟨w2.heap.size + 1, 1, none⟩ = some (.bool nq) := by rw [hW2]; simp
  have h22 : W2.cell? ⟨w2.heap.size + 1, 2, none⟩ = some (.pointer (some ⟨g2, 0, none⟩)) := by rw [hW2]; simp
  have h32 : W2.cell? ⟨w2.heap.size + 1, 3, none⟩ = some (.int .i64 eq) := by rw [hW2]; simp
  have sb2 : w.heap.size < W2.heap.size := by omega
  have sl2 : w2.heap.size < W2.heap.size := by omega
  have sh2 : w2.heap.size + 1 < W2.heap.size := by omega
  clear hW2 k0 k1 k2 k3
  refine (C1.out _ _ (hI1.of hv3) (hI0.of hv3)).mono ?_; rintro e3 w3 ⟨rfl, hb3⟩
  have b03 := (hb3.cells _ _ sb2).trans b02
  have b13 := (hb3.cells _ _ sb2).trans b12
  have b23 := (hb3.cells _ _ sb2).trans b22
  have b33 := (hb3.cells _ _ sb2).trans b32
  have l03 := (hb3.cells _ _ sl2).trans l02
  have l13 := (hb3.cells _ _ sl2).trans l12
  have l23 := (hb3.cells _ _ sl2).trans l22
  have l33 := (hb3.cells _ _ sl2).trans l32
  have h03 := (hb3.cells _ _ sh2).trans h02
  have h13 := (hb3.cells _ _ sh2).trans h12
  have h23 := (hb3.cells _ _ sh2).trans h22
  have h33 := (hb3.cells _ _ sh2).trans h32
  have sb3 := Nat.lt_of_lt_of_le sb2 hb3.size
  have sl3 := Nat.lt_of_lt_of_le sl2 hb3.size
  have sh3 := Nat.lt_of_lt_of_le sh2 hb3.size
  clear b02 b12 b22 b32 l02 l12 l22 l32 h02 h12 h22 h32
  have hI0 := (hI0.of hv3).of hb3; have hI1 := (hI1.of hv3).of hb3; have hI2 := (hI2.of hv3).of hb3
  go_wp2_with fail
  refine (C2.out _ _ hI0 hI2).mono ?_; rintro e4 w4 ⟨rfl, hb4⟩
  have b04 := (hb4.cells _ _ sb3).trans b03
  have b14 := (hb4.cells _ _ sb3).trans b13
  have b24 := (hb4.cells _ _ sb3).trans b23
  have b34 := (hb4.cells _ _ sb3).trans b33
  have l04 := (hb4.cells _ _ sl3).trans l03
  have l14 := (hb4.cells _ _ sl3).trans l13
  have l24 := (hb4.cells _ _ sl3).trans l23
  have l34 := (hb4.cells _ _ sl3).trans l33
  have h04 := (hb4.cells _ _ sh3).trans h03
  have h14 := (hb4.cells _ _ sh3).trans h13
  have h24 := (hb4.cells _ _ sh3).trans h23
  have h34 := (hb4.cells _ _ sh3).trans h33
  have sb4 := Nat.lt_of_lt_of_le sb3 hb4.size
  have sl4 := Nat.lt_of_lt_of_le sl3 hb4.size
  have sh4 := Nat.lt_of_lt_of_le sh3 hb4.size
  clear b03 b13 b23 b33 l03 l13 l23 l33 h03 h13 h23 h33
  have hI1 := hI1.of hb4; have hI2 := hI2.of hb4
  go_wp2_with fail
  refine (C3.out _ _ _ hI1 hI2).mono ?_; rintro e5 w5 ⟨rfl, hb5⟩
  have hw5 := (((hw2.trans hv3).trans hb3).trans hb4).trans hb5
  subst hk
  go_wp2
  go_ret
  exact ⟨rfl, hw5⟩
set_option maxRecDepth 100000 in
set_option maxHeartbeats 600000 in
theorem pair_next (p q : Nat) (V k : Int) (hp : p < 4294967296) (hq : q < 4294967296) (kp : kS p ≠ 2) (kq : kS q ≠ 2) (hlo : ∀ b, cV (kS p) (nS p) (uS p) 0 b V ≤ 0) (hhi : ∀ b, cV 0 b V (kS q) (nS q) (uS q) ≤ 0) (hc : cV (kS p) (nS p) (uS p) (kS q) (nS q) (uS q) = -1) (hk : k % 2 = 1) (hk0 : 0 ≤ k) (hk5 : k ≤ 5) (hx : nextS p = q) (bv : Bool) (gv Mv : Nat) (Ev : Int) (hE : ExpOk 1074 Ev) (hl : (dg Mv).length ≤ 900) (hv : sgI bv Mv (Ev + (1074 : Nat)).toNat = V) (w : World) (hI : IntB w gv (Mv : Int)) : Calls Tryd.prog 45 #[.float .f32 p, .float .f32 q, .agg #[.int .i64 0, .bool bv, .pointer (some ⟨gv, 0, none⟩), .int .i64 Ev], .int .i64 k] w fun e w' => e = .returned (.bool true) ∧ Within w w' := by
  have O1 := Lib.hid (fun w => ROf32 p hp w)
  have O2 := Lib.hid (fun w => ROf32 q hq w)
  have C1 := Lib.hid (fun g1 w h1 h2 => Rcmp_any (kS p) 0 (eS p) Ev (nS p) bv g1 gv (mS p) Mv (eS_ok p) hE (mS_len p) hl w h1 h2)
  have C2 := Lib.hid (fun g2 w h1 h2 => Rcmp_any 0 (kS q) Ev (eS q) bv (nS q) gv g2 Mv (mS q) hE (eS_ok q) hl (mS_len q) w h1 h2)
  have C3 := Lib.hid (fun g1 g2 w h1 h2 => Rcmp_any (kS p) (kS q) (eS p) (eS q) (nS p) (nS q) g1 g2 (mS p) (mS q) (eS_ok p) (eS_ok q) (mS_len p) (mS_len q) w h1 h2)
  rw [hv, (amt_word kp _ _ _).1] at C1
  rw [hv, (amt_word kq _ _ _).2] at C2
  rw [(amt_word kp _ _ _).1, (amt_word kq _ _ _).2, hc] at C3
  have n1 := isN_no kp
  have n2 := isN_no kq
  have d1 : decide (cV (kS p) (nS p) (uS p) 0 bv V > 0) = false := decide_eq_false (by have := hlo bv; omega)
  have d2 : decide (cV 0 bv V (kS q) (nS q) (uS q) > 0) = false := decide_eq_false (by have := hhi bv; omega)
  have d3 : (kS p == 2) = false := beq_eq_false_iff_ne.2 kp
  have d4 : (kS q == 2) = false := beq_eq_false_iff_ne.2 kq
  have hi : p ≠ 2139095040 := by
    rintro rfl
    have e : nextS 2139095040 = 2139095041 := by decide
    rw [e] at hx
    exact kq (by rw [← hx]; decide)
  have NX := Lib.hid (fun w => m_next32 p hp n1 hi w)
  rw [hx] at NX
  have e1 : (FloatKind.f32.format.order q q == some .eq) = true := by rw [o_eq32 n2 n2]; exact decide_eq_true rfl
  have hcv := fun (w : World) => run_convert_float_float (P := Tryd.prog) w 40 31 .f64 .f32 9218868437227405312 2139095040 (by kernel_rfl) (by kernel_rfl) (by decide +kernel)
  have ba : bits .and .i64 k 1 = 1 := by
    have h135 : k = 1 ∨ k = 3 ∨ k = 5 := by omega
    rcases h135 with rfl | rfl | rfl <;> decide +kernel
  generalize cV (kS p) (nS p) (uS p) 0 bv V = c1 at *
  generalize cV 0 bv V (kS q) (nS q) (uS q) = c2 at *
  have HI := Lib.hid hI; clear hI hlo hhi hc kp kq hv hE hl hp hq n1 n2 hk hk0 hk5 hx hi
  generalize kS p = kp at *
  generalize kS q = kq at *
  generalize nS p = np at *
  generalize nS q = nq at *
  generalize eS p = ep at *
  generalize eS q = eq at *
  generalize mS p = mp at *
  generalize mS q = mq at *
  have hw0 : Within w (w.alloc (.cells #[.int .i64 0, .bool bv, .pointer (some ⟨gv, 0, none⟩), .int .i64 Ev] 26)) := (Within.refl w).alloc _
  go_enter Tryd.func45, Tryd.ntmps45
  go_wp2_with fail
  refine (O1.out _).mono ?_; rintro e1 w1 ⟨g1, rfl, hI1, _, hb1⟩
  have hw1 := hw0.trans hb1
  go_wp2_with fail
  refine (O2.out _).mono ?_; rintro e2 w2 ⟨g2, rfl, hI2, _, hb2⟩
  have hw2 := hw1.trans hb2
  have hI1 := hI1.of hb2
  have r0 := (hb1.trans hb2).cells w.heap.size 0 (by simp)
  have r1 := (hb1.trans hb2).cells w.heap.size 1 (by simp)
  have r2 := (hb1.trans hb2).cells w.heap.size 2 (by simp)
  have r3 := (hb1.trans hb2).cells w.heap.size 3 (by simp)
  have k0 : w2.cell? ⟨w.heap.size, 0, none⟩ = some (.int .i64 0) := r0.trans (by simp)
  have k1 : w2.cell? ⟨w.heap.size, 1, none⟩ = some (.bool bv) := r1.trans (by simp)
  have k2 : w2.cell? ⟨w.heap.size, 2, none⟩ = some (.pointer (some ⟨gv, 0, none⟩)) := r2.trans (by simp)
  have k3 : w2.cell? ⟨w.heap.size, 3, none⟩ = some (.int .i64 Ev) := r3.trans (by simp)
  clear r0 r1 r2 r3
  have kl := World.block_lt_of_cell? _ _ k0
  have hI0 := HI.out.of hw2
  have hv3 : Within w2 ((w2.alloc (.cells #[.int .i64 kp, .bool np, .pointer (some ⟨g1, 0, none⟩), .int .i64 ep] 26)).alloc (.cells #[.int .i64 kq, .bool nq, .pointer (some ⟨g2, 0, none⟩), .int .i64 eq] 26)) := ((Within.refl w2).alloc _).alloc _
  go_wp2_with fail
  obtain ⟨W2, hW2⟩ : ∃ W, W = (w2.alloc (.cells #[.int .i64 kp, .bool np, .pointer (some ⟨g1, 0, none⟩), .int .i64 ep] 26)).alloc (.cells #[.int .i64 kq, .bool nq, .pointer (some ⟨g2, 0, none⟩), .int .i64 eq] 26) := ⟨_, rfl⟩
  rw [← hW2] at hv3 ⊢
  have zW : W2.heap.size = w2.heap.size + 2 := by rw [hW2]; simp
  have b02 : W2.cell? ⟨w.heap.size, 0, none⟩ = some (.int .i64 0) := (hv3.cells _ _ kl).trans k0
  have b12 : W2.cell? ⟨w.heap.size, 1, none⟩ = some (.bool bv) := (hv3.cells _ _ kl).trans k1
  have b22 : W2.cell? ⟨w.heap.size, 2, none⟩ = some (.pointer (some ⟨gv, 0, none⟩)) := (hv3.cells _ _ kl).trans k2
  have b32 : W2.cell? ⟨w.heap.size, 3, none⟩ = some (.int .i64 Ev) := (hv3.cells _ _ kl).trans k3
  have l02 : W2.cell? ⟨w2.heap.size, 0, none⟩ = some (.int .i64 kp) := by rw [hW2]; simp
  have l12 : W2.cell? ⟨w2.heap.size, 1, none⟩ = some (.bool np) := by rw [hW2]; simp
  have l22 : W2.cell? ⟨w2.heap.size, 2, none⟩ = some (.pointer (some ⟨g1, 0, none⟩)) := by rw [hW2]; simp
  have l32 : W2.cell? ⟨w2.heap.size, 3, none⟩ = some (.int .i64 ep) := by rw [hW2]; simp
  have h02 : W2.cell? ⟨w2.heap.size + 1, 0, none⟩ = some (.int .i64 kq) := by rw [hW2]; simp
  have h12 : W2.cell? ⟨w2.heap.size + 1, 1, none⟩ = some (.bool nq) := by rw [hW2]; simp
  have h22 : W2.cell? ⟨w2.heap.size + 1, 2, none⟩ = some (.pointer (some ⟨g2, 0, none⟩)) := by rw [hW2]; simp
  have h32 : W2.cell? ⟨w2.heap.size + 1, 3, none⟩ = some (.int .i64 eq) := by rw [hW2]; simp
  have sb2 : w.heap.size < W2.heap.size := by omega
  have sl2 : w2.heap.size < W2.heap.size := by omega
  have sh2 : w2.heap.size + 1 < W2.heap.size := by omega
  clear hW2 k0 k1 k2 k3
  refine (C1.out _ _ (hI1.of hv3) (hI0.of hv3)).mono ?_; rintro e3 w3 ⟨rfl, hb3⟩
  have b03 := (hb3.cells _ _ sb2).trans b02
  have b13 := (hb3.cells _ _ sb2).trans b12
  have b23 := (hb3.cells _ _ sb2).trans b22
  have b33 := (hb3.cells _ _ sb2).trans b32
  have l03 := (hb3.cells _ _ sl2).trans l02
  have l13 := (hb3.cells _ _ sl2).trans l12
  have l23 := (hb3.cells _ _ sl2).trans l22
  have l33 := (hb3.cells _ _ sl2).trans l32
  have h03 := (hb3.cells _ _ sh2).trans h02
  have h13 := (hb3.cells _ _ sh2).trans h12
  have h23 := (hb3.cells _ _ sh2).trans h22
  have h33 := (hb3.cells _ _ sh2).trans h32
  have sb3 := Nat.lt_of_lt_of_le sb2 hb3.size
  have sl3 := Nat.lt_of_lt_of_le sl2 hb3.size
  have sh3 := Nat.lt_of_lt_of_le sh2 hb3.size
  clear b02 b12 b22 b32 l02 l12 l22 l32 h02 h12 h22 h32
  have hI0 := (hI0.of hv3).of hb3; have hI1 := (hI1.of hv3).of hb3; have hI2 := (hI2.of hv3).of hb3
  go_wp2_with fail
  refine (C2.out _ _ hI0 hI2).mono ?_; rintro e4 w4 ⟨rfl, hb4⟩
  have b04 := (hb4.cells _ _ sb3).trans b03
  have b14 := (hb4.cells _ _ sb3).trans b13
  have b24 := (hb4.cells _ _ sb3).trans b23
  have b34 := (hb4.cells _ _ sb3).trans b33
  have l04 := (hb4.cells _ _ sl3).trans l03
  have l14 := (hb4.cells _ _ sl3).trans l13
  have l24 := (hb4.cells _ _ sl3).trans l23
  have l34 := (hb4.cells _ _ sl3).trans l33
  have h04 := (hb4.cells _ _ sh3).trans h03
  have h14 := (hb4.cells _ _ sh3).trans h13
  have h24 := (hb4.cells _ _ sh3).trans h23
  have h34 := (hb4.cells _ _ sh3).trans h33
  have sb4 := Nat.lt_of_lt_of_le sb3 hb4.size
  have sl4 := Nat.lt_of_lt_of_le sl3 hb4.size
  have sh4 := Nat.lt_of_lt_of_le sh3 hb4.size
  clear b03 b13 b23 b33 l03 l13 l23 l33 h03 h13 h23 h33
  have hI1 := hI1.of hb4; have hI2 := hI2.of hb4
  go_wp2_with fail
  refine (C3.out _ _ _ hI1 hI2).mono ?_; rintro e5 w5 ⟨rfl, hb5⟩
  have hw5 := (((hw2.trans hv3).trans hb3).trans hb4).trans hb5
  go_wp2_with fail
  refine (m_inf_one _).mono ?_; rintro e6 w6 ⟨rfl, rfl⟩
  go_wp2_with fail
  refine (NX.out _).mono ?_; rintro e7 w7 ⟨rfl, rfl⟩
  go_wp2
  go_ret
  exact ⟨rfl, hw5⟩
end Go.Proofs.YtifgngmebnjfkaaDoor
end

section
namespace Go.Proofs.YtifgngmebnjfkaaDoor
open Go.RowKit
theorem pair_law (p q : Nat) (V k : Int) (h : PairOk p q V k) (bv : Bool) (gv Mv : Nat) (Ev : Int) (hE : ExpOk 1074 Ev) (hl : (dg Mv).length ≤ 900) (hv : sgI bv Mv (Ev + (1074 : Nat)).toNat = V) (w : World) (hI : IntB w gv (Mv : Int)) : Calls Tryd.prog 45 #[.float .f32 p, .float .f32 q, .agg #[.int .i64 0, .bool bv, .pointer (some ⟨gv, 0, none⟩), .int .i64 Ev], .int .i64 k] w fun e w' => e = .returned (.bool true) ∧ Within w w' := by
  obtain ⟨hp, hq, kp, kq, hlo, hhi, h | h⟩ := h
  · exact pair_same p q V k hp hq kp kq hlo hhi h.1 h.2 bv gv Mv Ev hE hl hv w hI
  · exact pair_next p q V k hp hq kp kq hlo hhi h.1 h.2.1 h.2.2.1 h.2.2.2.1 h.2.2.2.2 bv gv Mv Ev hE hl hv w hI
set_option maxRecDepth 100000 in
set_option maxHeartbeats 600000 in
theorem amongst_1 (a p q : Nat) (h : (FloatKind.f32.format.order a p == some .eq) = true) (w : World) : Calls Tryd.prog 46 #[.float .f32 a, .float .f32 p, .float .f32 q] w fun e w' => e = .returned (.bool true) ∧ Within w w' := by
  go_enter Tryd.func46, Tryd.ntmps46
  go_wp2
  go_ret
  exact ⟨rfl, Within.refl _⟩
set_option maxRecDepth 100000 in
set_option maxHeartbeats 600000 in
theorem amongst_2 (a p q : Nat) (h1 : (FloatKind.f32.format.order a p == some .eq) = false) (h : (FloatKind.f32.format.order a q == some .eq) = true) (w : World) : Calls Tryd.prog 46 #[.float .f32 a, .float .f32 p, .float .f32 q] w fun e w' => e = .returned (.bool true) ∧ Within w w' := by
  go_enter Tryd.func46, Tryd.ntmps46
  go_wp2
  go_ret
  exact ⟨rfl, Within.refl _⟩
theorem amongst_law (a p q : Nat) (hp : isN p = false) (hq : isN q = false) (h : (a = p ∨ a = q) ∨ ((a = 0 ∨ a = 2147483648) ∧ (p = 0 ∨ p = 2147483648))) (w : World) : Calls Tryd.prog 46 #[.float .f32 a, .float .f32 p, .float .f32 q] w fun e w' => e = .returned (.bool true) ∧ Within w w' := by
  rcases h with (h | h) | ⟨h1, h2⟩
  · subst h; exact amongst_1 a a q (by rw [o_eq32 hp hp]; exact decide_eq_true rfl) w
  · subst h
    cases hc : (FloatKind.f32.format.order a p == some .eq)
    · exact amongst_2 a p a hc (by rw [o_eq32 hq hq]; exact decide_eq_true rfl) w
    · exact amongst_1 a p a hc w
  · exact amongst_1 a p q (by rcases h1 with rfl | rfl <;> rcases h2 with rfl | rfl <;> decide +kernel) w
end Go.Proofs.YtifgngmebnjfkaaDoor
end

section
namespace Go.Proofs.YtifgngmebnjfkaaDoor
theorem fin_no {y : Nat} (fy : y % 2147483648 < 2139095040) : isN y = false ∧ isI y = false := ⟨decide_eq_false (by omega), decide_eq_false (by omega)⟩
theorem uS_rep {y : Nat} (fy : y % 2147483648 < 2139095040) : RepZ (uS y) := by
  rw [uS_sg fy]; exact repz_sg (Nat.le_of_lt (Nat.lt_trans (mS_lt y) (by decide)))
theorem nought_two (a b : Bool) (mode : Int) : noughtW a b mode = 0 ∨ noughtW a b mode = 2147483648 := by unfold noughtW; split <;> simp
theorem rnd_add {y z : Nat} (hy : y < 4294967296) (hz : z < 4294967296) (fy : y % 2147483648 < 2139095040) (fz : z % 2147483648 < 2139095040) : IsRnd (uS y + uS z) (addWd y z) (addFl y z) := by
  intro mode _
  obtain ⟨ny, iy⟩ := fin_no fy
  obtain ⟨nz, iz⟩ := fin_no fz
  have e1 : addWd y z mode = addW (uS y) (uS z) (ngS y) (ngS z) mode := by unfold addWd; rw [ny, nz, iy, iz]; rfl
  have e2 : addFl y z mode = addF (uS y) (uS z) mode := by unfold addFl; rw [ny, nz, iy, iz]; rfl
  have hb : (uS y + uS z).natAbs ≤ 2 ^ flim := pow_le_flim (small_add (uS_small hy fy) (uS_small hz fz)).1 (by decide)
  obtain ⟨a1, a2⟩ := add_is (uS_rep fy) (uS_rep fz) (rep_rn hb) (ngS y) (ngS z) mode
  rw [e1, e2, a1, a2]
  unfold eSumW eSumF
  constructor
  · intro h0; rw [if_neg h0, if_neg h0]; exact ⟨rfl, rfl⟩
  · intro h0
    rw [if_pos h0, if_pos h0]
    refine ⟨?_, rfl⟩
    split
    · exact nought_two _ _ _
    · exact nought_two _ _ _
theorem rnd_mul {y z : Nat} (hy : y < 4294967296) (hz : z < 4294967296) (fy : y % 2147483648 < 2139095040) (fz : z % 2147483648 < 2139095040) : IsRnd (Fp.val (ngS y ^^ ngS z) (prodN y z)) (mulWd y z) (mulFl y z) := by
  obtain ⟨ny, _⟩ := fin_no fy
  obtain ⟨nz, _⟩ := fin_no fz
  obtain ⟨p, h, hp⟩ := prod_fin hy hz fy fz
  have e64 : 2 ^ Ieee.double.width = 18446744073709551616 := by decide
  have hF : Fi p := ⟨by rw [← e64]; exact hp.1, by have := hp.2.1; rwa [Fp.rg64, Fp.dI] at this⟩
  rw [← hp.un]
  intro mode hm
  have e1 : mulWd y z mode = nWord p mode := by unfold mulWd; rw [ny, nz, h]; rfl
  have e2 : mulFl y z mode = nFlags p mode := by unfold mulFl; rw [ny, nz, h]; rfl
  rw [e1, e2]
  exact rnd_narrow hF.1 hF.2 mode hm
theorem prod_sg {y z : Nat} (ky : kS y ≠ 2) (kz : kS z ≠ 2) : Fp.val (ngS y ^^ ngS z) (prodN y z) = sgI (nS y != nS z) (mS y * mS z) (eS y + eS z + 1074).toNat := by
  rw [nS_ng ky, nS_ng kz, bne_xor]
  unfold Fp.val sgI prodN
  split <;> simp
theorem rnd_fus {x y z : Nat} (hx : x < 4294967296) (hy : y < 4294967296) (hz : z < 4294967296) (fx : x % 2147483648 < 2139095040) (fy : y % 2147483648 < 2139095040) (fz : z % 2147483648 < 2139095040) :
    IsRnd (Fp.val (ngS x ^^ ngS y) (prodN x y) + uS z) (fusWd x y z) (fusFl x y z) := by
  intro mode _
  have kx := kS_fin fx; have ky := kS_fin fy; have kz := kS_fin fz
  obtain ⟨f1, f2⟩ := fus_word hx hy hz mode
  have ex := eS_lo x kx; have ey := eS_lo y ky; have ez := eS_lo z kz
  have e1 : refFW x y z mode = addRW 0 (nS x != nS y) (mS x * mS y) (eS x + eS y) 0 (nS z) (mS z) (eS z) mode := by
    unfold refFW; rw [if_neg (by omega), if_neg (by omega), if_neg (by omega), kz]
  have e2 : refFF x y z mode = addRF 0 (nS x != nS y) (mS x * mS y) (eS x + eS y) 0 (nS z) (mS z) (eS z) mode := by
    unfold refFF; rw [if_neg (by omega), if_neg (by omega), if_neg (by omega), kz]
  obtain ⟨a1, a2⟩ := add_units (na := nS x != nS y) (nb := nS z) (ma := mS x * mS y) (mb := mS z) (ea := eS x + eS y) (eb := eS z) (by omega) (by omega) mode
  have eu : sgI (nS z) (mS z) (eS z + 1074).toNat = uS z := by rw [uS_sg fz, nS_ng (by omega)]
  rw [f1, f2, e1, e2, a1, a2, ← prod_sg (by omega) (by omega), eu]
  unfold eSumW eSumF
  constructor
  · intro h0; rw [if_neg h0, if_neg h0]; exact ⟨rfl, rfl⟩
  · intro h0
    rw [if_pos h0, if_pos h0]
    refine ⟨?_, rfl⟩
    split
    · exact nought_two _ _ _
    · exact nought_two _ _ _
end Go.Proofs.YtifgngmebnjfkaaDoor
end

section
namespace Go.Proofs.YtifgngmebnjfkaaDoor
open Go.RowKit
set_option maxRecDepth 100000 in
set_option maxHeartbeats 600000 in
theorem between_low (x y z : Nat) (mode : Int) (hx : x < 18446744073709551616) (hy : y < 4294967296) (hz : z < 4294967296) (hm : mode < 0) (w : World) (hT : FmS w) : Calls Tryd.prog 9 #[.int .u64 (x : Int), .int .u32 (y : Int), .int .u32 (z : Int), .int .i64 mode] w fun e w' => e = .returned (.bool true) ∧ Within w w' := by
  have HT := Lib.hid hT; clear hT
  have NX := Lib.hid (fun w hT => Narrow_any x mode hx w hT)
  have ne : nErr mode = 20 := by unfold nErr; rw [if_neg (by omega)]
  rw [ne] at NX
  clear ne hx
  have AW := Lib.hid (fun w hT => awake_true w hT)
  generalize nWord x mode = a at *
  generalize nFlags x mode = fl at *
  have d1 : decide (mode < 0) = true := decide_eq_true hm
  clear hm
  go_enter Tryd.func9, Tryd.ntmps9
  go_wp2_with fail
  refine (AW.out _ HT.out).mono ?_; rintro e1 w1 ⟨rfl, hb1⟩
  go_wp2_with fail
  refine (f_any x _).mono ?_; rintro e2 w2 ⟨rfl, rfl⟩
  go_wp2_with fail
  refine (NX.out _ (HT.out.of hb1)).mono ?_; rintro e3 w3 ⟨rfl, hb3⟩
  go_wp2
  go_ret
  exact ⟨rfl, hb1.trans hb3⟩
set_option maxRecDepth 100000 in
set_option maxHeartbeats 600000 in
theorem between_high (x y z : Nat) (mode : Int) (hx : x < 18446744073709551616) (hy : y < 4294967296) (hz : z < 4294967296) (hm : 4 < mode) (w : World) (hT : FmS w) : Calls Tryd.prog 9 #[.int .u64 (x : Int), .int .u32 (y : Int), .int .u32 (z : Int), .int .i64 mode] w fun e w' => e = .returned (.bool true) ∧ Within w w' := by
  have HT := Lib.hid hT; clear hT
  have NX := Lib.hid (fun w hT => Narrow_any x mode hx w hT)
  have ne : nErr mode = 20 := by unfold nErr; rw [if_neg (by omega)]
  rw [ne] at NX
  clear ne hx
  have AW := Lib.hid (fun w hT => awake_true w hT)
  generalize nWord x mode = a at *
  generalize nFlags x mode = fl at *
  have d1 : decide (mode < 0) = false := decide_eq_false (by omega)
  have d2 : decide (mode > 4) = true := decide_eq_true hm
  clear hm
  go_enter Tryd.func9, Tryd.ntmps9
  go_wp2_with fail
  refine (AW.out _ HT.out).mono ?_; rintro e1 w1 ⟨rfl, hb1⟩
  go_wp2_with fail
  refine (f_any x _).mono ?_; rintro e2 w2 ⟨rfl, rfl⟩
  go_wp2_with fail
  refine (NX.out _ (HT.out.of hb1)).mono ?_; rintro e3 w3 ⟨rfl, hb3⟩
  go_wp2
  go_ret
  exact ⟨rfl, hb1.trans hb3⟩
end Go.Proofs.YtifgngmebnjfkaaDoor
end

section
namespace Go.Proofs.YtifgngmebnjfkaaDoor
open Go.RowKit
theorem sgD_is {x : Nat} (hx : x < 18446744073709551616) : Fp.sg Ieee.double x = ngD x := by
  rw [Fp.sg64]
  unfold ngD
  by_cases h : 9223372036854775808 ≤ x
  · rw [decide_eq_true h, beq_iff_eq]; omega
  · rw [decide_eq_false h, beq_eq_false_iff_ne]; omega
theorem x_amt {x : Nat} (hx : x < 18446744073709551616) (fx : x % 9223372036854775808 < 9218868437227405312) : sgI (nD x) (mD x) (eD x + (1074 : Nat)).toNat = Fp.un Ieee.double x ∧ kD x = 0 ∧ ExpOk 1074 (eD x) ∧ (dg (mD x)).length ≤ 900 := by
  obtain ⟨g1, g2, g3, g4⟩ := mD_mag (x := x) fx
  have hE := eD_lo x g2
  have hE2 : eD x ≤ 1000 := by unfold eD tE; split <;> (try split) <;> omega
  have e : Fp.mag Ieee.double (x % 9223372036854775808) = mD x * 2 ^ (eD x + (1074 : Nat)).toNat := g1
  refine ⟨?_, g2, ⟨by omega, by omega, by decide⟩, Nat.le_trans (dg_small (k := 2) (Nat.lt_trans (mD_lt x) (by decide))) (by decide)⟩
  unfold Fp.un sgI
  rw [sgD_is hx, Fp.rg64, e, g3]
  split <;> simp
theorem nErr_ok {mode : Int} (h : 0 ≤ mode ∧ mode ≤ 4) : nErr mode = 0 := by unfold nErr; rw [if_pos h]
def NumV (V : Int) (W : World) (e : Ending) (w' : World) : Prop := ∃ (b : Bool) (g M : Nat) (E : Int), e = .returned (.agg #[.int .i64 0, .bool b, .pointer (some ⟨g, 0, none⟩), .int .i64 E]) ∧ IntB w' g (M : Int) ∧ ExpOk 1074 E ∧ (dg M).length ≤ 900 ∧ sgI b M (E + (1074 : Nat)).toNat = V ∧ Within W w'
theorem dg_of_le {n K k : Nat} (h : n ≤ 2 ^ K) (hk : K + 1 ≤ 32 * k) : (dg n).length ≤ k := dg_small (Nat.lt_of_le_of_lt h (Nat.pow_lt_pow_right (by decide) (by omega)))
theorem sum_small {b1 b2 : Bool} {M1 M2 : Nat} {E1 E2 : Int} {g1 g2 : Nat} (k1 k2 : Int) (h1 : ExpOk 1074 E1) (h2 : ExpOk 1074 E2) (l1 : (dg M1).length ≤ 100) (l2 : (dg M2).length ≤ 100) {K : Nat} (hK : K + 1 ≤ 3200) (s1 : (sgI b1 M1 (E1 + (1074 : Nat)).toNat).natAbs ≤ 2 ^ K) (s2 : (sgI b2 M2 (E2 + (1074 : Nat)).toNat).natAbs ≤ 2 ^ K) (w : World) (hI1 : IntB w g1 (M1 : Int)) (hI2 : IntB w g2 (M2 : Int)) :
    Calls Tryd.prog 16 #[.agg #[.int .i64 k1, .bool b1, .pointer (some ⟨g1, 0, none⟩), .int .i64 E1], .agg #[.int .i64 k2, .bool b2, .pointer (some ⟨g2, 0, none⟩), .int .i64 E2]] w (NumV (sgI b1 M1 (E1 + (1074 : Nat)).toNat + sgI b2 M2 (E2 + (1074 : Nat)).toNat) w) := by
  refine (Rsum_val k1 k2 E1 E2 b1 b2 g1 g2 M1 M2 1074 h1 h2 (Nat.le_trans l1 (by decide)) (Nat.le_trans l2 (by decide)) w hI1 hI2).mono ?_
  rintro e w' ⟨g, v, he, hv, hl, hI, _, hin⟩
  obtain ⟨a1, a2, _⟩ := h1
  obtain ⟨b1', b2', _⟩ := h2
  refine ⟨_, g, v.natAbs, min E1 E2, he, hI, ⟨by omega, by omega, by decide⟩, ?_, hv, hin⟩
  have hs := (small_add s1 s2).1
  rw [← hv] at hs
  have ha : (sgI (decide (v < 0)) v.natAbs (min E1 E2 + (1074 : Nat)).toNat).natAbs = v.natAbs * 2 ^ (min E1 E2 + (1074 : Nat)).toNat := by
    unfold sgI
    split
    · rw [Int.natAbs_neg, Int.natAbs_mul, Int.natAbs_pow]; rfl
    · rw [Int.natAbs_mul, Int.natAbs_pow]; rfl
  rw [ha] at hs
  have h1 : v.natAbs ≤ 2 ^ (K + 1) := Nat.le_trans (Nat.le_mul_of_pos_right _ (Nat.two_pow_pos _)) hs
  exact Nat.le_trans (dg_of_le (k := 101) h1 (by omega)) (by decide)
theorem sum_two {y z : Nat} (hy : y < 4294967296) (hz : z < 4294967296) (fy : y % 2147483648 < 2139095040) (fz : z % 2147483648 < 2139095040) (ga gb : Nat) (w : World) (hI1 : IntB w ga (mS y : Int)) (hI2 : IntB w gb (mS z : Int)) :
    Calls Tryd.prog 16 #[.agg #[.int .i64 (kS y), .bool (nS y), .pointer (some ⟨ga, 0, none⟩), .int .i64 (eS y)], .agg #[.int .i64 (kS z), .bool (nS z), .pointer (some ⟨gb, 0, none⟩), .int .i64 (eS z)]] w (NumV (uS y + uS z) w) := by
  have ey : sgI (nS y) (mS y) (eS y + (1074 : Nat)).toNat = uS y := by rw [uS_sg fy, nS_ng (by rw [kS_fin fy]; decide)]; rfl
  have ez : sgI (nS z) (mS z) (eS z + (1074 : Nat)).toNat = uS z := by rw [uS_sg fz, nS_ng (by rw [kS_fin fz]; decide)]; rfl
  have hb := dg_small (n := mS y) (k := 1) (Nat.lt_trans (mS_lt y) (by decide))
  have hc := dg_small (n := mS z) (k := 1) (Nat.lt_trans (mS_lt z) (by decide))
  have h := sum_small (K := 1500) (kS y) (kS z) (eS_ok y) (eS_ok z) (Nat.le_trans hb (by decide)) (Nat.le_trans hc (by decide)) (by decide) (by rw [ey]; exact uS_small hy fy) (by rw [ez]; exact uS_small hz fz) w hI1 hI2
  rw [ey, ez] at h
  exact h
theorem prod_exp (y z : Nat) (ky : kS y = 0) (kz : kS z = 0) : ExpOk 1074 (eS y + eS z) := by
  have h1 := eS_hi y; have h2 := eS_hi z
  have h3 : -149 ≤ eS y := by unfold eS tE; split <;> (try split) <;> omega
  have h4 : -149 ≤ eS z := by unfold eS tE; split <;> (try split) <;> omega
  exact ⟨by omega, by omega, by decide⟩
theorem prod_len (y z : Nat) : (dg (mS y * mS z)).length ≤ 2 := dg_small (by
  have h1 := mS_lt y
  have h2 := mS_lt z
  have h3 : mS y * mS z ≤ 16777215 * 16777215 := Nat.mul_le_mul (by omega) (by omega)
  exact Nat.lt_of_le_of_lt h3 (by decide))
theorem times_two {y z : Nat} (fy : y % 2147483648 < 2139095040) (fz : z % 2147483648 < 2139095040) (ga gb : Nat) (w : World) (hI1 : IntB w ga (mS y : Int)) (hI2 : IntB w gb (mS z : Int)) :
    Calls Tryd.prog 49 #[.agg #[.int .i64 (kS y), .bool (nS y), .pointer (some ⟨ga, 0, none⟩), .int .i64 (eS y)], .agg #[.int .i64 (kS z), .bool (nS z), .pointer (some ⟨gb, 0, none⟩), .int .i64 (eS z)]] w (fun e w' => ∃ g, e = .returned (.agg #[.int .i64 0, .bool (nS y != nS z), .pointer (some ⟨g, 0, none⟩), .int .i64 (eS y + eS z)]) ∧ IntB w' g ((mS y * mS z : Nat) : Int) ∧ Within w w') := by
  have e1 := prod_exp y z (kS_fin fy) (kS_fin fz)
  have h1 := eS_ok y; have h2 := eS_ok z
  obtain ⟨a1, a2, _⟩ := h1
  obtain ⟨b1, b2, _⟩ := h2
  have hb := dg_small (n := mS y) (k := 1) (Nat.lt_trans (mS_lt y) (by decide))
  have hc := dg_small (n := mS z) (k := 1) (Nat.lt_trans (mS_lt z) (by decide))
  refine (Rtimes (kS y) (kS z) (eS y) (eS z) (nS y) (nS z) ga gb (mS y) (mS z) (by omega) (by omega) (Nat.le_trans hb (by decide)) (Nat.le_trans hc (by decide)) w hI1 hI2).mono ?_
  rintro e w' ⟨g, he, hI, _, hin⟩
  exact ⟨g, he, hI, hin⟩
theorem prod_amt {y z : Nat} (fy : y % 2147483648 < 2139095040) (fz : z % 2147483648 < 2139095040) : sgI (nS y != nS z) (mS y * mS z) (eS y + eS z + (1074 : Nat)).toNat = Fp.val (ngS y ^^ ngS z) (prodN y z) := (prod_sg (by rw [kS_fin fy]; decide) (by rw [kS_fin fz]; decide)).symm
theorem sum_fus {y z x : Nat} (hx : x < 4294967296) (fy : y % 2147483648 < 2139095040) (fz : z % 2147483648 < 2139095040) (fx : x % 2147483648 < 2139095040) (g ga : Nat) (w : World) (hI1 : IntB w g ((mS y * mS z : Nat) : Int)) (hI2 : IntB w ga (mS x : Int)) :
    Calls Tryd.prog 16 #[.agg #[.int .i64 0, .bool (nS y != nS z), .pointer (some ⟨g, 0, none⟩), .int .i64 (eS y + eS z)], .agg #[.int .i64 (kS x), .bool (nS x), .pointer (some ⟨ga, 0, none⟩), .int .i64 (eS x)]] w (NumV (Fp.val (ngS y ^^ ngS z) (prodN y z) + uS x) w) := by
  have ep := prod_amt fy fz
  have ex : sgI (nS x) (mS x) (eS x + (1074 : Nat)).toNat = uS x := by rw [uS_sg fx, nS_ng (by rw [kS_fin fx]; decide)]; rfl
  have hb : (Fp.val (ngS y ^^ ngS z) (prodN y z)).natAbs ≤ 2 ^ 1500 := by
    have h := prod_le fy fz
    have e : (Fp.val (ngS y ^^ ngS z) (prodN y z)).natAbs = prodN y z := by unfold Fp.val; split <;> omega
    rw [e]; exact h
  have hc := dg_small (n := mS x) (k := 1) (Nat.lt_trans (mS_lt x) (by decide))
  have h := sum_small (K := 1500) 0 (kS x) (prod_exp y z (kS_fin fy) (kS_fin fz)) (eS_ok x) (Nat.le_trans (prod_len y z) (by decide)) (Nat.le_trans hc (by decide)) (by decide) (by rw [ep]; exact hb) (by rw [ex]; exact uS_small hx fx) w hI1 hI2
  rw [ep, ex] at h
  exact h
end Go.Proofs.YtifgngmebnjfkaaDoor
end

section
namespace Go.Proofs.YtifgngmebnjfkaaDoor
open Go.RowKit
set_option maxRecDepth 100000 in
set_option maxHeartbeats 4000000 in
theorem between_00 (x y z : Nat) (mode : Int) (hx : x < 18446744073709551616) (hy : y < 4294967296) (hz : z < 4294967296) (hm : 0 ≤ mode ∧ mode ≤ 4) (fx : kD x ≠ 0) (fyz : kS y ≠ 0 ∨ kS z ≠ 0) (w : World) (hT : FmS w) : Calls Tryd.prog 9 #[.int .u64 (x : Int), .int .u32 (y : Int), .int .u32 (z : Int), .int .i64 mode] w fun e w' => e = .returned (.bool true) ∧ Within w w' := by
  have HT := Lib.hid hT; clear hT
  have AW := Lib.hid (fun w hT => awake_true w hT)
  have d1 : decide (mode < 0) = false := decide_eq_false (by omega)
  have d2 : decide (mode > 4) = false := decide_eq_false (by omega)
  have OX := Lib.hid (fun w => ROf x hx w)
  have OY := Lib.hid (fun w => ROf32 y hy w)
  have OZ := Lib.hid (fun w => ROf32 z hz w)
  have kx : (kD x == 0) = false := beq_eq_false_iff_ne.2 fx
  have kyz : (kS y != 0) = true ∨ ((kS y != 0) = false ∧ (kS z != 0) = true) := by rw [bne_iff_ne, bne_eq_false_iff_eq, bne_iff_ne]; omega
  clear hx hy hz hm fx fyz
  generalize kD x = kv at *
  generalize kS y = ka at *
  generalize kS z = kb at *
  generalize nD x = nv at *
  generalize eD x = ev at *
  generalize mD x = mv at *
  generalize nS y = na at *
  generalize eS y = ea at *
  generalize mS y = ma at *
  generalize nS z = nb at *
  generalize eS z = eb at *
  generalize mS z = mb at *
  go_enter Tryd.func9, Tryd.ntmps9
  go_wp2_with fail
  refine (AW.out _ HT.out).mono ?_; rintro e1 w1 ⟨rfl, hb1⟩
  go_wp2_with fail
  refine (OX.out _).mono ?_; rintro e2 w2 ⟨gv, rfl, Iv, _, hb2⟩
  have hw2 := hb1.trans hb2
  go_wp2_with fail
  refine (OY.out _).mono ?_; rintro e3 w3 ⟨ga, rfl, Ia, _, hb3⟩
  have hw3 := hw2.trans hb3
  have Iv := Iv.of hb3
  go_wp2_with fail
  refine (OZ.out _).mono ?_; rintro e4 w4 ⟨gb, rfl, Ib, _, hb4⟩
  have hw4 := hw3.trans hb4
  have Iv := Iv.of hb4; have Ia := Ia.of hb4
  clear hb1 hb2 hb3 hb4 hw2 hw3
  obtain ⟨V1, hV1⟩ : ∃ W, W = w4.alloc (.cells #[.int .i64 kv, .bool nv, .pointer (some ⟨gv, 0, none⟩), .int .i64 ev] 26) := ⟨_, rfl⟩
  obtain ⟨V2, hV2⟩ : ∃ W, W = V1.alloc (.cells #[.int .i64 ka, .bool na, .pointer (some ⟨ga, 0, none⟩), .int .i64 ea] 26) := ⟨_, rfl⟩
  obtain ⟨W2, hW2⟩ : ∃ W, W = V2.alloc (.cells #[.int .i64 kb, .bool nb, .pointer (some ⟨gb, 0, none⟩), .int .i64 eb] 26) := ⟨_, rfl⟩
  have z1 : V1.heap.size = w4.heap.size + 1 := by rw [hV1]; simp
  have z2 : V2.heap.size = w4.heap.size + 2 := by rw [hV2]; simp [z1]
  have zW : W2.heap.size = w4.heap.size + 3 := by rw [hW2]; simp [z2]
  have u1 : Within w4 V1 := by rw [hV1]; exact (Within.refl _).alloc _
  have u2 : Within V1 V2 := by rw [hV2]; exact (Within.refl _).alloc _
  have u3 : Within V2 W2 := by rw [hW2]; exact (Within.refl _).alloc _
  have hv3 := (u1.trans u2).trans u3
  have v0_W2 : W2.cell? ⟨w4.heap.size, 0, none⟩ = some (.int .i64 kv) := ((u2.trans u3).cells _ _ (by omega)).trans (by rw [hV1]; simp)
  have v1_W2 : W2.cell? ⟨w4.heap.size, 1, none⟩ = some (.bool nv) := ((u2.trans u3).cells _ _ (by omega)).trans (by rw [hV1]; simp)
  have v2_W2 : W2.cell? ⟨w4.heap.size, 2, none⟩ = some (.pointer (some ⟨gv, 0, none⟩)) := ((u2.trans u3).cells _ _ (by omega)).trans (by rw [hV1]; simp)
  have v3_W2 : W2.cell? ⟨w4.heap.size, 3, none⟩ = some (.int .i64 ev) := ((u2.trans u3).cells _ _ (by omega)).trans (by rw [hV1]; simp)
  have a0_W2 : W2.cell? ⟨w4.heap.size + 1, 0, none⟩ = some (.int .i64 ka) := (u3.cells _ _ (by omega)).trans (by rw [← z1, hV2]; simp)
  have a1_W2 : W2.cell? ⟨w4.heap.size + 1, 1, none⟩ = some (.bool na) := (u3.cells _ _ (by omega)).trans (by rw [← z1, hV2]; simp)
  have a2_W2 : W2.cell? ⟨w4.heap.size + 1, 2, none⟩ = some (.pointer (some ⟨ga, 0, none⟩)) := (u3.cells _ _ (by omega)).trans (by rw [← z1, hV2]; simp)
  have a3_W2 : W2.cell? ⟨w4.heap.size + 1, 3, none⟩ = some (.int .i64 ea) := (u3.cells _ _ (by omega)).trans (by rw [← z1, hV2]; simp)
  have b0_W2 : W2.cell? ⟨w4.heap.size + 2, 0, none⟩ = some (.int .i64 kb) := by rw [← z2, hW2]; simp
  have b1_W2 : W2.cell? ⟨w4.heap.size + 2, 1, none⟩ = some (.bool nb) := by rw [← z2, hW2]; simp
  have b2_W2 : W2.cell? ⟨w4.heap.size + 2, 2, none⟩ = some (.pointer (some ⟨gb, 0, none⟩)) := by rw [← z2, hW2]; simp
  have b3_W2 : W2.cell? ⟨w4.heap.size + 2, 3, none⟩ = some (.int .i64 eb) := by rw [← z2, hW2]; simp
  have sv_W2 : w4.heap.size < W2.heap.size := by omega
  have sa_W2 : w4.heap.size + 1 < W2.heap.size := by omega
  have sb_W2 : w4.heap.size + 2 < W2.heap.size := by omega
  have Iv_W2 := Iv.of hv3; have Ia_W2 := Ia.of hv3; have Ib_W2 := Ib.of hv3
  have hw_W2 := hw4.trans hv3
  clear hv3 hw4 Iv Ia Ib zW z1 z2 u1 u2 u3
  rcases kyz with q1 | ⟨q1, q2⟩
  · go_wp2_with (rw [← hV1, ← hV2, ← hW2])
    go_ret
    exact ⟨rfl, hw_W2⟩
  · go_wp2_with (rw [← hV1, ← hV2, ← hW2])
    go_ret
    exact ⟨rfl, hw_W2⟩
set_option maxRecDepth 100000 in
set_option maxHeartbeats 4000000 in
theorem between_01 (x y z : Nat) (mode : Int) (hx : x < 18446744073709551616) (hy : y < 4294967296) (hz : z < 4294967296) (hm : 0 ≤ mode ∧ mode ≤ 4) (fx : kD x ≠ 0) (fy : y % 2147483648 < 2139095040) (fz : z % 2147483648 < 2139095040) (w : World) (hT : FmS w) : Calls Tryd.prog 9 #[.int .u64 (x : Int), .int .u32 (y : Int), .int .u32 (z : Int), .int .i64 mode] w fun e w' => e = .returned (.bool true) ∧ Within w w' := by
  have HT := Lib.hid hT; clear hT
  have AW := Lib.hid (fun w hT => awake_true w hT)
  have d1 : decide (mode < 0) = false := decide_eq_false (by omega)
  have d2 : decide (mode > 4) = false := decide_eq_false (by omega)
  have OX := Lib.hid (fun w => ROf x hx w)
  have OY := Lib.hid (fun w => ROf32 y hy w)
  have OZ := Lib.hid (fun w => ROf32 z hz w)
  have kx : (kD x == 0) = false := beq_eq_false_iff_ne.2 fx
  have ky := kS_fin fy; have kz := kS_fin fz
  have y3 := eS_ok y; have z3 := eS_ok z
  have e4 : (0 : Int) ≤ 4 ∧ (4 : Int) ≤ 4 := by decide
  have e3 : (0 : Int) ≤ 3 ∧ (3 : Int) ≤ 4 := by decide
  have RA := rnd_add hy hz fy fz
  have PA := pair_rnd RA
  have ANA := amongst_rnd RA hm
  have A4 := Lib.hid (fun w hT => Add_known y z 4 hy hz e4 w hT)
  have A3 := Lib.hid (fun w hT => Add_known y z 3 hy hz e3 w hT)
  have Am := Lib.hid (fun w hT => Add_known y z mode hy hz hm w hT)
  have PLA := Lib.hid (fun bv gv Mv Ev hE hl hv w hI => pair_law (addWd y z 4) (addWd y z 3) _ (addFl y z 3) PA bv gv Mv Ev hE hl hv w hI)
  have ALA := Lib.hid (fun w => amongst_law (addWd y z mode) (addWd y z 4) (addWd y z 3) (isN_no PA.2.2.1) (isN_no PA.2.2.2.1) ANA w)
  clear RA PA ANA
  generalize addWd y z 4 = aw4 at *
  generalize addWd y z 3 = aw3 at *
  generalize addWd y z mode = awm at *
  generalize addFl y z 4 = al4 at *
  generalize addFl y z 3 = al3 at *
  generalize addFl y z mode = alm at *
  have RM := rnd_mul hy hz fy fz
  have PM := pair_rnd RM
  have ANM := amongst_rnd RM hm
  have M4 := Lib.hid (fun w hT => Mul_known y z 4 hy hz e4 w hT)
  have M3 := Lib.hid (fun w hT => Mul_known y z 3 hy hz e3 w hT)
  have Mm := Lib.hid (fun w hT => Mul_known y z mode hy hz hm w hT)
  have PLM := Lib.hid (fun bv gv Mv Ev hE hl hv w hI => pair_law (mulWd y z 4) (mulWd y z 3) _ (mulFl y z 3) PM bv gv Mv Ev hE hl hv w hI)
  have ALM := Lib.hid (fun w => amongst_law (mulWd y z mode) (mulWd y z 4) (mulWd y z 3) (isN_no PM.2.2.1) (isN_no PM.2.2.2.1) ANM w)
  clear RM PM ANM
  generalize mulWd y z 4 = mw4 at *
  generalize mulWd y z 3 = mw3 at *
  generalize mulWd y z mode = mwm at *
  generalize mulFl y z 4 = ml4 at *
  generalize mulFl y z 3 = ml3 at *
  generalize mulFl y z mode = mlm at *
  have RF := rnd_fus hy hz hy fy fz fy
  have PF := pair_rnd RF
  have ANF := amongst_rnd RF hm
  have F4 := Lib.hid (fun w hT => Fused_known y z y 4 hy hz hy (prod_small hy hz) e4 w hT)
  have F3 := Lib.hid (fun w hT => Fused_known y z y 3 hy hz hy (prod_small hy hz) e3 w hT)
  have Fm := Lib.hid (fun w hT => Fused_known y z y mode hy hz hy (prod_small hy hz) hm w hT)
  have PLF := Lib.hid (fun bv gv Mv Ev hE hl hv w hI => pair_law (fusWd y z y 4) (fusWd y z y 3) _ (fusFl y z y 3) PF bv gv Mv Ev hE hl hv w hI)
  have ALF := Lib.hid (fun w => amongst_law (fusWd y z y mode) (fusWd y z y 4) (fusWd y z y 3) (isN_no PF.2.2.1) (isN_no PF.2.2.2.1) ANF w)
  clear RF PF ANF
  generalize fusWd y z y 4 = fw4 at *
  generalize fusWd y z y 3 = fw3 at *
  generalize fusWd y z y mode = fwm at *
  generalize fusFl y z y 4 = fl4 at *
  generalize fusFl y z y 3 = fl3 at *
  generalize fusFl y z y mode = flm at *
  rw [ky] at OY
  rw [kz] at OZ
  have SUMA := Lib.hid (fun ga gb w h1 h2 => sum_two hy hz fy fz ga gb w h1 h2)
  have TIM := Lib.hid (fun ga gb w h1 h2 => times_two fy fz ga gb w h1 h2)
  have SUMF := Lib.hid (fun g ga w h1 h2 => sum_fus hy fy fz fy g ga w h1 h2)
  rw [ky, kz] at SUMA TIM
  rw [ky] at SUMF
  have PLT := Lib.hid (fun gv w hI => PLM.out (nS y != nS z) gv (mS y * mS z) (eS y + eS z) (prod_exp y z ky kz) (Nat.le_trans (prod_len y z) (by decide)) (prod_amt fy fz) w hI)
  clear PLM
  generalize Fp.val (ngS y ^^ ngS z) (prodN y z) = vM at *
  generalize uS y = uy at *
  generalize uS z = uz at *
  clear hx hy hz hm fx fy fz ky kz y3 z3 e4 e3
  generalize kD x = kv at *
  generalize nD x = nv at *
  generalize eD x = ev at *
  generalize mD x = mv at *
  generalize nS y = na at *
  generalize eS y = ea at *
  generalize mS y = ma at *
  generalize nS z = nb at *
  generalize eS z = eb at *
  generalize mS z = mb at *
  go_enter Tryd.func9, Tryd.ntmps9
  go_wp2_with fail
  refine (AW.out _ HT.out).mono ?_; rintro e1 w1 ⟨rfl, hb1⟩
  go_wp2_with fail
  refine (OX.out _).mono ?_; rintro e2 w2 ⟨gv, rfl, Iv, _, hb2⟩
  have hw2 := hb1.trans hb2
  go_wp2_with fail
  refine (OY.out _).mono ?_; rintro e3 w3 ⟨ga, rfl, Ia, _, hb3⟩
  have hw3 := hw2.trans hb3
  have Iv := Iv.of hb3
  go_wp2_with fail
  refine (OZ.out _).mono ?_; rintro e4 w4 ⟨gb, rfl, Ib, _, hb4⟩
  have hw4 := hw3.trans hb4
  have Iv := Iv.of hb4; have Ia := Ia.of hb4
  clear hb1 hb2 hb3 hb4 hw2 hw3
  obtain ⟨V1, hV1⟩ : ∃ W, W = w4.alloc (.cells #[.int .i64 kv, .bool nv, .pointer (some ⟨gv, 0, none⟩), .int .i64 ev] 26) := ⟨_, rfl⟩
  obtain ⟨V2, hV2⟩ : ∃ W, W = V1.alloc (.cells #[.int .i64 0, .bool na, .pointer (some ⟨ga, 0, none⟩), .int .i64 ea] 26) := ⟨_, rfl⟩
  obtain ⟨W2, hW2⟩ : ∃ W, W = V2.alloc (.cells #[.int .i64 0, .bool nb, .pointer (some ⟨gb, 0, none⟩), .int .i64 eb] 26) := ⟨_, rfl⟩
  have z1 : V1.heap.size = w4.heap.size + 1 := by rw [hV1]; simp
  have z2 : V2.heap.size = w4.heap.size + 2 := by rw [hV2]; simp [z1]
  have zW : W2.heap.size = w4.heap.size + 3 := by rw [hW2]; simp [z2]
  have u1 : Within w4 V1 := by rw [hV1]; exact (Within.refl _).alloc _
  have u2 : Within V1 V2 := by rw [hV2]; exact (Within.refl _).alloc _
  have u3 : Within V2 W2 := by rw [hW2]; exact (Within.refl _).alloc _
  have hv3 := (u1.trans u2).trans u3
  have v0_W2 : W2.cell? ⟨w4.heap.size, 0, none⟩ = some (.int .i64 kv) := ((u2.trans u3).cells _ _ (by omega)).trans (by rw [hV1]; simp)
  have v1_W2 : W2.cell? ⟨w4.heap.size, 1, none⟩ = some (.bool nv) := ((u2.trans u3).cells _ _ (by omega)).trans (by rw [hV1]; simp)
  have v2_W2 : W2.cell? ⟨w4.heap.size, 2, none⟩ = some (.pointer (some ⟨gv, 0, none⟩)) := ((u2.trans u3).cells _ _ (by omega)).trans (by rw [hV1]; simp)
  have v3_W2 : W2.cell? ⟨w4.heap.size, 3, none⟩ = some (.int .i64 ev) := ((u2.trans u3).cells _ _ (by omega)).trans (by rw [hV1]; simp)
  have a0_W2 : W2.cell? ⟨w4.heap.size + 1, 0, none⟩ = some (.int .i64 0) := (u3.cells _ _ (by omega)).trans (by rw [← z1, hV2]; simp)
  have a1_W2 : W2.cell? ⟨w4.heap.size + 1, 1, none⟩ = some (.bool na) := (u3.cells _ _ (by omega)).trans (by rw [← z1, hV2]; simp)
  have a2_W2 : W2.cell? ⟨w4.heap.size + 1, 2, none⟩ = some (.pointer (some ⟨ga, 0, none⟩)) := (u3.cells _ _ (by omega)).trans (by rw [← z1, hV2]; simp)
  have a3_W2 : W2.cell? ⟨w4.heap.size + 1, 3, none⟩ = some (.int .i64 ea) := (u3.cells _ _ (by omega)).trans (by rw [← z1, hV2]; simp)
  have b0_W2 : W2.cell? ⟨w4.heap.size + 2, 0, none⟩ = some (.int .i64 0) := by rw [← z2, hW2]; simp
  have b1_W2 : W2.cell? ⟨w4.heap.size + 2, 1, none⟩ = some (.bool nb) := by rw [← z2, hW2]; simp
  have b2_W2 : W2.cell? ⟨w4.heap.size + 2, 2, none⟩ = some (.pointer (some ⟨gb, 0, none⟩)) := by rw [← z2, hW2]; simp
  have b3_W2 : W2.cell? ⟨w4.heap.size + 2, 3, none⟩ = some (.int .i64 eb) := by rw [← z2, hW2]; simp
  have sv_W2 : w4.heap.size < W2.heap.size := by omega
  have sa_W2 : w4.heap.size + 1 < W2.heap.size := by omega
  have sb_W2 : w4.heap.size + 2 < W2.heap.size := by omega
  have Iv_W2 := Iv.of hv3; have Ia_W2 := Ia.of hv3; have Ib_W2 := Ib.of hv3
  have hw_W2 := hw4.trans hv3
  clear hv3 hw4 Iv Ia Ib zW z1 z2 u1 u2 u3
  go_wp2_with fail
  rw [← hV1, ← hV2, ← hW2]
  clear hV1 hV2 hW2
  refine (g_any y _).mono ?_; rintro eq wq ⟨rfl, rfl⟩
  go_wp2_with fail
  refine (g_any z _).mono ?_; rintro eq wq ⟨rfl, rfl⟩
  go_wp2_with fail
  refine (A4.out _ (HT.out.of hw_W2)).mono ?_; rintro e5 w5 ⟨rfl, h5⟩
  have v0_w5 := (h5.cells _ _ sv_W2).trans v0_W2
  have v1_w5 := (h5.cells _ _ sv_W2).trans v1_W2
  have v2_w5 := (h5.cells _ _ sv_W2).trans v2_W2
  have v3_w5 := (h5.cells _ _ sv_W2).trans v3_W2
  have a0_w5 := (h5.cells _ _ sa_W2).trans a0_W2
  have a1_w5 := (h5.cells _ _ sa_W2).trans a1_W2
  have a2_w5 := (h5.cells _ _ sa_W2).trans a2_W2
  have a3_w5 := (h5.cells _ _ sa_W2).trans a3_W2
  have b0_w5 := (h5.cells _ _ sb_W2).trans b0_W2
  have b1_w5 := (h5.cells _ _ sb_W2).trans b1_W2
  have b2_w5 := (h5.cells _ _ sb_W2).trans b2_W2
  have b3_w5 := (h5.cells _ _ sb_W2).trans b3_W2
  have sv_w5 := Nat.lt_of_lt_of_le sv_W2 h5.size
  have sa_w5 := Nat.lt_of_lt_of_le sa_W2 h5.size
  have sb_w5 := Nat.lt_of_lt_of_le sb_W2 h5.size
  have Iv_w5 := Iv_W2.of h5
  have Ia_w5 := Ia_W2.of h5
  have Ib_w5 := Ib_W2.of h5
  have hw_w5 := hw_W2.trans h5
  clear v0_W2 v1_W2 v2_W2 v3_W2 a0_W2 a1_W2 a2_W2 a3_W2 b0_W2 b1_W2 b2_W2 b3_W2 sv_W2 sa_W2 sb_W2 Iv_W2 Ia_W2 Ib_W2 hw_W2 h5
  go_wp2_with fail
  refine (g_any y _).mono ?_; rintro eq wq ⟨rfl, rfl⟩
  go_wp2_with fail
  refine (g_any z _).mono ?_; rintro eq wq ⟨rfl, rfl⟩
  go_wp2_with fail
  refine (A3.out _ (HT.out.of hw_w5)).mono ?_; rintro e6 w6 ⟨rfl, h6⟩
  have v0_w6 := (h6.cells _ _ sv_w5).trans v0_w5
  have v1_w6 := (h6.cells _ _ sv_w5).trans v1_w5
  have v2_w6 := (h6.cells _ _ sv_w5).trans v2_w5
  have v3_w6 := (h6.cells _ _ sv_w5).trans v3_w5
  have a0_w6 := (h6.cells _ _ sa_w5).trans a0_w5
  have a1_w6 := (h6.cells _ _ sa_w5).trans a1_w5
  have a2_w6 := (h6.cells _ _ sa_w5).trans a2_w5
  have a3_w6 := (h6.cells _ _ sa_w5).trans a3_w5
  have b0_w6 := (h6.cells _ _ sb_w5).trans b0_w5
  have b1_w6 := (h6.cells _ _ sb_w5).trans b1_w5
  have b2_w6 := (h6.cells _ _ sb_w5).trans b2_w5
  have b3_w6 := (h6.cells _ _ sb_w5).trans b3_w5
  have sv_w6 := Nat.lt_of_lt_of_le sv_w5 h6.size
  have sa_w6 := Nat.lt_of_lt_of_le sa_w5 h6.size
  have sb_w6 := Nat.lt_of_lt_of_le sb_w5 h6.size
  have Iv_w6 := Iv_w5.of h6
  have Ia_w6 := Ia_w5.of h6
  have Ib_w6 := Ib_w5.of h6
  have hw_w6 := hw_w5.trans h6
  clear v0_w5 v1_w5 v2_w5 v3_w5 a0_w5 a1_w5 a2_w5 a3_w5 b0_w5 b1_w5 b2_w5 b3_w5 sv_w5 sa_w5 sb_w5 Iv_w5 Ia_w5 Ib_w5 hw_w5 h6
  go_wp2_with fail
  refine (g_any y _).mono ?_; rintro eq wq ⟨rfl, rfl⟩
  go_wp2_with fail
  refine (g_any z _).mono ?_; rintro eq wq ⟨rfl, rfl⟩
  go_wp2_with fail
  refine (Am.out _ (HT.out.of hw_w6)).mono ?_; rintro e7 w7 ⟨rfl, h7⟩
  have v0_w7 := (h7.cells _ _ sv_w6).trans v0_w6
  have v1_w7 := (h7.cells _ _ sv_w6).trans v1_w6
  have v2_w7 := (h7.cells _ _ sv_w6).trans v2_w6
  have v3_w7 := (h7.cells _ _ sv_w6).trans v3_w6
  have a0_w7 := (h7.cells _ _ sa_w6).trans a0_w6
  have a1_w7 := (h7.cells _ _ sa_w6).trans a1_w6
  have a2_w7 := (h7.cells _ _ sa_w6).trans a2_w6
  have a3_w7 := (h7.cells _ _ sa_w6).trans a3_w6
  have b0_w7 := (h7.cells _ _ sb_w6).trans b0_w6
  have b1_w7 := (h7.cells _ _ sb_w6).trans b1_w6
  have b2_w7 := (h7.cells _ _ sb_w6).trans b2_w6
  have b3_w7 := (h7.cells _ _ sb_w6).trans b3_w6
  have sv_w7 := Nat.lt_of_lt_of_le sv_w6 h7.size
  have sa_w7 := Nat.lt_of_lt_of_le sa_w6 h7.size
  have sb_w7 := Nat.lt_of_lt_of_le sb_w6 h7.size
  have Iv_w7 := Iv_w6.of h7
  have Ia_w7 := Ia_w6.of h7
  have Ib_w7 := Ib_w6.of h7
  have hw_w7 := hw_w6.trans h7
  clear v0_w6 v1_w6 v2_w6 v3_w6 a0_w6 a1_w6 a2_w6 a3_w6 b0_w6 b1_w6 b2_w6 b3_w6 sv_w6 sa_w6 sb_w6 Iv_w6 Ia_w6 Ib_w6 hw_w6 h7
  go_wp2_with fail
  refine (SUMA.out _ _ _ Ia_w7 Ib_w7).mono ?_; rintro e8 w8 ⟨b1, g1, M1, E1, rfl, I1, hE1, hl1, hv1, h8⟩
  have v0_w8 := (h8.cells _ _ sv_w7).trans v0_w7
  have v1_w8 := (h8.cells _ _ sv_w7).trans v1_w7
  have v2_w8 := (h8.cells _ _ sv_w7).trans v2_w7
  have v3_w8 := (h8.cells _ _ sv_w7).trans v3_w7
  have a0_w8 := (h8.cells _ _ sa_w7).trans a0_w7
  have a1_w8 := (h8.cells _ _ sa_w7).trans a1_w7
  have a2_w8 := (h8.cells _ _ sa_w7).trans a2_w7
  have a3_w8 := (h8.cells _ _ sa_w7).trans a3_w7
  have b0_w8 := (h8.cells _ _ sb_w7).trans b0_w7
  have b1_w8 := (h8.cells _ _ sb_w7).trans b1_w7
  have b2_w8 := (h8.cells _ _ sb_w7).trans b2_w7
  have b3_w8 := (h8.cells _ _ sb_w7).trans b3_w7
  have sv_w8 := Nat.lt_of_lt_of_le sv_w7 h8.size
  have sa_w8 := Nat.lt_of_lt_of_le sa_w7 h8.size
  have sb_w8 := Nat.lt_of_lt_of_le sb_w7 h8.size
  have Iv_w8 := Iv_w7.of h8
  have Ia_w8 := Ia_w7.of h8
  have Ib_w8 := Ib_w7.of h8
  have hw_w8 := hw_w7.trans h8
  clear v0_w7 v1_w7 v2_w7 v3_w7 a0_w7 a1_w7 a2_w7 a3_w7 b0_w7 b1_w7 b2_w7 b3_w7 sv_w7 sa_w7 sb_w7 Iv_w7 Ia_w7 Ib_w7 hw_w7 h8
  go_wp2_with fail
  refine (PLA.out _ _ _ _ hE1 hl1 hv1 _ I1).mono ?_; rintro e9 w9 ⟨rfl, h9⟩
  have v0_w9 := (h9.cells _ _ sv_w8).trans v0_w8
  have v1_w9 := (h9.cells _ _ sv_w8).trans v1_w8
  have v2_w9 := (h9.cells _ _ sv_w8).trans v2_w8
  have v3_w9 := (h9.cells _ _ sv_w8).trans v3_w8
  have a0_w9 := (h9.cells _ _ sa_w8).trans a0_w8
  have a1_w9 := (h9.cells _ _ sa_w8).trans a1_w8
  have a2_w9 := (h9.cells _ _ sa_w8).trans a2_w8
  have a3_w9 := (h9.cells _ _ sa_w8).trans a3_w8
  have b0_w9 := (h9.cells _ _ sb_w8).trans b0_w8
  have b1_w9 := (h9.cells _ _ sb_w8).trans b1_w8
  have b2_w9 := (h9.cells _ _ sb_w8).trans b2_w8
  have b3_w9 := (h9.cells _ _ sb_w8).trans b3_w8
  have sv_w9 := Nat.lt_of_lt_of_le sv_w8 h9.size
  have sa_w9 := Nat.lt_of_lt_of_le sa_w8 h9.size
  have sb_w9 := Nat.lt_of_lt_of_le sb_w8 h9.size
  have Iv_w9 := Iv_w8.of h9
  have Ia_w9 := Ia_w8.of h9
  have Ib_w9 := Ib_w8.of h9
  have hw_w9 := hw_w8.trans h9
  clear v0_w8 v1_w8 v2_w8 v3_w8 a0_w8 a1_w8 a2_w8 a3_w8 b0_w8 b1_w8 b2_w8 b3_w8 sv_w8 sa_w8 sb_w8 Iv_w8 Ia_w8 Ib_w8 hw_w8 h9
  clear I1 hE1 hl1 hv1
  go_wp2_with fail
  refine (ALA.out _).mono ?_; rintro e10 w10 ⟨rfl, h10⟩
  have v0_w10 := (h10.cells _ _ sv_w9).trans v0_w9
  have v1_w10 := (h10.cells _ _ sv_w9).trans v1_w9
  have v2_w10 := (h10.cells _ _ sv_w9).trans v2_w9
  have v3_w10 := (h10.cells _ _ sv_w9).trans v3_w9
  have a0_w10 := (h10.cells _ _ sa_w9).trans a0_w9
  have a1_w10 := (h10.cells _ _ sa_w9).trans a1_w9
  have a2_w10 := (h10.cells _ _ sa_w9).trans a2_w9
  have a3_w10 := (h10.cells _ _ sa_w9).trans a3_w9
  have b0_w10 := (h10.cells _ _ sb_w9).trans b0_w9
  have b1_w10 := (h10.cells _ _ sb_w9).trans b1_w9
  have b2_w10 := (h10.cells _ _ sb_w9).trans b2_w9
  have b3_w10 := (h10.cells _ _ sb_w9).trans b3_w9
  have sv_w10 := Nat.lt_of_lt_of_le sv_w9 h10.size
  have sa_w10 := Nat.lt_of_lt_of_le sa_w9 h10.size
  have sb_w10 := Nat.lt_of_lt_of_le sb_w9 h10.size
  have Iv_w10 := Iv_w9.of h10
  have Ia_w10 := Ia_w9.of h10
  have Ib_w10 := Ib_w9.of h10
  have hw_w10 := hw_w9.trans h10
  clear v0_w9 v1_w9 v2_w9 v3_w9 a0_w9 a1_w9 a2_w9 a3_w9 b0_w9 b1_w9 b2_w9 b3_w9 sv_w9 sa_w9 sb_w9 Iv_w9 Ia_w9 Ib_w9 hw_w9 h10
  go_wp2_with fail
  refine (g_any y _).mono ?_; rintro eq wq ⟨rfl, rfl⟩
  go_wp2_with fail
  refine (g_any z _).mono ?_; rintro eq wq ⟨rfl, rfl⟩
  go_wp2_with fail
  refine (M4.out _ (HT.out.of hw_w10)).mono ?_; rintro e11 w11 ⟨rfl, h11⟩
  have v0_w11 := (h11.cells _ _ sv_w10).trans v0_w10
  have v1_w11 := (h11.cells _ _ sv_w10).trans v1_w10
  have v2_w11 := (h11.cells _ _ sv_w10).trans v2_w10
  have v3_w11 := (h11.cells _ _ sv_w10).trans v3_w10
  have a0_w11 := (h11.cells _ _ sa_w10).trans a0_w10
  have a1_w11 := (h11.cells _ _ sa_w10).trans a1_w10
  have a2_w11 := (h11.cells _ _ sa_w10).trans a2_w10
  have a3_w11 := (h11.cells _ _ sa_w10).trans a3_w10
  have b0_w11 := (h11.cells _ _ sb_w10).trans b0_w10
  have b1_w11 := (h11.cells _ _ sb_w10).trans b1_w10
  have b2_w11 := (h11.cells _ _ sb_w10).trans b2_w10
  have b3_w11 := (h11.cells _ _ sb_w10).trans b3_w10
  have sv_w11 := Nat.lt_of_lt_of_le sv_w10 h11.size
  have sa_w11 := Nat.lt_of_lt_of_le sa_w10 h11.size
  have sb_w11 := Nat.lt_of_lt_of_le sb_w10 h11.size
  have Iv_w11 := Iv_w10.of h11
  have Ia_w11 := Ia_w10.of h11
  have Ib_w11 := Ib_w10.of h11
  have hw_w11 := hw_w10.trans h11
  clear v0_w10 v1_w10 v2_w10 v3_w10 a0_w10 a1_w10 a2_w10 a3_w10 b0_w10 b1_w10 b2_w10 b3_w10 sv_w10 sa_w10 sb_w10 Iv_w10 Ia_w10 Ib_w10 hw_w10 h11
  go_wp2_with fail
  refine (g_any y _).mono ?_; rintro eq wq ⟨rfl, rfl⟩
  go_wp2_with fail
  refine (g_any z _).mono ?_; rintro eq wq ⟨rfl, rfl⟩
  go_wp2_with fail
  refine (M3.out _ (HT.out.of hw_w11)).mono ?_; rintro e12 w12 ⟨rfl, h12⟩
  have v0_w12 := (h12.cells _ _ sv_w11).trans v0_w11
  have v1_w12 := (h12.cells _ _ sv_w11).trans v1_w11
  have v2_w12 := (h12.cells _ _ sv_w11).trans v2_w11
  have v3_w12 := (h12.cells _ _ sv_w11).trans v3_w11
  have a0_w12 := (h12.cells _ _ sa_w11).trans a0_w11
  have a1_w12 := (h12.cells _ _ sa_w11).trans a1_w11
  have a2_w12 := (h12.cells _ _ sa_w11).trans a2_w11
  have a3_w12 := (h12.cells _ _ sa_w11).trans a3_w11
  have b0_w12 := (h12.cells _ _ sb_w11).trans b0_w11
  have b1_w12 := (h12.cells _ _ sb_w11).trans b1_w11
  have b2_w12 := (h12.cells _ _ sb_w11).trans b2_w11
  have b3_w12 := (h12.cells _ _ sb_w11).trans b3_w11
  have sv_w12 := Nat.lt_of_lt_of_le sv_w11 h12.size
  have sa_w12 := Nat.lt_of_lt_of_le sa_w11 h12.size
  have sb_w12 := Nat.lt_of_lt_of_le sb_w11 h12.size
  have Iv_w12 := Iv_w11.of h12
  have Ia_w12 := Ia_w11.of h12
  have Ib_w12 := Ib_w11.of h12
  have hw_w12 := hw_w11.trans h12
  clear v0_w11 v1_w11 v2_w11 v3_w11 a0_w11 a1_w11 a2_w11 a3_w11 b0_w11 b1_w11 b2_w11 b3_w11 sv_w11 sa_w11 sb_w11 Iv_w11 Ia_w11 Ib_w11 hw_w11 h12
  go_wp2_with fail
  refine (g_any y _).mono ?_; rintro eq wq ⟨rfl, rfl⟩
  go_wp2_with fail
  refine (g_any z _).mono ?_; rintro eq wq ⟨rfl, rfl⟩
  go_wp2_with fail
  refine (Mm.out _ (HT.out.of hw_w12)).mono ?_; rintro e13 w13 ⟨rfl, h13⟩
  have v0_w13 := (h13.cells _ _ sv_w12).trans v0_w12
  have v1_w13 := (h13.cells _ _ sv_w12).trans v1_w12
  have v2_w13 := (h13.cells _ _ sv_w12).trans v2_w12
  have v3_w13 := (h13.cells _ _ sv_w12).trans v3_w12
  have a0_w13 := (h13.cells _ _ sa_w12).trans a0_w12
  have a1_w13 := (h13.cells _ _ sa_w12).trans a1_w12
  have a2_w13 := (h13.cells _ _ sa_w12).trans a2_w12
  have a3_w13 := (h13.cells _ _ sa_w12).trans a3_w12
  have b0_w13 := (h13.cells _ _ sb_w12).trans b0_w12
  have b1_w13 := (h13.cells _ _ sb_w12).trans b1_w12
  have b2_w13 := (h13.cells _ _ sb_w12).trans b2_w12
  have b3_w13 := (h13.cells _ _ sb_w12).trans b3_w12
  have sv_w13 := Nat.lt_of_lt_of_le sv_w12 h13.size
  have sa_w13 := Nat.lt_of_lt_of_le sa_w12 h13.size
  have sb_w13 := Nat.lt_of_lt_of_le sb_w12 h13.size
  have Iv_w13 := Iv_w12.of h13
  have Ia_w13 := Ia_w12.of h13
  have Ib_w13 := Ib_w12.of h13
  have hw_w13 := hw_w12.trans h13
  clear v0_w12 v1_w12 v2_w12 v3_w12 a0_w12 a1_w12 a2_w12 a3_w12 b0_w12 b1_w12 b2_w12 b3_w12 sv_w12 sa_w12 sb_w12 Iv_w12 Ia_w12 Ib_w12 hw_w12 h13
  go_wp2_with fail
  refine (TIM.out _ _ _ Ia_w13 Ib_w13).mono ?_; rintro e14 w14 ⟨g2, rfl, I2, h14⟩
  have v0_w14 := (h14.cells _ _ sv_w13).trans v0_w13
  have v1_w14 := (h14.cells _ _ sv_w13).trans v1_w13
  have v2_w14 := (h14.cells _ _ sv_w13).trans v2_w13
  have v3_w14 := (h14.cells _ _ sv_w13).trans v3_w13
  have a0_w14 := (h14.cells _ _ sa_w13).trans a0_w13
  have a1_w14 := (h14.cells _ _ sa_w13).trans a1_w13
  have a2_w14 := (h14.cells _ _ sa_w13).trans a2_w13
  have a3_w14 := (h14.cells _ _ sa_w13).trans a3_w13
  have b0_w14 := (h14.cells _ _ sb_w13).trans b0_w13
  have b1_w14 := (h14.cells _ _ sb_w13).trans b1_w13
  have b2_w14 := (h14.cells _ _ sb_w13).trans b2_w13
  have b3_w14 := (h14.cells _ _ sb_w13).trans b3_w13
  have sv_w14 := Nat.lt_of_lt_of_le sv_w13 h14.size
  have sa_w14 := Nat.lt_of_lt_of_le sa_w13 h14.size
  have sb_w14 := Nat.lt_of_lt_of_le sb_w13 h14.size
  have Iv_w14 := Iv_w13.of h14
  have Ia_w14 := Ia_w13.of h14
  have Ib_w14 := Ib_w13.of h14
  have hw_w14 := hw_w13.trans h14
  clear v0_w13 v1_w13 v2_w13 v3_w13 a0_w13 a1_w13 a2_w13 a3_w13 b0_w13 b1_w13 b2_w13 b3_w13 sv_w13 sa_w13 sb_w13 Iv_w13 Ia_w13 Ib_w13 hw_w13 h14
  go_wp2_with fail
  refine (PLT.out _ _ I2).mono ?_; rintro e15 w15 ⟨rfl, h15⟩
  have v0_w15 := (h15.cells _ _ sv_w14).trans v0_w14
  have v1_w15 := (h15.cells _ _ sv_w14).trans v1_w14
  have v2_w15 := (h15.cells _ _ sv_w14).trans v2_w14
  have v3_w15 := (h15.cells _ _ sv_w14).trans v3_w14
  have a0_w15 := (h15.cells _ _ sa_w14).trans a0_w14
  have a1_w15 := (h15.cells _ _ sa_w14).trans a1_w14
  have a2_w15 := (h15.cells _ _ sa_w14).trans a2_w14
  have a3_w15 := (h15.cells _ _ sa_w14).trans a3_w14
  have b0_w15 := (h15.cells _ _ sb_w14).trans b0_w14
  have b1_w15 := (h15.cells _ _ sb_w14).trans b1_w14
  have b2_w15 := (h15.cells _ _ sb_w14).trans b2_w14
  have b3_w15 := (h15.cells _ _ sb_w14).trans b3_w14
  have sv_w15 := Nat.lt_of_lt_of_le sv_w14 h15.size
  have sa_w15 := Nat.lt_of_lt_of_le sa_w14 h15.size
  have sb_w15 := Nat.lt_of_lt_of_le sb_w14 h15.size
  have Iv_w15 := Iv_w14.of h15
  have Ia_w15 := Ia_w14.of h15
  have Ib_w15 := Ib_w14.of h15
  have hw_w15 := hw_w14.trans h15
  clear v0_w14 v1_w14 v2_w14 v3_w14 a0_w14 a1_w14 a2_w14 a3_w14 b0_w14 b1_w14 b2_w14 b3_w14 sv_w14 sa_w14 sb_w14 Iv_w14 Ia_w14 Ib_w14 hw_w14 h15
  clear I2
  go_wp2_with fail
  refine (ALM.out _).mono ?_; rintro e16 w16 ⟨rfl, h16⟩
  have v0_w16 := (h16.cells _ _ sv_w15).trans v0_w15
  have v1_w16 := (h16.cells _ _ sv_w15).trans v1_w15
  have v2_w16 := (h16.cells _ _ sv_w15).trans v2_w15
  have v3_w16 := (h16.cells _ _ sv_w15).trans v3_w15
  have a0_w16 := (h16.cells _ _ sa_w15).trans a0_w15
  have a1_w16 := (h16.cells _ _ sa_w15).trans a1_w15
  have a2_w16 := (h16.cells _ _ sa_w15).trans a2_w15
  have a3_w16 := (h16.cells _ _ sa_w15).trans a3_w15
  have b0_w16 := (h16.cells _ _ sb_w15).trans b0_w15
  have b1_w16 := (h16.cells _ _ sb_w15).trans b1_w15
  have b2_w16 := (h16.cells _ _ sb_w15).trans b2_w15
  have b3_w16 := (h16.cells _ _ sb_w15).trans b3_w15
  have sv_w16 := Nat.lt_of_lt_of_le sv_w15 h16.size
  have sa_w16 := Nat.lt_of_lt_of_le sa_w15 h16.size
  have sb_w16 := Nat.lt_of_lt_of_le sb_w15 h16.size
  have Iv_w16 := Iv_w15.of h16
  have Ia_w16 := Ia_w15.of h16
  have Ib_w16 := Ib_w15.of h16
  have hw_w16 := hw_w15.trans h16
  clear v0_w15 v1_w15 v2_w15 v3_w15 a0_w15 a1_w15 a2_w15 a3_w15 b0_w15 b1_w15 b2_w15 b3_w15 sv_w15 sa_w15 sb_w15 Iv_w15 Ia_w15 Ib_w15 hw_w15 h16
  go_wp2_with fail
  refine (g_any y _).mono ?_; rintro eq wq ⟨rfl, rfl⟩
  go_wp2_with fail
  refine (g_any z _).mono ?_; rintro eq wq ⟨rfl, rfl⟩
  go_wp2_with fail
  refine (g_any y _).mono ?_; rintro eq wq ⟨rfl, rfl⟩
  go_wp2_with fail
  refine (F4.out _ (HT.out.of hw_w16)).mono ?_; rintro e17 w17 ⟨rfl, h17⟩
  have v0_w17 := (h17.cells _ _ sv_w16).trans v0_w16
  have v1_w17 := (h17.cells _ _ sv_w16).trans v1_w16
  have v2_w17 := (h17.cells _ _ sv_w16).trans v2_w16
  have v3_w17 := (h17.cells _ _ sv_w16).trans v3_w16
  have a0_w17 := (h17.cells _ _ sa_w16).trans a0_w16
  have a1_w17 := (h17.cells _ _ sa_w16).trans a1_w16
  have a2_w17 := (h17.cells _ _ sa_w16).trans a2_w16
  have a3_w17 := (h17.cells _ _ sa_w16).trans a3_w16
  have b0_w17 := (h17.cells _ _ sb_w16).trans b0_w16
  have b1_w17 := (h17.cells _ _ sb_w16).trans b1_w16
  have b2_w17 := (h17.cells _ _ sb_w16).trans b2_w16
  have b3_w17 := (h17.cells _ _ sb_w16).trans b3_w16
  have sv_w17 := Nat.lt_of_lt_of_le sv_w16 h17.size
  have sa_w17 := Nat.lt_of_lt_of_le sa_w16 h17.size
  have sb_w17 := Nat.lt_of_lt_of_le sb_w16 h17.size
  have Iv_w17 := Iv_w16.of h17
  have Ia_w17 := Ia_w16.of h17
  have Ib_w17 := Ib_w16.of h17
  have hw_w17 := hw_w16.trans h17
  clear v0_w16 v1_w16 v2_w16 v3_w16 a0_w16 a1_w16 a2_w16 a3_w16 b0_w16 b1_w16 b2_w16 b3_w16 sv_w16 sa_w16 sb_w16 Iv_w16 Ia_w16 Ib_w16 hw_w16 h17
  go_wp2_with fail
  refine (g_any y _).mono ?_; rintro eq wq ⟨rfl, rfl⟩
  go_wp2_with fail
  refine (g_any z _).mono ?_; rintro eq wq ⟨rfl, rfl⟩
  go_wp2_with fail
  refine (g_any y _).mono ?_; rintro eq wq ⟨rfl, rfl⟩
  go_wp2_with fail
  refine (F3.out _ (HT.out.of hw_w17)).mono ?_; rintro e18 w18 ⟨rfl, h18⟩
  have v0_w18 := (h18.cells _ _ sv_w17).trans v0_w17
  have v1_w18 := (h18.cells _ _ sv_w17).trans v1_w17
  have v2_w18 := (h18.cells _ _ sv_w17).trans v2_w17
  have v3_w18 := (h18.cells _ _ sv_w17).trans v3_w17
  have a0_w18 := (h18.cells _ _ sa_w17).trans a0_w17
  have a1_w18 := (h18.cells _ _ sa_w17).trans a1_w17
  have a2_w18 := (h18.cells _ _ sa_w17).trans a2_w17
  have a3_w18 := (h18.cells _ _ sa_w17).trans a3_w17
  have b0_w18 := (h18.cells _ _ sb_w17).trans b0_w17
  have b1_w18 := (h18.cells _ _ sb_w17).trans b1_w17
  have b2_w18 := (h18.cells _ _ sb_w17).trans b2_w17
  have b3_w18 := (h18.cells _ _ sb_w17).trans b3_w17
  have sv_w18 := Nat.lt_of_lt_of_le sv_w17 h18.size
  have sa_w18 := Nat.lt_of_lt_of_le sa_w17 h18.size
  have sb_w18 := Nat.lt_of_lt_of_le sb_w17 h18.size
  have Iv_w18 := Iv_w17.of h18
  have Ia_w18 := Ia_w17.of h18
  have Ib_w18 := Ib_w17.of h18
  have hw_w18 := hw_w17.trans h18
  clear v0_w17 v1_w17 v2_w17 v3_w17 a0_w17 a1_w17 a2_w17 a3_w17 b0_w17 b1_w17 b2_w17 b3_w17 sv_w17 sa_w17 sb_w17 Iv_w17 Ia_w17 Ib_w17 hw_w17 h18
  go_wp2_with fail
  refine (g_any y _).mono ?_; rintro eq wq ⟨rfl, rfl⟩
  go_wp2_with fail
  refine (g_any z _).mono ?_; rintro eq wq ⟨rfl, rfl⟩
  go_wp2_with fail
  refine (g_any y _).mono ?_; rintro eq wq ⟨rfl, rfl⟩
  go_wp2_with fail
  refine (Fm.out _ (HT.out.of hw_w18)).mono ?_; rintro e19 w19 ⟨rfl, h19⟩
  have v0_w19 := (h19.cells _ _ sv_w18).trans v0_w18
  have v1_w19 := (h19.cells _ _ sv_w18).trans v1_w18
  have v2_w19 := (h19.cells _ _ sv_w18).trans v2_w18
  have v3_w19 := (h19.cells _ _ sv_w18).trans v3_w18
  have a0_w19 := (h19.cells _ _ sa_w18).trans a0_w18
  have a1_w19 := (h19.cells _ _ sa_w18).trans a1_w18
  have a2_w19 := (h19.cells _ _ sa_w18).trans a2_w18
  have a3_w19 := (h19.cells _ _ sa_w18).trans a3_w18
  have b0_w19 := (h19.cells _ _ sb_w18).trans b0_w18
  have b1_w19 := (h19.cells _ _ sb_w18).trans b1_w18
  have b2_w19 := (h19.cells _ _ sb_w18).trans b2_w18
  have b3_w19 := (h19.cells _ _ sb_w18).trans b3_w18
  have sv_w19 := Nat.lt_of_lt_of_le sv_w18 h19.size
  have sa_w19 := Nat.lt_of_lt_of_le sa_w18 h19.size
  have sb_w19 := Nat.lt_of_lt_of_le sb_w18 h19.size
  have Iv_w19 := Iv_w18.of h19
  have Ia_w19 := Ia_w18.of h19
  have Ib_w19 := Ib_w18.of h19
  have hw_w19 := hw_w18.trans h19
  clear v0_w18 v1_w18 v2_w18 v3_w18 a0_w18 a1_w18 a2_w18 a3_w18 b0_w18 b1_w18 b2_w18 b3_w18 sv_w18 sa_w18 sb_w18 Iv_w18 Ia_w18 Ib_w18 hw_w18 h19
  go_upto_region 28 with fail
  refine wp_region_schG (fun W => W.cell? ⟨w4.heap.size + 1, 0, none⟩ = some (.int .i64 0) ∧ W.cell? ⟨w4.heap.size + 1, 1, none⟩ = some (.bool na) ∧ W.cell? ⟨w4.heap.size + 1, 2, none⟩ = some (.pointer (some ⟨ga, 0, none⟩)) ∧ W.cell? ⟨w4.heap.size + 1, 3, none⟩ = some (.int .i64 ea) ∧ W.cell? ⟨w4.heap.size + 2, 0, none⟩ = some (.int .i64 0) ∧ W.cell? ⟨w4.heap.size + 2, 1, none⟩ = some (.bool nb) ∧ W.cell? ⟨w4.heap.size + 2, 2, none⟩ = some (.pointer (some ⟨gb, 0, none⟩)) ∧ W.cell? ⟨w4.heap.size + 2, 3, none⟩ = some (.int .i64 eb) ∧ w4.heap.size + 1 < W.heap.size ∧ w4.heap.size + 2 < W.heap.size ∧ IntB W ga (ma : Int) ∧ IntB W gb (mb : Int) ∧ Within w19 W) 15 (.firm 0 (.firm 1 (.firm 2 (.firm 3 (.firm 5 (.firm 7 (.one 4 (.one 6 (.one 8 (.firm 9 (.firm 10 (.firm 11 (.firm 12 (.one 13 (.firm 14 (.one 15 .nil)))))))))))))))) (by kernel_rfl) (by kernel_rfl) ⟨a0_w19, a1_w19, a2_w19, a3_w19, b0_w19, b1_w19, b2_w19, b3_w19, sa_w19, sb_w19, Ia_w19, Ib_w19, Within.refl _⟩ ?_
  rintro w0 ⟨ra0, ra1, ra2, ra3, rb0, rb1, rb2, rb3, s1_, s2_, hJa, hJb, hw0⟩
  try simp only [Act.put, List.setIfInBounds_toArray, List.set_cons_zero, List.set_cons_succ]
  apply sch_firm rfl rfl (by repeat (first | with_reducible exact Within.refl _ | with_reducible assumption | with_reducible refine Within.alloc ?_ _ | with_reducible refine Within.drew ?_ | with_reducible refine Within.drewN ?_ _ | with_reducible refine Within.setCell ?_ (by first | (simp; done) | (simp; omega)) _ | with_reducible refine Within.trans ?_ (by assumption)))
  · intro wq hq
    have hcq := hq.cells
    clear hq
    go_simp
    first | rfl | (trace_state; fail)
  try simp only [Act.put, List.setIfInBounds_toArray, List.set_cons_zero, List.set_cons_succ]
  apply sch_firm rfl rfl (by repeat (first | with_reducible exact Within.refl _ | with_reducible assumption | with_reducible refine Within.alloc ?_ _ | with_reducible refine Within.drew ?_ | with_reducible refine Within.drewN ?_ _ | with_reducible refine Within.setCell ?_ (by first | (simp; done) | (simp; omega)) _ | with_reducible refine Within.trans ?_ (by assumption)))
  · intro wq hq
    have hcq := hq.cells
    clear hq
    go_simp
    first | rfl | (trace_state; fail)
  try simp only [Act.put, List.setIfInBounds_toArray, List.set_cons_zero, List.set_cons_succ]
  apply sch_firm rfl rfl (by repeat (first | with_reducible exact Within.refl _ | with_reducible assumption | with_reducible refine Within.alloc ?_ _ | with_reducible refine Within.drew ?_ | with_reducible refine Within.drewN ?_ _ | with_reducible refine Within.setCell ?_ (by first | (simp; done) | (simp; omega)) _ | with_reducible refine Within.trans ?_ (by assumption)))
  · intro wq hq
    have hcq := hq.cells
    clear hq
    go_simp
    first | rfl | (trace_state; fail)
  try simp only [Act.put, List.setIfInBounds_toArray, List.set_cons_zero, List.set_cons_succ]
  apply sch_firm rfl rfl (by repeat (first | with_reducible exact Within.refl _ | with_reducible assumption | with_reducible refine Within.alloc ?_ _ | with_reducible refine Within.drew ?_ | with_reducible refine Within.drewN ?_ _ | with_reducible refine Within.setCell ?_ (by first | (simp; done) | (simp; omega)) _ | with_reducible refine Within.trans ?_ (by assumption)))
  · intro wq hq
    have hcq := hq.cells
    clear hq
    go_simp
    first | rfl | (trace_state; fail)
  try simp only [Act.put, List.setIfInBounds_toArray, List.set_cons_zero, List.set_cons_succ]
  apply sch_firm rfl rfl (by repeat (first | with_reducible exact Within.refl _ | with_reducible assumption | with_reducible refine Within.alloc ?_ _ | with_reducible refine Within.drew ?_ | with_reducible refine Within.drewN ?_ _ | with_reducible refine Within.setCell ?_ (by first | (simp; done) | (simp; omega)) _ | with_reducible refine Within.trans ?_ (by assumption)))
  · intro wq hq
    have hcq := hq.cells
    clear hq
    go_simp
    first | rfl | (trace_state; fail)
  try simp only [Act.put, List.setIfInBounds_toArray, List.set_cons_zero, List.set_cons_succ]
  apply sch_firm rfl rfl (by repeat (first | with_reducible exact Within.refl _ | with_reducible assumption | with_reducible refine Within.alloc ?_ _ | with_reducible refine Within.drew ?_ | with_reducible refine Within.drewN ?_ _ | with_reducible refine Within.setCell ?_ (by first | (simp; done) | (simp; omega)) _ | with_reducible refine Within.trans ?_ (by assumption)))
  · intro wq hq
    have hcq := hq.cells
    clear hq
    go_simp
    first | rfl | (trace_state; fail)
  try simp only [Act.put, List.setIfInBounds_toArray, List.set_cons_zero, List.set_cons_succ]
  refine sch_one rfl rfl (fun K hK => ?_)
  go_simp
  refine (TIM.out _ _ _ (IntB.of hJa (Within.refl w0).drew) (IntB.of hJb (Within.refl w0).drew)).mono ?_; rintro ea_ wa ⟨g3, rfl, I3, h4'⟩
  have h4 : Within w0 wa := Within.trans (Within.refl w0).drew h4'
  have hJa' := hJa.of h4
  refine hK _ _ (fun _ => (by repeat (first | with_reducible exact Within.refl _ | with_reducible assumption | with_reducible refine Within.alloc ?_ _ | with_reducible refine Within.drew ?_ | with_reducible refine Within.drewN ?_ _ | with_reducible refine Within.setCell ?_ (by first | (simp; done) | (simp; omega)) _ | with_reducible refine Within.trans ?_ (by assumption)))) ?_
  clear hK K
  try simp only [Act.put, List.setIfInBounds_toArray, List.set_cons_zero, List.set_cons_succ]
  refine sch_one rfl rfl (fun K hK => ?_)
  go_simp
  refine (SUMF.out _ _ _ I3 hJa').mono ?_; rintro eb_ wb ⟨b4, g4, M4, E4, rfl, I4, hE4, hl4, hv4, h5'⟩
  have h5 : Within w0 wb := Within.trans h4 h5'
  refine hK _ _ (fun _ => (by repeat (first | with_reducible exact Within.refl _ | with_reducible assumption | with_reducible refine Within.alloc ?_ _ | with_reducible refine Within.drew ?_ | with_reducible refine Within.drewN ?_ _ | with_reducible refine Within.setCell ?_ (by first | (simp; done) | (simp; omega)) _ | with_reducible refine Within.trans ?_ (by assumption)))) ?_
  clear hK K
  try simp only [Act.put, List.setIfInBounds_toArray, List.set_cons_zero, List.set_cons_succ]
  refine sch_one rfl rfl (fun K hK => ?_)
  go_simp
  refine (PLF.out _ _ _ _ hE4 hl4 hv4 _ I4).mono ?_; rintro ec_ wc ⟨rfl, h6'⟩
  have h6 : Within w0 wc := Within.trans h5 h6'
  refine hK _ _ (fun _ => (by repeat (first | with_reducible exact Within.refl _ | with_reducible assumption | with_reducible refine Within.alloc ?_ _ | with_reducible refine Within.drew ?_ | with_reducible refine Within.drewN ?_ _ | with_reducible refine Within.setCell ?_ (by first | (simp; done) | (simp; omega)) _ | with_reducible refine Within.trans ?_ (by assumption)))) ?_
  clear hK K
  try simp only [Act.put, List.setIfInBounds_toArray, List.set_cons_zero, List.set_cons_succ]
  apply sch_firm rfl rfl (by repeat (first | with_reducible exact Within.refl _ | with_reducible assumption | with_reducible refine Within.alloc ?_ _ | with_reducible refine Within.drew ?_ | with_reducible refine Within.drewN ?_ _ | with_reducible refine Within.setCell ?_ (by first | (simp; done) | (simp; omega)) _ | with_reducible refine Within.trans ?_ (by assumption)))
  · intro wq hq
    have hcq := hq.cells
    clear hq
    go_simp
    first | rfl | (trace_state; fail)
  try simp only [Act.put, List.setIfInBounds_toArray, List.set_cons_zero, List.set_cons_succ]
  apply sch_want rfl (by first | rfl | decide | (simp [Region.wanted, yielded]; done)) (by repeat (first | with_reducible exact Within.refl _ | with_reducible assumption | with_reducible refine Within.alloc ?_ _ | with_reducible refine Within.drew ?_ | with_reducible refine Within.drewN ?_ _ | with_reducible refine Within.setCell ?_ (by first | (simp; done) | (simp; omega)) _ | with_reducible refine Within.trans ?_ (by assumption)))
  · intro wq hq
    have hcq := hq.cells
    clear hq
    go_simp
    first | rfl | (trace_state; fail)
  try simp only [Act.put, List.setIfInBounds_toArray, List.set_cons_zero, List.set_cons_succ]
  apply sch_want rfl (by first | rfl | decide | (simp [Region.wanted, yielded]; done)) (by repeat (first | with_reducible exact Within.refl _ | with_reducible assumption | with_reducible refine Within.alloc ?_ _ | with_reducible refine Within.drew ?_ | with_reducible refine Within.drewN ?_ _ | with_reducible refine Within.setCell ?_ (by first | (simp; done) | (simp; omega)) _ | with_reducible refine Within.trans ?_ (by assumption)))
  · intro wq hq
    have hcq := hq.cells
    clear hq
    go_simp
    first | rfl | (trace_state; fail)
  try simp only [Act.put, List.setIfInBounds_toArray, List.set_cons_zero, List.set_cons_succ]
  apply sch_want rfl (by first | rfl | decide | (simp [Region.wanted, yielded]; done)) (by repeat (first | with_reducible exact Within.refl _ | with_reducible assumption | with_reducible refine Within.alloc ?_ _ | with_reducible refine Within.drew ?_ | with_reducible refine Within.drewN ?_ _ | with_reducible refine Within.setCell ?_ (by first | (simp; done) | (simp; omega)) _ | with_reducible refine Within.trans ?_ (by assumption)))
  · intro wq hq
    have hcq := hq.cells
    clear hq
    go_simp
    first | rfl | (trace_state; fail)
  try simp only [Act.put, List.setIfInBounds_toArray, List.set_cons_zero, List.set_cons_succ]
  refine sch_one_want rfl (by first | rfl | decide | (simp [Region.wanted, yielded]; done)) (fun K hK => ?_)
  go_simp
  refine (ALF.out _).mono ?_; rintro ed_ wd ⟨rfl, h7'⟩
  have h7 : Within w0 wd := Within.trans h6 h7'
  refine hK _ _ (fun _ => (by repeat (first | with_reducible exact Within.refl _ | with_reducible assumption | with_reducible refine Within.alloc ?_ _ | with_reducible refine Within.drew ?_ | with_reducible refine Within.drewN ?_ _ | with_reducible refine Within.setCell ?_ (by first | (simp; done) | (simp; omega)) _ | with_reducible refine Within.trans ?_ (by assumption)))) ?_
  clear hK K
  try simp only [Act.put, List.setIfInBounds_toArray, List.set_cons_zero, List.set_cons_succ]
  apply sch_firm rfl rfl (by repeat (first | with_reducible exact Within.refl _ | with_reducible assumption | with_reducible refine Within.alloc ?_ _ | with_reducible refine Within.drew ?_ | with_reducible refine Within.drewN ?_ _ | with_reducible refine Within.setCell ?_ (by first | (simp; done) | (simp; omega)) _ | with_reducible refine Within.trans ?_ (by assumption)))
  · intro wq hq
    have hcq := hq.cells
    clear hq
    go_simp
    first | rfl | (trace_state; fail)
  try simp only [Act.put, List.setIfInBounds_toArray, List.set_cons_zero, List.set_cons_succ]
  refine sch_one rfl rfl (fun K hK => ?_)
  go_simp
  refine hK _ _ (fun h => absurd h (by decide)) ?_
  clear hK K
  try simp only [Act.put, List.setIfInBounds_toArray, List.set_cons_zero, List.set_cons_succ]
  refine sch_nil ?_
  have hz := Within.trans hw_w19 (Within.trans hw0 h7)
  go_wp2
  go_ret
  exact ⟨rfl, hz⟩
set_option maxRecDepth 100000 in
set_option maxHeartbeats 4000000 in
theorem between_10 (x y z : Nat) (mode : Int) (hx : x < 18446744073709551616) (hy : y < 4294967296) (hz : z < 4294967296) (hm : 0 ≤ mode ∧ mode ≤ 4) (fx : x % 9223372036854775808 < 9218868437227405312) (fyz : kS y ≠ 0 ∨ kS z ≠ 0) (w : World) (hT : FmS w) : Calls Tryd.prog 9 #[.int .u64 (x : Int), .int .u32 (y : Int), .int .u32 (z : Int), .int .i64 mode] w fun e w' => e = .returned (.bool true) ∧ Within w w' := by
  have HT := Lib.hid hT; clear hT
  have AW := Lib.hid (fun w hT => awake_true w hT)
  have d1 : decide (mode < 0) = false := decide_eq_false (by omega)
  have d2 : decide (mode > 4) = false := decide_eq_false (by omega)
  have OX := Lib.hid (fun w => ROf x hx w)
  have OY := Lib.hid (fun w => ROf32 y hy w)
  have OZ := Lib.hid (fun w => ROf32 z hz w)
  obtain ⟨v1, v2, v3, v4⟩ := x_amt hx fx
  have RN := rnd_narrow hx fx
  have PN := pair_rnd RN
  have AN := amongst_rnd RN hm
  have N4 := Lib.hid (fun w hT => Narrow_any x 4 hx w hT)
  have N3 := Lib.hid (fun w hT => Narrow_any x 3 hx w hT)
  have Nm := Lib.hid (fun w hT => Narrow_any x mode hx w hT)
  rw [nErr_ok (by decide)] at N4 N3
  rw [nErr_ok hm] at Nm
  have PLN := Lib.hid (fun gv w hI => pair_law (nWord x 4) (nWord x 3) _ (nFlags x 3) PN (nD x) gv (mD x) (eD x) v3 v4 v1 w hI)
  have ALN := Lib.hid (fun w => amongst_law (nWord x mode) (nWord x 4) (nWord x 3) (isN_no PN.2.2.1) (isN_no PN.2.2.2.1) AN w)
  rw [v2] at OX
  clear RN PN AN v1 v3 v4 v2
  generalize nWord x 4 = n4 at *
  generalize nWord x 3 = n3 at *
  generalize nWord x mode = nm at *
  generalize nFlags x 4 = f4 at *
  generalize nFlags x 3 = f3 at *
  generalize nFlags x mode = fm at *
  have kyz : (kS y != 0) = true ∨ ((kS y != 0) = false ∧ (kS z != 0) = true) := by rw [bne_iff_ne, bne_eq_false_iff_eq, bne_iff_ne]; omega
  clear hx hy hz hm fx fyz
  generalize kS y = ka at *
  generalize kS z = kb at *
  generalize nD x = nv at *
  generalize eD x = ev at *
  generalize mD x = mv at *
  generalize nS y = na at *
  generalize eS y = ea at *
  generalize mS y = ma at *
  generalize nS z = nb at *
  generalize eS z = eb at *
  generalize mS z = mb at *
  go_enter Tryd.func9, Tryd.ntmps9
  go_wp2_with fail
  refine (AW.out _ HT.out).mono ?_; rintro e1 w1 ⟨rfl, hb1⟩
  go_wp2_with fail
  refine (OX.out _).mono ?_; rintro e2 w2 ⟨gv, rfl, Iv, _, hb2⟩
  have hw2 := hb1.trans hb2
  go_wp2_with fail
  refine (OY.out _).mono ?_; rintro e3 w3 ⟨ga, rfl, Ia, _, hb3⟩
  have hw3 := hw2.trans hb3
  have Iv := Iv.of hb3
  go_wp2_with fail
  refine (OZ.out _).mono ?_; rintro e4 w4 ⟨gb, rfl, Ib, _, hb4⟩
  have hw4 := hw3.trans hb4
  have Iv := Iv.of hb4; have Ia := Ia.of hb4
  clear hb1 hb2 hb3 hb4 hw2 hw3
  obtain ⟨V1, hV1⟩ : ∃ W, W = w4.alloc (.cells #[.int .i64 0, .bool nv, .pointer (some ⟨gv, 0, none⟩), .int .i64 ev] 26) := ⟨_, rfl⟩
  obtain ⟨V2, hV2⟩ : ∃ W, W = V1.alloc (.cells #[.int .i64 ka, .bool na, .pointer (some ⟨ga, 0, none⟩), .int .i64 ea] 26) := ⟨_, rfl⟩
  obtain ⟨W2, hW2⟩ : ∃ W, W = V2.alloc (.cells #[.int .i64 kb, .bool nb, .pointer (some ⟨gb, 0, none⟩), .int .i64 eb] 26) := ⟨_, rfl⟩
  have z1 : V1.heap.size = w4.heap.size + 1 := by rw [hV1]; simp
  have z2 : V2.heap.size = w4.heap.size + 2 := by rw [hV2]; simp [z1]
  have zW : W2.heap.size = w4.heap.size + 3 := by rw [hW2]; simp [z2]
  have u1 : Within w4 V1 := by rw [hV1]; exact (Within.refl _).alloc _
  have u2 : Within V1 V2 := by rw [hV2]; exact (Within.refl _).alloc _
  have u3 : Within V2 W2 := by rw [hW2]; exact (Within.refl _).alloc _
  have hv3 := (u1.trans u2).trans u3
  have v0_W2 : W2.cell? ⟨w4.heap.size, 0, none⟩ = some (.int .i64 0) := ((u2.trans u3).cells _ _ (by omega)).trans (by rw [hV1]; simp)
  have v1_W2 : W2.cell? ⟨w4.heap.size, 1, none⟩ = some (.bool nv) := ((u2.trans u3).cells _ _ (by omega)).trans (by rw [hV1]; simp)
  have v2_W2 : W2.cell? ⟨w4.heap.size, 2, none⟩ = some (.pointer (some ⟨gv, 0, none⟩)) := ((u2.trans u3).cells _ _ (by omega)).trans (by rw [hV1]; simp)
  have v3_W2 : W2.cell? ⟨w4.heap.size, 3, none⟩ = some (.int .i64 ev) := ((u2.trans u3).cells _ _ (by omega)).trans (by rw [hV1]; simp)
  have a0_W2 : W2.cell? ⟨w4.heap.size + 1, 0, none⟩ = some (.int .i64 ka) := (u3.cells _ _ (by omega)).trans (by rw [← z1, hV2]; simp)
  have a1_W2 : W2.cell? ⟨w4.heap.size + 1, 1, none⟩ = some (.bool na) := (u3.cells _ _ (by omega)).trans (by rw [← z1, hV2]; simp)
  have a2_W2 : W2.cell? ⟨w4.heap.size + 1, 2, none⟩ = some (.pointer (some ⟨ga, 0, none⟩)) := (u3.cells _ _ (by omega)).trans (by rw [← z1, hV2]; simp)
  have a3_W2 : W2.cell? ⟨w4.heap.size + 1, 3, none⟩ = some (.int .i64 ea) := (u3.cells _ _ (by omega)).trans (by rw [← z1, hV2]; simp)
  have b0_W2 : W2.cell? ⟨w4.heap.size + 2, 0, none⟩ = some (.int .i64 kb) := by rw [← z2, hW2]; simp
  have b1_W2 : W2.cell? ⟨w4.heap.size + 2, 1, none⟩ = some (.bool nb) := by rw [← z2, hW2]; simp
  have b2_W2 : W2.cell? ⟨w4.heap.size + 2, 2, none⟩ = some (.pointer (some ⟨gb, 0, none⟩)) := by rw [← z2, hW2]; simp
  have b3_W2 : W2.cell? ⟨w4.heap.size + 2, 3, none⟩ = some (.int .i64 eb) := by rw [← z2, hW2]; simp
  have sv_W2 : w4.heap.size < W2.heap.size := by omega
  have sa_W2 : w4.heap.size + 1 < W2.heap.size := by omega
  have sb_W2 : w4.heap.size + 2 < W2.heap.size := by omega
  have Iv_W2 := Iv.of hv3; have Ia_W2 := Ia.of hv3; have Ib_W2 := Ib.of hv3
  have hw_W2 := hw4.trans hv3
  clear hv3 hw4 Iv Ia Ib zW z1 z2 u1 u2 u3
  go_wp2_with fail
  rw [← hV1, ← hV2, ← hW2]
  clear hV1 hV2 hW2
  refine (f_any x _).mono ?_; rintro eq wq ⟨rfl, rfl⟩
  go_wp2_with fail
  refine (N4.out _ (HT.out.of hw_W2)).mono ?_; rintro e5 w5 ⟨rfl, h5⟩
  have v0_w5 := (h5.cells _ _ sv_W2).trans v0_W2
  have v1_w5 := (h5.cells _ _ sv_W2).trans v1_W2
  have v2_w5 := (h5.cells _ _ sv_W2).trans v2_W2
  have v3_w5 := (h5.cells _ _ sv_W2).trans v3_W2
  have a0_w5 := (h5.cells _ _ sa_W2).trans a0_W2
  have a1_w5 := (h5.cells _ _ sa_W2).trans a1_W2
  have a2_w5 := (h5.cells _ _ sa_W2).trans a2_W2
  have a3_w5 := (h5.cells _ _ sa_W2).trans a3_W2
  have b0_w5 := (h5.cells _ _ sb_W2).trans b0_W2
  have b1_w5 := (h5.cells _ _ sb_W2).trans b1_W2
  have b2_w5 := (h5.cells _ _ sb_W2).trans b2_W2
  have b3_w5 := (h5.cells _ _ sb_W2).trans b3_W2
  have sv_w5 := Nat.lt_of_lt_of_le sv_W2 h5.size
  have sa_w5 := Nat.lt_of_lt_of_le sa_W2 h5.size
  have sb_w5 := Nat.lt_of_lt_of_le sb_W2 h5.size
  have Iv_w5 := Iv_W2.of h5
  have Ia_w5 := Ia_W2.of h5
  have Ib_w5 := Ib_W2.of h5
  have hw_w5 := hw_W2.trans h5
  clear v0_W2 v1_W2 v2_W2 v3_W2 a0_W2 a1_W2 a2_W2 a3_W2 b0_W2 b1_W2 b2_W2 b3_W2 sv_W2 sa_W2 sb_W2 Iv_W2 Ia_W2 Ib_W2 hw_W2 h5
  go_wp2_with fail
  refine (f_any x _).mono ?_; rintro eq wq ⟨rfl, rfl⟩
  go_wp2_with fail
  refine (N3.out _ (HT.out.of hw_w5)).mono ?_; rintro e6 w6 ⟨rfl, h6⟩
  have v0_w6 := (h6.cells _ _ sv_w5).trans v0_w5
  have v1_w6 := (h6.cells _ _ sv_w5).trans v1_w5
  have v2_w6 := (h6.cells _ _ sv_w5).trans v2_w5
  have v3_w6 := (h6.cells _ _ sv_w5).trans v3_w5
  have a0_w6 := (h6.cells _ _ sa_w5).trans a0_w5
  have a1_w6 := (h6.cells _ _ sa_w5).trans a1_w5
  have a2_w6 := (h6.cells _ _ sa_w5).trans a2_w5
  have a3_w6 := (h6.cells _ _ sa_w5).trans a3_w5
  have b0_w6 := (h6.cells _ _ sb_w5).trans b0_w5
  have b1_w6 := (h6.cells _ _ sb_w5).trans b1_w5
  have b2_w6 := (h6.cells _ _ sb_w5).trans b2_w5
  have b3_w6 := (h6.cells _ _ sb_w5).trans b3_w5
  have sv_w6 := Nat.lt_of_lt_of_le sv_w5 h6.size
  have sa_w6 := Nat.lt_of_lt_of_le sa_w5 h6.size
  have sb_w6 := Nat.lt_of_lt_of_le sb_w5 h6.size
  have Iv_w6 := Iv_w5.of h6
  have Ia_w6 := Ia_w5.of h6
  have Ib_w6 := Ib_w5.of h6
  have hw_w6 := hw_w5.trans h6
  clear v0_w5 v1_w5 v2_w5 v3_w5 a0_w5 a1_w5 a2_w5 a3_w5 b0_w5 b1_w5 b2_w5 b3_w5 sv_w5 sa_w5 sb_w5 Iv_w5 Ia_w5 Ib_w5 hw_w5 h6
  go_wp2_with fail
  refine (f_any x _).mono ?_; rintro eq wq ⟨rfl, rfl⟩
  go_wp2_with fail
  refine (Nm.out _ (HT.out.of hw_w6)).mono ?_; rintro e7 w7 ⟨rfl, h7⟩
  have v0_w7 := (h7.cells _ _ sv_w6).trans v0_w6
  have v1_w7 := (h7.cells _ _ sv_w6).trans v1_w6
  have v2_w7 := (h7.cells _ _ sv_w6).trans v2_w6
  have v3_w7 := (h7.cells _ _ sv_w6).trans v3_w6
  have a0_w7 := (h7.cells _ _ sa_w6).trans a0_w6
  have a1_w7 := (h7.cells _ _ sa_w6).trans a1_w6
  have a2_w7 := (h7.cells _ _ sa_w6).trans a2_w6
  have a3_w7 := (h7.cells _ _ sa_w6).trans a3_w6
  have b0_w7 := (h7.cells _ _ sb_w6).trans b0_w6
  have b1_w7 := (h7.cells _ _ sb_w6).trans b1_w6
  have b2_w7 := (h7.cells _ _ sb_w6).trans b2_w6
  have b3_w7 := (h7.cells _ _ sb_w6).trans b3_w6
  have sv_w7 := Nat.lt_of_lt_of_le sv_w6 h7.size
  have sa_w7 := Nat.lt_of_lt_of_le sa_w6 h7.size
  have sb_w7 := Nat.lt_of_lt_of_le sb_w6 h7.size
  have Iv_w7 := Iv_w6.of h7
  have Ia_w7 := Ia_w6.of h7
  have Ib_w7 := Ib_w6.of h7
  have hw_w7 := hw_w6.trans h7
  clear v0_w6 v1_w6 v2_w6 v3_w6 a0_w6 a1_w6 a2_w6 a3_w6 b0_w6 b1_w6 b2_w6 b3_w6 sv_w6 sa_w6 sb_w6 Iv_w6 Ia_w6 Ib_w6 hw_w6 h7
  go_wp2_with fail
  refine (PLN.out _ _ Iv_w7).mono ?_; rintro e8 w8 ⟨rfl, h8⟩
  have v0_w8 := (h8.cells _ _ sv_w7).trans v0_w7
  have v1_w8 := (h8.cells _ _ sv_w7).trans v1_w7
  have v2_w8 := (h8.cells _ _ sv_w7).trans v2_w7
  have v3_w8 := (h8.cells _ _ sv_w7).trans v3_w7
  have a0_w8 := (h8.cells _ _ sa_w7).trans a0_w7
  have a1_w8 := (h8.cells _ _ sa_w7).trans a1_w7
  have a2_w8 := (h8.cells _ _ sa_w7).trans a2_w7
  have a3_w8 := (h8.cells _ _ sa_w7).trans a3_w7
  have b0_w8 := (h8.cells _ _ sb_w7).trans b0_w7
  have b1_w8 := (h8.cells _ _ sb_w7).trans b1_w7
  have b2_w8 := (h8.cells _ _ sb_w7).trans b2_w7
  have b3_w8 := (h8.cells _ _ sb_w7).trans b3_w7
  have sv_w8 := Nat.lt_of_lt_of_le sv_w7 h8.size
  have sa_w8 := Nat.lt_of_lt_of_le sa_w7 h8.size
  have sb_w8 := Nat.lt_of_lt_of_le sb_w7 h8.size
  have Iv_w8 := Iv_w7.of h8
  have Ia_w8 := Ia_w7.of h8
  have Ib_w8 := Ib_w7.of h8
  have hw_w8 := hw_w7.trans h8
  clear v0_w7 v1_w7 v2_w7 v3_w7 a0_w7 a1_w7 a2_w7 a3_w7 b0_w7 b1_w7 b2_w7 b3_w7 sv_w7 sa_w7 sb_w7 Iv_w7 Ia_w7 Ib_w7 hw_w7 h8
  go_wp2_with fail
  refine (ALN.out _).mono ?_; rintro e9 w9 ⟨rfl, h9⟩
  have v0_w9 := (h9.cells _ _ sv_w8).trans v0_w8
  have v1_w9 := (h9.cells _ _ sv_w8).trans v1_w8
  have v2_w9 := (h9.cells _ _ sv_w8).trans v2_w8
  have v3_w9 := (h9.cells _ _ sv_w8).trans v3_w8
  have a0_w9 := (h9.cells _ _ sa_w8).trans a0_w8
  have a1_w9 := (h9.cells _ _ sa_w8).trans a1_w8
  have a2_w9 := (h9.cells _ _ sa_w8).trans a2_w8
  have a3_w9 := (h9.cells _ _ sa_w8).trans a3_w8
  have b0_w9 := (h9.cells _ _ sb_w8).trans b0_w8
  have b1_w9 := (h9.cells _ _ sb_w8).trans b1_w8
  have b2_w9 := (h9.cells _ _ sb_w8).trans b2_w8
  have b3_w9 := (h9.cells _ _ sb_w8).trans b3_w8
  have sv_w9 := Nat.lt_of_lt_of_le sv_w8 h9.size
  have sa_w9 := Nat.lt_of_lt_of_le sa_w8 h9.size
  have sb_w9 := Nat.lt_of_lt_of_le sb_w8 h9.size
  have Iv_w9 := Iv_w8.of h9
  have Ia_w9 := Ia_w8.of h9
  have Ib_w9 := Ib_w8.of h9
  have hw_w9 := hw_w8.trans h9
  clear v0_w8 v1_w8 v2_w8 v3_w8 a0_w8 a1_w8 a2_w8 a3_w8 b0_w8 b1_w8 b2_w8 b3_w8 sv_w8 sa_w8 sb_w8 Iv_w8 Ia_w8 Ib_w8 hw_w8 h9
  rcases kyz with q1 | ⟨q1, q2⟩
  · go_wp2
    go_ret
    exact ⟨rfl, hw_w9⟩
  · go_wp2
    go_ret
    exact ⟨rfl, hw_w9⟩
set_option maxRecDepth 100000 in
set_option maxHeartbeats 4000000 in
theorem between_11 (x y z : Nat) (mode : Int) (hx : x < 18446744073709551616) (hy : y < 4294967296) (hz : z < 4294967296) (hm : 0 ≤ mode ∧ mode ≤ 4) (fx : x % 9223372036854775808 < 9218868437227405312) (fy : y % 2147483648 < 2139095040) (fz : z % 2147483648 < 2139095040) (w : World) (hT : FmS w) : Calls Tryd.prog 9 #[.int .u64 (x : Int), .int .u32 (y : Int), .int .u32 (z : Int), .int .i64 mode] w fun e w' => e = .returned (.bool true) ∧ Within w w' := by
  have HT := Lib.hid hT; clear hT
  have AW := Lib.hid (fun w hT => awake_true w hT)
  have d1 : decide (mode < 0) = false := decide_eq_false (by omega)
  have d2 : decide (mode > 4) = false := decide_eq_false (by omega)
  have OX := Lib.hid (fun w => ROf x hx w)
  have OY := Lib.hid (fun w => ROf32 y hy w)
  have OZ := Lib.hid (fun w => ROf32 z hz w)
  obtain ⟨v1, v2, v3, v4⟩ := x_amt hx fx
  have RN := rnd_narrow hx fx
  have PN := pair_rnd RN
  have AN := amongst_rnd RN hm
  have N4 := Lib.hid (fun w hT => Narrow_any x 4 hx w hT)
  have N3 := Lib.hid (fun w hT => Narrow_any x 3 hx w hT)
  have Nm := Lib.hid (fun w hT => Narrow_any x mode hx w hT)
  rw [nErr_ok (by decide)] at N4 N3
  rw [nErr_ok hm] at Nm
  have PLN := Lib.hid (fun gv w hI => pair_law (nWord x 4) (nWord x 3) _ (nFlags x 3) PN (nD x) gv (mD x) (eD x) v3 v4 v1 w hI)
  have ALN := Lib.hid (fun w => amongst_law (nWord x mode) (nWord x 4) (nWord x 3) (isN_no PN.2.2.1) (isN_no PN.2.2.2.1) AN w)
  rw [v2] at OX
  clear RN PN AN v1 v3 v4 v2
  generalize nWord x 4 = n4 at *
  generalize nWord x 3 = n3 at *
  generalize nWord x mode = nm at *
  generalize nFlags x 4 = f4 at *
  generalize nFlags x 3 = f3 at *
  generalize nFlags x mode = fm at *
  have ky := kS_fin fy; have kz := kS_fin fz
  have y3 := eS_ok y; have z3 := eS_ok z
  have e4 : (0 : Int) ≤ 4 ∧ (4 : Int) ≤ 4 := by decide
  have e3 : (0 : Int) ≤ 3 ∧ (3 : Int) ≤ 4 := by decide
  have RA := rnd_add hy hz fy fz
  have PA := pair_rnd RA
  have ANA := amongst_rnd RA hm
  have A4 := Lib.hid (fun w hT => Add_known y z 4 hy hz e4 w hT)
  have A3 := Lib.hid (fun w hT => Add_known y z 3 hy hz e3 w hT)
  have Am := Lib.hid (fun w hT => Add_known y z mode hy hz hm w hT)
  have PLA := Lib.hid (fun bv gv Mv Ev hE hl hv w hI => pair_law (addWd y z 4) (addWd y z 3) _ (addFl y z 3) PA bv gv Mv Ev hE hl hv w hI)
  have ALA := Lib.hid (fun w => amongst_law (addWd y z mode) (addWd y z 4) (addWd y z 3) (isN_no PA.2.2.1) (isN_no PA.2.2.2.1) ANA w)
  clear RA PA ANA
  generalize addWd y z 4 = aw4 at *
  generalize addWd y z 3 = aw3 at *
  generalize addWd y z mode = awm at *
  generalize addFl y z 4 = al4 at *
  generalize addFl y z 3 = al3 at *
  generalize addFl y z mode = alm at *
  have RM := rnd_mul hy hz fy fz
  have PM := pair_rnd RM
  have ANM := amongst_rnd RM hm
  have M4 := Lib.hid (fun w hT => Mul_known y z 4 hy hz e4 w hT)
  have M3 := Lib.hid (fun w hT => Mul_known y z 3 hy hz e3 w hT)
  have Mm := Lib.hid (fun w hT => Mul_known y z mode hy hz hm w hT)
  have PLM := Lib.hid (fun bv gv Mv Ev hE hl hv w hI => pair_law (mulWd y z 4) (mulWd y z 3) _ (mulFl y z 3) PM bv gv Mv Ev hE hl hv w hI)
  have ALM := Lib.hid (fun w => amongst_law (mulWd y z mode) (mulWd y z 4) (mulWd y z 3) (isN_no PM.2.2.1) (isN_no PM.2.2.2.1) ANM w)
  clear RM PM ANM
  generalize mulWd y z 4 = mw4 at *
  generalize mulWd y z 3 = mw3 at *
  generalize mulWd y z mode = mwm at *
  generalize mulFl y z 4 = ml4 at *
  generalize mulFl y z 3 = ml3 at *
  generalize mulFl y z mode = mlm at *
  have RF := rnd_fus hy hz hy fy fz fy
  have PF := pair_rnd RF
  have ANF := amongst_rnd RF hm
  have F4 := Lib.hid (fun w hT => Fused_known y z y 4 hy hz hy (prod_small hy hz) e4 w hT)
  have F3 := Lib.hid (fun w hT => Fused_known y z y 3 hy hz hy (prod_small hy hz) e3 w hT)
  have Fm := Lib.hid (fun w hT => Fused_known y z y mode hy hz hy (prod_small hy hz) hm w hT)
  have PLF := Lib.hid (fun bv gv Mv Ev hE hl hv w hI => pair_law (fusWd y z y 4) (fusWd y z y 3) _ (fusFl y z y 3) PF bv gv Mv Ev hE hl hv w hI)
  have ALF := Lib.hid (fun w => amongst_law (fusWd y z y mode) (fusWd y z y 4) (fusWd y z y 3) (isN_no PF.2.2.1) (isN_no PF.2.2.2.1) ANF w)
  clear RF PF ANF
  generalize fusWd y z y 4 = fw4 at *
  generalize fusWd y z y 3 = fw3 at *
  generalize fusWd y z y mode = fwm at *
  generalize fusFl y z y 4 = fl4 at *
  generalize fusFl y z y 3 = fl3 at *
  generalize fusFl y z y mode = flm at *
  rw [ky] at OY
  rw [kz] at OZ
  have SUMA := Lib.hid (fun ga gb w h1 h2 => sum_two hy hz fy fz ga gb w h1 h2)
  have TIM := Lib.hid (fun ga gb w h1 h2 => times_two fy fz ga gb w h1 h2)
  have SUMF := Lib.hid (fun g ga w h1 h2 => sum_fus hy fy fz fy g ga w h1 h2)
  rw [ky, kz] at SUMA TIM
  rw [ky] at SUMF
  have PLT := Lib.hid (fun gv w hI => PLM.out (nS y != nS z) gv (mS y * mS z) (eS y + eS z) (prod_exp y z ky kz) (Nat.le_trans (prod_len y z) (by decide)) (prod_amt fy fz) w hI)
  clear PLM
  generalize Fp.val (ngS y ^^ ngS z) (prodN y z) = vM at *
  generalize uS y = uy at *
  generalize uS z = uz at *
  clear hx hy hz hm fx fy fz ky kz y3 z3 e4 e3
  generalize nD x = nv at *
  generalize eD x = ev at *
  generalize mD x = mv at *
  generalize nS y = na at *
  generalize eS y = ea at *
  generalize mS y = ma at *
  generalize nS z = nb at *
  generalize eS z = eb at *
  generalize mS z = mb at *
  go_enter Tryd.func9, Tryd.ntmps9
  go_wp2_with fail
  refine (AW.out _ HT.out).mono ?_; rintro e1 w1 ⟨rfl, hb1⟩
  go_wp2_with fail
  refine (OX.out _).mono ?_; rintro e2 w2 ⟨gv, rfl, Iv, _, hb2⟩
  have hw2 := hb1.trans hb2
  go_wp2_with fail
  refine (OY.out _).mono ?_; rintro e3 w3 ⟨ga, rfl, Ia, _, hb3⟩
  have hw3 := hw2.trans hb3
  have Iv := Iv.of hb3
  go_wp2_with fail
  refine (OZ.out _).mono ?_; rintro e4 w4 ⟨gb, rfl, Ib, _, hb4⟩
  have hw4 := hw3.trans hb4
  have Iv := Iv.of hb4; have Ia := Ia.of hb4
  clear hb1 hb2 hb3 hb4 hw2 hw3
  obtain ⟨V1, hV1⟩ : ∃ W, W = w4.alloc (.cells #[.int .i64 0, .bool nv, .pointer (some ⟨gv, 0, none⟩), .int .i64 ev] 26) := ⟨_, rfl⟩
  obtain ⟨V2, hV2⟩ : ∃ W, W = V1.alloc (.cells #[.int .i64 0, .bool na, .pointer (some ⟨ga, 0, none⟩), .int .i64 ea] 26) := ⟨_, rfl⟩
  obtain ⟨W2, hW2⟩ : ∃ W, W = V2.alloc (.cells #[.int .i64 0, .bool nb, .pointer (some ⟨gb, 0, none⟩), .int .i64 eb] 26) := ⟨_, rfl⟩
  have z1 : V1.heap.size = w4.heap.size + 1 := by rw [hV1]; simp
  have z2 : V2.heap.size = w4.heap.size + 2 := by rw [hV2]; simp [z1]
  have zW : W2.heap.size = w4.heap.size + 3 := by rw [hW2]; simp [z2]
  have u1 : Within w4 V1 := by rw [hV1]; exact (Within.refl _).alloc _
  have u2 : Within V1 V2 := by rw [hV2]; exact (Within.refl _).alloc _
  have u3 : Within V2 W2 := by rw [hW2]; exact (Within.refl _).alloc _
  have hv3 := (u1.trans u2).trans u3
  have v0_W2 : W2.cell? ⟨w4.heap.size, 0, none⟩ = some (.int .i64 0) := ((u2.trans u3).cells _ _ (by omega)).trans (by rw [hV1]; simp)
  have v1_W2 : W2.cell? ⟨w4.heap.size, 1, none⟩ = some (.bool nv) := ((u2.trans u3).cells _ _ (by omega)).trans (by rw [hV1]; simp)
  have v2_W2 : W2.cell? ⟨w4.heap.size, 2, none⟩ = some (.pointer (some ⟨gv, 0, none⟩)) := ((u2.trans u3).cells _ _ (by omega)).trans (by rw [hV1]; simp)
  have v3_W2 : W2.cell? ⟨w4.heap.size, 3, none⟩ = some (.int .i64 ev) := ((u2.trans u3).cells _ _ (by omega)).trans (by rw [hV1]; simp)
  have a0_W2 : W2.cell? ⟨w4.heap.size + 1, 0, none⟩ = some (.int .i64 0) := (u3.cells _ _ (by omega)).trans (by rw [← z1, hV2]; simp)
  have a1_W2 : W2.cell? ⟨w4.heap.size + 1, 1, none⟩ = some (.bool na) := (u3.cells _ _ (by omega)).trans (by rw [← z1, hV2]; simp)
  have a2_W2 : W2.cell? ⟨w4.heap.size + 1, 2, none⟩ = some (.pointer (some ⟨ga, 0, none⟩)) := (u3.cells _ _ (by omega)).trans (by rw [← z1, hV2]; simp)
  have a3_W2 : W2.cell? ⟨w4.heap.size + 1, 3, none⟩ = some (.int .i64 ea) := (u3.cells _ _ (by omega)).trans (by rw [← z1, hV2]; simp)
  have b0_W2 : W2.cell? ⟨w4.heap.size + 2, 0, none⟩ = some (.int .i64 0) := by rw [← z2, hW2]; simp
  have b1_W2 : W2.cell? ⟨w4.heap.size + 2, 1, none⟩ = some (.bool nb) := by rw [← z2, hW2]; simp
  have b2_W2 : W2.cell? ⟨w4.heap.size + 2, 2, none⟩ = some (.pointer (some ⟨gb, 0, none⟩)) := by rw [← z2, hW2]; simp
  have b3_W2 : W2.cell? ⟨w4.heap.size + 2, 3, none⟩ = some (.int .i64 eb) := by rw [← z2, hW2]; simp
  have sv_W2 : w4.heap.size < W2.heap.size := by omega
  have sa_W2 : w4.heap.size + 1 < W2.heap.size := by omega
  have sb_W2 : w4.heap.size + 2 < W2.heap.size := by omega
  have Iv_W2 := Iv.of hv3; have Ia_W2 := Ia.of hv3; have Ib_W2 := Ib.of hv3
  have hw_W2 := hw4.trans hv3
  clear hv3 hw4 Iv Ia Ib zW z1 z2 u1 u2 u3
  go_wp2_with fail
  rw [← hV1, ← hV2, ← hW2]
  clear hV1 hV2 hW2
  refine (f_any x _).mono ?_; rintro eq wq ⟨rfl, rfl⟩
  go_wp2_with fail
  refine (N4.out _ (HT.out.of hw_W2)).mono ?_; rintro e5 w5 ⟨rfl, h5⟩
  have v0_w5 := (h5.cells _ _ sv_W2).trans v0_W2
  have v1_w5 := (h5.cells _ _ sv_W2).trans v1_W2
  have v2_w5 := (h5.cells _ _ sv_W2).trans v2_W2
  have v3_w5 := (h5.cells _ _ sv_W2).trans v3_W2
  have a0_w5 := (h5.cells _ _ sa_W2).trans a0_W2
  have a1_w5 := (h5.cells _ _ sa_W2).trans a1_W2
  have a2_w5 := (h5.cells _ _ sa_W2).trans a2_W2
  have a3_w5 := (h5.cells _ _ sa_W2).trans a3_W2
  have b0_w5 := (h5.cells _ _ sb_W2).trans b0_W2
  have b1_w5 := (h5.cells _ _ sb_W2).trans b1_W2
  have b2_w5 := (h5.cells _ _ sb_W2).trans b2_W2
  have b3_w5 := (h5.cells _ _ sb_W2).trans b3_W2
  have sv_w5 := Nat.lt_of_lt_of_le sv_W2 h5.size
  have sa_w5 := Nat.lt_of_lt_of_le sa_W2 h5.size
  have sb_w5 := Nat.lt_of_lt_of_le sb_W2 h5.size
  have Iv_w5 := Iv_W2.of h5
  have Ia_w5 := Ia_W2.of h5
  have Ib_w5 := Ib_W2.of h5
  have hw_w5 := hw_W2.trans h5
  clear v0_W2 v1_W2 v2_W2 v3_W2 a0_W2 a1_W2 a2_W2 a3_W2 b0_W2 b1_W2 b2_W2 b3_W2 sv_W2 sa_W2 sb_W2 Iv_W2 Ia_W2 Ib_W2 hw_W2 h5
  go_wp2_with fail
  refine (f_any x _).mono ?_; rintro eq wq ⟨rfl, rfl⟩
  go_wp2_with fail
  refine (N3.out _ (HT.out.of hw_w5)).mono ?_; rintro e6 w6 ⟨rfl, h6⟩
  have v0_w6 := (h6.cells _ _ sv_w5).trans v0_w5
  have v1_w6 := (h6.cells _ _ sv_w5).trans v1_w5
  have v2_w6 := (h6.cells _ _ sv_w5).trans v2_w5
  have v3_w6 := (h6.cells _ _ sv_w5).trans v3_w5
  have a0_w6 := (h6.cells _ _ sa_w5).trans a0_w5
  have a1_w6 := (h6.cells _ _ sa_w5).trans a1_w5
  have a2_w6 := (h6.cells _ _ sa_w5).trans a2_w5
  have a3_w6 := (h6.cells _ _ sa_w5).trans a3_w5
  have b0_w6 := (h6.cells _ _ sb_w5).trans b0_w5
  have b1_w6 := (h6.cells _ _ sb_w5).trans b1_w5
  have b2_w6 := (h6.cells _ _ sb_w5).trans b2_w5
  have b3_w6 := (h6.cells _ _ sb_w5).trans b3_w5
  have sv_w6 := Nat.lt_of_lt_of_le sv_w5 h6.size
  have sa_w6 := Nat.lt_of_lt_of_le sa_w5 h6.size
  have sb_w6 := Nat.lt_of_lt_of_le sb_w5 h6.size
  have Iv_w6 := Iv_w5.of h6
  have Ia_w6 := Ia_w5.of h6
  have Ib_w6 := Ib_w5.of h6
  have hw_w6 := hw_w5.trans h6
  clear v0_w5 v1_w5 v2_w5 v3_w5 a0_w5 a1_w5 a2_w5 a3_w5 b0_w5 b1_w5 b2_w5 b3_w5 sv_w5 sa_w5 sb_w5 Iv_w5 Ia_w5 Ib_w5 hw_w5 h6
  go_wp2_with fail
  refine (f_any x _).mono ?_; rintro eq wq ⟨rfl, rfl⟩
  go_wp2_with fail
  refine (Nm.out _ (HT.out.of hw_w6)).mono ?_; rintro e7 w7 ⟨rfl, h7⟩
  have v0_w7 := (h7.cells _ _ sv_w6).trans v0_w6
  have v1_w7 := (h7.cells _ _ sv_w6).trans v1_w6
  have v2_w7 := (h7.cells _ _ sv_w6).trans v2_w6
  have v3_w7 := (h7.cells _ _ sv_w6).trans v3_w6
  have a0_w7 := (h7.cells _ _ sa_w6).trans a0_w6
  have a1_w7 := (h7.cells _ _ sa_w6).trans a1_w6
  have a2_w7 := (h7.cells _ _ sa_w6).trans a2_w6
  have a3_w7 := (h7.cells _ _ sa_w6).trans a3_w6
  have b0_w7 := (h7.cells _ _ sb_w6).trans b0_w6
  have b1_w7 := (h7.cells _ _ sb_w6).trans b1_w6
  have b2_w7 := (h7.cells _ _ sb_w6).trans b2_w6
  have b3_w7 := (h7.cells _ _ sb_w6).trans b3_w6
  have sv_w7 := Nat.lt_of_lt_of_le sv_w6 h7.size
  have sa_w7 := Nat.lt_of_lt_of_le sa_w6 h7.size
  have sb_w7 := Nat.lt_of_lt_of_le sb_w6 h7.size
  have Iv_w7 := Iv_w6.of h7
  have Ia_w7 := Ia_w6.of h7
  have Ib_w7 := Ib_w6.of h7
  have hw_w7 := hw_w6.trans h7
  clear v0_w6 v1_w6 v2_w6 v3_w6 a0_w6 a1_w6 a2_w6 a3_w6 b0_w6 b1_w6 b2_w6 b3_w6 sv_w6 sa_w6 sb_w6 Iv_w6 Ia_w6 Ib_w6 hw_w6 h7
  go_wp2_with fail
  refine (PLN.out _ _ Iv_w7).mono ?_; rintro e8 w8 ⟨rfl, h8⟩
  have v0_w8 := (h8.cells _ _ sv_w7).trans v0_w7
  have v1_w8 := (h8.cells _ _ sv_w7).trans v1_w7
  have v2_w8 := (h8.cells _ _ sv_w7).trans v2_w7
  have v3_w8 := (h8.cells _ _ sv_w7).trans v3_w7
  have a0_w8 := (h8.cells _ _ sa_w7).trans a0_w7
  have a1_w8 := (h8.cells _ _ sa_w7).trans a1_w7
  have a2_w8 := (h8.cells _ _ sa_w7).trans a2_w7
  have a3_w8 := (h8.cells _ _ sa_w7).trans a3_w7
  have b0_w8 := (h8.cells _ _ sb_w7).trans b0_w7
  have b1_w8 := (h8.cells _ _ sb_w7).trans b1_w7
  have b2_w8 := (h8.cells _ _ sb_w7).trans b2_w7
  have b3_w8 := (h8.cells _ _ sb_w7).trans b3_w7
  have sv_w8 := Nat.lt_of_lt_of_le sv_w7 h8.size
  have sa_w8 := Nat.lt_of_lt_of_le sa_w7 h8.size
  have sb_w8 := Nat.lt_of_lt_of_le sb_w7 h8.size
  have Iv_w8 := Iv_w7.of h8
  have Ia_w8 := Ia_w7.of h8
  have Ib_w8 := Ib_w7.of h8
  have hw_w8 := hw_w7.trans h8
  clear v0_w7 v1_w7 v2_w7 v3_w7 a0_w7 a1_w7 a2_w7 a3_w7 b0_w7 b1_w7 b2_w7 b3_w7 sv_w7 sa_w7 sb_w7 Iv_w7 Ia_w7 Ib_w7 hw_w7 h8
  go_wp2_with fail
  refine (ALN.out _).mono ?_; rintro e9 w9 ⟨rfl, h9⟩
  have v0_w9 := (h9.cells _ _ sv_w8).trans v0_w8
  have v1_w9 := (h9.cells _ _ sv_w8).trans v1_w8
  have v2_w9 := (h9.cells _ _ sv_w8).trans v2_w8
  have v3_w9 := (h9.cells _ _ sv_w8).trans v3_w8
  have a0_w9 := (h9.cells _ _ sa_w8).trans a0_w8
  have a1_w9 := (h9.cells _ _ sa_w8).trans a1_w8
  have a2_w9 := (h9.cells _ _ sa_w8).trans a2_w8
  have a3_w9 := (h9.cells _ _ sa_w8).trans a3_w8
  have b0_w9 := (h9.cells _ _ sb_w8).trans b0_w8
  have b1_w9 := (h9.cells _ _ sb_w8).trans b1_w8
  have b2_w9 := (h9.cells _ _ sb_w8).trans b2_w8
  have b3_w9 := (h9.cells _ _ sb_w8).trans b3_w8
  have sv_w9 := Nat.lt_of_lt_of_le sv_w8 h9.size
  have sa_w9 := Nat.lt_of_lt_of_le sa_w8 h9.size
  have sb_w9 := Nat.lt_of_lt_of_le sb_w8 h9.size
  have Iv_w9 := Iv_w8.of h9
  have Ia_w9 := Ia_w8.of h9
  have Ib_w9 := Ib_w8.of h9
  have hw_w9 := hw_w8.trans h9
  clear v0_w8 v1_w8 v2_w8 v3_w8 a0_w8 a1_w8 a2_w8 a3_w8 b0_w8 b1_w8 b2_w8 b3_w8 sv_w8 sa_w8 sb_w8 Iv_w8 Ia_w8 Ib_w8 hw_w8 h9
  go_wp2_with fail
  refine (g_any y _).mono ?_; rintro eq wq ⟨rfl, rfl⟩
  go_wp2_with fail
  refine (g_any z _).mono ?_; rintro eq wq ⟨rfl, rfl⟩
  go_wp2_with fail
  refine (A4.out _ (HT.out.of hw_w9)).mono ?_; rintro e10 w10 ⟨rfl, h10⟩
  have v0_w10 := (h10.cells _ _ sv_w9).trans v0_w9
  have v1_w10 := (h10.cells _ _ sv_w9).trans v1_w9
  have v2_w10 := (h10.cells _ _ sv_w9).trans v2_w9
  have v3_w10 := (h10.cells _ _ sv_w9).trans v3_w9
  have a0_w10 := (h10.cells _ _ sa_w9).trans a0_w9
  have a1_w10 := (h10.cells _ _ sa_w9).trans a1_w9
  have a2_w10 := (h10.cells _ _ sa_w9).trans a2_w9
  have a3_w10 := (h10.cells _ _ sa_w9).trans a3_w9
  have b0_w10 := (h10.cells _ _ sb_w9).trans b0_w9
  have b1_w10 := (h10.cells _ _ sb_w9).trans b1_w9
  have b2_w10 := (h10.cells _ _ sb_w9).trans b2_w9
  have b3_w10 := (h10.cells _ _ sb_w9).trans b3_w9
  have sv_w10 := Nat.lt_of_lt_of_le sv_w9 h10.size
  have sa_w10 := Nat.lt_of_lt_of_le sa_w9 h10.size
  have sb_w10 := Nat.lt_of_lt_of_le sb_w9 h10.size
  have Iv_w10 := Iv_w9.of h10
  have Ia_w10 := Ia_w9.of h10
  have Ib_w10 := Ib_w9.of h10
  have hw_w10 := hw_w9.trans h10
  clear v0_w9 v1_w9 v2_w9 v3_w9 a0_w9 a1_w9 a2_w9 a3_w9 b0_w9 b1_w9 b2_w9 b3_w9 sv_w9 sa_w9 sb_w9 Iv_w9 Ia_w9 Ib_w9 hw_w9 h10
  go_wp2_with fail
  refine (g_any y _).mono ?_; rintro eq wq ⟨rfl, rfl⟩
  go_wp2_with fail
  refine (g_any z _).mono ?_; rintro eq wq ⟨rfl, rfl⟩
  go_wp2_with fail
  refine (A3.out _ (HT.out.of hw_w10)).mono ?_; rintro e11 w11 ⟨rfl, h11⟩
  have v0_w11 := (h11.cells _ _ sv_w10).trans v0_w10
  have v1_w11 := (h11.cells _ _ sv_w10).trans v1_w10
  have v2_w11 := (h11.cells _ _ sv_w10).trans v2_w10
  have v3_w11 := (h11.cells _ _ sv_w10).trans v3_w10
  have a0_w11 := (h11.cells _ _ sa_w10).trans a0_w10
  have a1_w11 := (h11.cells _ _ sa_w10).trans a1_w10
  have a2_w11 := (h11.cells _ _ sa_w10).trans a2_w10
  have a3_w11 := (h11.cells _ _ sa_w10).trans a3_w10
  have b0_w11 := (h11.cells _ _ sb_w10).trans b0_w10
  have b1_w11 := (h11.cells _ _ sb_w10).trans b1_w10
  have b2_w11 := (h11.cells _ _ sb_w10).trans b2_w10
  have b3_w11 := (h11.cells _ _ sb_w10).trans b3_w10
  have sv_w11 := Nat.lt_of_lt_of_le sv_w10 h11.size
  have sa_w11 := Nat.lt_of_lt_of_le sa_w10 h11.size
  have sb_w11 := Nat.lt_of_lt_of_le sb_w10 h11.size
  have Iv_w11 := Iv_w10.of h11
  have Ia_w11 := Ia_w10.of h11
  have Ib_w11 := Ib_w10.of h11
  have hw_w11 := hw_w10.trans h11
  clear v0_w10 v1_w10 v2_w10 v3_w10 a0_w10 a1_w10 a2_w10 a3_w10 b0_w10 b1_w10 b2_w10 b3_w10 sv_w10 sa_w10 sb_w10 Iv_w10 Ia_w10 Ib_w10 hw_w10 h11
  go_wp2_with fail
  refine (g_any y _).mono ?_; rintro eq wq ⟨rfl, rfl⟩
  go_wp2_with fail
  refine (g_any z _).mono ?_; rintro eq wq ⟨rfl, rfl⟩
  go_wp2_with fail
  refine (Am.out _ (HT.out.of hw_w11)).mono ?_; rintro e12 w12 ⟨rfl, h12⟩
  have v0_w12 := (h12.cells _ _ sv_w11).trans v0_w11
  have v1_w12 := (h12.cells _ _ sv_w11).trans v1_w11
  have v2_w12 := (h12.cells _ _ sv_w11).trans v2_w11
  have v3_w12 := (h12.cells _ _ sv_w11).trans v3_w11
  have a0_w12 := (h12.cells _ _ sa_w11).trans a0_w11
  have a1_w12 := (h12.cells _ _ sa_w11).trans a1_w11
  have a2_w12 := (h12.cells _ _ sa_w11).trans a2_w11
  have a3_w12 := (h12.cells _ _ sa_w11).trans a3_w11
  have b0_w12 := (h12.cells _ _ sb_w11).trans b0_w11
  have b1_w12 := (h12.cells _ _ sb_w11).trans b1_w11
  have b2_w12 := (h12.cells _ _ sb_w11).trans b2_w11
  have b3_w12 := (h12.cells _ _ sb_w11).trans b3_w11
  have sv_w12 := Nat.lt_of_lt_of_le sv_w11 h12.size
  have sa_w12 := Nat.lt_of_lt_of_le sa_w11 h12.size
  have sb_w12 := Nat.lt_of_lt_of_le sb_w11 h12.size
  have Iv_w12 := Iv_w11.of h12
  have Ia_w12 := Ia_w11.of h12
  have Ib_w12 := Ib_w11.of h12
  have hw_w12 := hw_w11.trans h12
  clear v0_w11 v1_w11 v2_w11 v3_w11 a0_w11 a1_w11 a2_w11 a3_w11 b0_w11 b1_w11 b2_w11 b3_w11 sv_w11 sa_w11 sb_w11 Iv_w11 Ia_w11 Ib_w11 hw_w11 h12
  go_wp2_with fail
  refine (SUMA.out _ _ _ Ia_w12 Ib_w12).mono ?_; rintro e13 w13 ⟨b1, g1, M1, E1, rfl, I1, hE1, hl1, hv1, h13⟩
  have v0_w13 := (h13.cells _ _ sv_w12).trans v0_w12
  have v1_w13 := (h13.cells _ _ sv_w12).trans v1_w12
  have v2_w13 := (h13.cells _ _ sv_w12).trans v2_w12
  have v3_w13 := (h13.cells _ _ sv_w12).trans v3_w12
  have a0_w13 := (h13.cells _ _ sa_w12).trans a0_w12
  have a1_w13 := (h13.cells _ _ sa_w12).trans a1_w12
  have a2_w13 := (h13.cells _ _ sa_w12).trans a2_w12
  have a3_w13 := (h13.cells _ _ sa_w12).trans a3_w12
  have b0_w13 := (h13.cells _ _ sb_w12).trans b0_w12
  have b1_w13 := (h13.cells _ _ sb_w12).trans b1_w12
  have b2_w13 := (h13.cells _ _ sb_w12).trans b2_w12
  have b3_w13 := (h13.cells _ _ sb_w12).trans b3_w12
  have sv_w13 := Nat.lt_of_lt_of_le sv_w12 h13.size
  have sa_w13 := Nat.lt_of_lt_of_le sa_w12 h13.size
  have sb_w13 := Nat.lt_of_lt_of_le sb_w12 h13.size
  have Iv_w13 := Iv_w12.of h13
  have Ia_w13 := Ia_w12.of h13
  have Ib_w13 := Ib_w12.of h13
  have hw_w13 := hw_w12.trans h13
  clear v0_w12 v1_w12 v2_w12 v3_w12 a0_w12 a1_w12 a2_w12 a3_w12 b0_w12 b1_w12 b2_w12 b3_w12 sv_w12 sa_w12 sb_w12 Iv_w12 Ia_w12 Ib_w12 hw_w12 h13
  go_wp2_with fail
  refine (PLA.out _ _ _ _ hE1 hl1 hv1 _ I1).mono ?_; rintro e14 w14 ⟨rfl, h14⟩
  have v0_w14 := (h14.cells _ _ sv_w13).trans v0_w13
  have v1_w14 := (h14.cells _ _ sv_w13).trans v1_w13
  have v2_w14 := (h14.cells _ _ sv_w13).trans v2_w13
  have v3_w14 := (h14.cells _ _ sv_w13).trans v3_w13
  have a0_w14 := (h14.cells _ _ sa_w13).trans a0_w13
  have a1_w14 := (h14.cells _ _ sa_w13).trans a1_w13
  have a2_w14 := (h14.cells _ _ sa_w13).trans a2_w13
  have a3_w14 := (h14.cells _ _ sa_w13).trans a3_w13
  have b0_w14 := (h14.cells _ _ sb_w13).trans b0_w13
  have b1_w14 := (h14.cells _ _ sb_w13).trans b1_w13
  have b2_w14 := (h14.cells _ _ sb_w13).trans b2_w13
  have b3_w14 := (h14.cells _ _ sb_w13).trans b3_w13
  have sv_w14 := Nat.lt_of_lt_of_le sv_w13 h14.size
  have sa_w14 := Nat.lt_of_lt_of_le sa_w13 h14.size
  have sb_w14 := Nat.lt_of_lt_of_le sb_w13 h14.size
  have Iv_w14 := Iv_w13.of h14
  have Ia_w14 := Ia_w13.of h14
  have Ib_w14 := Ib_w13.of h14
  have hw_w14 := hw_w13.trans h14
  clear v0_w13 v1_w13 v2_w13 v3_w13 a0_w13 a1_w13 a2_w13 a3_w13 b0_w13 b1_w13 b2_w13 b3_w13 sv_w13 sa_w13 sb_w13 Iv_w13 Ia_w13 Ib_w13 hw_w13 h14
  clear I1 hE1 hl1 hv1
  go_wp2_with fail
  refine (ALA.out _).mono ?_; rintro e15 w15 ⟨rfl, h15⟩
  have v0_w15 := (h15.cells _ _ sv_w14).trans v0_w14
  have v1_w15 := (h15.cells _ _ sv_w14).trans v1_w14
  have v2_w15 := (h15.cells _ _ sv_w14).trans v2_w14
  have v3_w15 := (h15.cells _ _ sv_w14).trans v3_w14
  have a0_w15 := (h15.cells _ _ sa_w14).trans a0_w14
  have a1_w15 := (h15.cells _ _ sa_w14).trans a1_w14
  have a2_w15 := (h15.cells _ _ sa_w14).trans a2_w14
  have a3_w15 := (h15.cells _ _ sa_w14).trans a3_w14
  have b0_w15 := (h15.cells _ _ sb_w14).trans b0_w14
  have b1_w15 := (h15.cells _ _ sb_w14).trans b1_w14
  have b2_w15 := (h15.cells _ _ sb_w14).trans b2_w14
  have b3_w15 := (h15.cells _ _ sb_w14).trans b3_w14
  have sv_w15 := Nat.lt_of_lt_of_le sv_w14 h15.size
  have sa_w15 := Nat.lt_of_lt_of_le sa_w14 h15.size
  have sb_w15 := Nat.lt_of_lt_of_le sb_w14 h15.size
  have Iv_w15 := Iv_w14.of h15
  have Ia_w15 := Ia_w14.of h15
  have Ib_w15 := Ib_w14.of h15
  have hw_w15 := hw_w14.trans h15
  clear v0_w14 v1_w14 v2_w14 v3_w14 a0_w14 a1_w14 a2_w14 a3_w14 b0_w14 b1_w14 b2_w14 b3_w14 sv_w14 sa_w14 sb_w14 Iv_w14 Ia_w14 Ib_w14 hw_w14 h15
  go_wp2_with fail
  refine (g_any y _).mono ?_; rintro eq wq ⟨rfl, rfl⟩
  go_wp2_with fail
  refine (g_any z _).mono ?_; rintro eq wq ⟨rfl, rfl⟩
  go_wp2_with fail
  refine (M4.out _ (HT.out.of hw_w15)).mono ?_; rintro e16 w16 ⟨rfl, h16⟩
  have v0_w16 := (h16.cells _ _ sv_w15).trans v0_w15
  have v1_w16 := (h16.cells _ _ sv_w15).trans v1_w15
  have v2_w16 := (h16.cells _ _ sv_w15).trans v2_w15
  have v3_w16 := (h16.cells _ _ sv_w15).trans v3_w15
  have a0_w16 := (h16.cells _ _ sa_w15).trans a0_w15
  have a1_w16 := (h16.cells _ _ sa_w15).trans a1_w15
  have a2_w16 := (h16.cells _ _ sa_w15).trans a2_w15
  have a3_w16 := (h16.cells _ _ sa_w15).trans a3_w15
  have b0_w16 := (h16.cells _ _ sb_w15).trans b0_w15
  have b1_w16 := (h16.cells _ _ sb_w15).trans b1_w15
  have b2_w16 := (h16.cells _ _ sb_w15).trans b2_w15
  have b3_w16 := (h16.cells _ _ sb_w15).trans b3_w15
  have sv_w16 := Nat.lt_of_lt_of_le sv_w15 h16.size
  have sa_w16 := Nat.lt_of_lt_of_le sa_w15 h16.size
  have sb_w16 := Nat.lt_of_lt_of_le sb_w15 h16.size
  have Iv_w16 := Iv_w15.of h16
  have Ia_w16 := Ia_w15.of h16
  have Ib_w16 := Ib_w15.of h16
  have hw_w16 := hw_w15.trans h16
  clear v0_w15 v1_w15 v2_w15 v3_w15 a0_w15 a1_w15 a2_w15 a3_w15 b0_w15 b1_w15 b2_w15 b3_w15 sv_w15 sa_w15 sb_w15 Iv_w15 Ia_w15 Ib_w15 hw_w15 h16
  go_wp2_with fail
  refine (g_any y _).mono ?_; rintro eq wq ⟨rfl, rfl⟩
  go_wp2_with fail
  refine (g_any z _).mono ?_; rintro eq wq ⟨rfl, rfl⟩
  go_wp2_with fail
  refine (M3.out _ (HT.out.of hw_w16)).mono ?_; rintro e17 w17 ⟨rfl, h17⟩
  have v0_w17 := (h17.cells _ _ sv_w16).trans v0_w16
  have v1_w17 := (h17.cells _ _ sv_w16).trans v1_w16
  have v2_w17 := (h17.cells _ _ sv_w16).trans v2_w16
  have v3_w17 := (h17.cells _ _ sv_w16).trans v3_w16
  have a0_w17 := (h17.cells _ _ sa_w16).trans a0_w16
  have a1_w17 := (h17.cells _ _ sa_w16).trans a1_w16
  have a2_w17 := (h17.cells _ _ sa_w16).trans a2_w16
  have a3_w17 := (h17.cells _ _ sa_w16).trans a3_w16
  have b0_w17 := (h17.cells _ _ sb_w16).trans b0_w16
  have b1_w17 := (h17.cells _ _ sb_w16).trans b1_w16
  have b2_w17 := (h17.cells _ _ sb_w16).trans b2_w16
  have b3_w17 := (h17.cells _ _ sb_w16).trans b3_w16
  have sv_w17 := Nat.lt_of_lt_of_le sv_w16 h17.size
  have sa_w17 := Nat.lt_of_lt_of_le sa_w16 h17.size
  have sb_w17 := Nat.lt_of_lt_of_le sb_w16 h17.size
  have Iv_w17 := Iv_w16.of h17
  have Ia_w17 := Ia_w16.of h17
  have Ib_w17 := Ib_w16.of h17
  have hw_w17 := hw_w16.trans h17
  clear v0_w16 v1_w16 v2_w16 v3_w16 a0_w16 a1_w16 a2_w16 a3_w16 b0_w16 b1_w16 b2_w16 b3_w16 sv_w16 sa_w16 sb_w16 Iv_w16 Ia_w16 Ib_w16 hw_w16 h17
  go_wp2_with fail
  refine (g_any y _).mono ?_; rintro eq wq ⟨rfl, rfl⟩
  go_wp2_with fail
  refine (g_any z _).mono ?_; rintro eq wq ⟨rfl, rfl⟩
  go_wp2_with fail
  refine (Mm.out _ (HT.out.of hw_w17)).mono ?_; rintro e18 w18 ⟨rfl, h18⟩
  have v0_w18 := (h18.cells _ _ sv_w17).trans v0_w17
  have v1_w18 := (h18.cells _ _ sv_w17).trans v1_w17
  have v2_w18 := (h18.cells _ _ sv_w17).trans v2_w17
  have v3_w18 := (h18.cells _ _ sv_w17).trans v3_w17
  have a0_w18 := (h18.cells _ _ sa_w17).trans a0_w17
  have a1_w18 := (h18.cells _ _ sa_w17).trans a1_w17
  have a2_w18 := (h18.cells _ _ sa_w17).trans a2_w17
  have a3_w18 := (h18.cells _ _ sa_w17).trans a3_w17
  have b0_w18 := (h18.cells _ _ sb_w17).trans b0_w17
  have b1_w18 := (h18.cells _ _ sb_w17).trans b1_w17
  have b2_w18 := (h18.cells _ _ sb_w17).trans b2_w17
  have b3_w18 := (h18.cells _ _ sb_w17).trans b3_w17
  have sv_w18 := Nat.lt_of_lt_of_le sv_w17 h18.size
  have sa_w18 := Nat.lt_of_lt_of_le sa_w17 h18.size
  have sb_w18 := Nat.lt_of_lt_of_le sb_w17 h18.size
  have Iv_w18 := Iv_w17.of h18
  have Ia_w18 := Ia_w17.of h18
  have Ib_w18 := Ib_w17.of h18
  have hw_w18 := hw_w17.trans h18
  clear v0_w17 v1_w17 v2_w17 v3_w17 a0_w17 a1_w17 a2_w17 a3_w17 b0_w17 b1_w17 b2_w17 b3_w17 sv_w17 sa_w17 sb_w17 Iv_w17 Ia_w17 Ib_w17 hw_w17 h18
  go_wp2_with fail
  refine (TIM.out _ _ _ Ia_w18 Ib_w18).mono ?_; rintro e19 w19 ⟨g2, rfl, I2, h19⟩
  have v0_w19 := (h19.cells _ _ sv_w18).trans v0_w18
  have v1_w19 := (h19.cells _ _ sv_w18).trans v1_w18
  have v2_w19 := (h19.cells _ _ sv_w18).trans v2_w18
  have v3_w19 := (h19.cells _ _ sv_w18).trans v3_w18
  have a0_w19 := (h19.cells _ _ sa_w18).trans a0_w18
  have a1_w19 := (h19.cells _ _ sa_w18).trans a1_w18
  have a2_w19 := (h19.cells _ _ sa_w18).trans a2_w18
  have a3_w19 := (h19.cells _ _ sa_w18).trans a3_w18
  have b0_w19 := (h19.cells _ _ sb_w18).trans b0_w18
  have b1_w19 := (h19.cells _ _ sb_w18).trans b1_w18
  have b2_w19 := (h19.cells _ _ sb_w18).trans b2_w18
  have b3_w19 := (h19.cells _ _ sb_w18).trans b3_w18
  have sv_w19 := Nat.lt_of_lt_of_le sv_w18 h19.size
  have sa_w19 := Nat.lt_of_lt_of_le sa_w18 h19.size
  have sb_w19 := Nat.lt_of_lt_of_le sb_w18 h19.size
  have Iv_w19 := Iv_w18.of h19
  have Ia_w19 := Ia_w18.of h19
  have Ib_w19 := Ib_w18.of h19
  have hw_w19 := hw_w18.trans h19
  clear v0_w18 v1_w18 v2_w18 v3_w18 a0_w18 a1_w18 a2_w18 a3_w18 b0_w18 b1_w18 b2_w18 b3_w18 sv_w18 sa_w18 sb_w18 Iv_w18 Ia_w18 Ib_w18 hw_w18 h19
  go_wp2_with fail
  refine (PLT.out _ _ I2).mono ?_; rintro e20 w20 ⟨rfl, h20⟩
  have v0_w20 := (h20.cells _ _ sv_w19).trans v0_w19
  have v1_w20 := (h20.cells _ _ sv_w19).trans v1_w19
  have v2_w20 := (h20.cells _ _ sv_w19).trans v2_w19
  have v3_w20 := (h20.cells _ _ sv_w19).trans v3_w19
  have a0_w20 := (h20.cells _ _ sa_w19).trans a0_w19
  have a1_w20 := (h20.cells _ _ sa_w19).trans a1_w19
  have a2_w20 := (h20.cells _ _ sa_w19).trans a2_w19
  have a3_w20 := (h20.cells _ _ sa_w19).trans a3_w19
  have b0_w20 := (h20.cells _ _ sb_w19).trans b0_w19
  have b1_w20 := (h20.cells _ _ sb_w19).trans b1_w19
  have b2_w20 := (h20.cells _ _ sb_w19).trans b2_w19
  have b3_w20 := (h20.cells _ _ sb_w19).trans b3_w19
  have sv_w20 := Nat.lt_of_lt_of_le sv_w19 h20.size
  have sa_w20 := Nat.lt_of_lt_of_le sa_w19 h20.size
  have sb_w20 := Nat.lt_of_lt_of_le sb_w19 h20.size
  have Iv_w20 := Iv_w19.of h20
  have Ia_w20 := Ia_w19.of h20
  have Ib_w20 := Ib_w19.of h20
  have hw_w20 := hw_w19.trans h20
  clear v0_w19 v1_w19 v2_w19 v3_w19 a0_w19 a1_w19 a2_w19 a3_w19 b0_w19 b1_w19 b2_w19 b3_w19 sv_w19 sa_w19 sb_w19 Iv_w19 Ia_w19 Ib_w19 hw_w19 h20
  clear I2
  go_wp2_with fail
  refine (ALM.out _).mono ?_; rintro e21 w21 ⟨rfl, h21⟩
  have v0_w21 := (h21.cells _ _ sv_w20).trans v0_w20
  have v1_w21 := (h21.cells _ _ sv_w20).trans v1_w20
  have v2_w21 := (h21.cells _ _ sv_w20).trans v2_w20
  have v3_w21 := (h21.cells _ _ sv_w20).trans v3_w20
  have a0_w21 := (h21.cells _ _ sa_w20).trans a0_w20
  have a1_w21 := (h21.cells _ _ sa_w20).trans a1_w20
  have a2_w21 := (h21.cells _ _ sa_w20).trans a2_w20
  have a3_w21 := (h21.cells _ _ sa_w20).trans a3_w20
  have b0_w21 := (h21.cells _ _ sb_w20).trans b0_w20
  have b1_w21 := (h21.cells _ _ sb_w20).trans b1_w20
  have b2_w21 := (h21.cells _ _ sb_w20).trans b2_w20
  have b3_w21 := (h21.cells _ _ sb_w20).trans b3_w20
  have sv_w21 := Nat.lt_of_lt_of_le sv_w20 h21.size
  have sa_w21 := Nat.lt_of_lt_of_le sa_w20 h21.size
  have sb_w21 := Nat.lt_of_lt_of_le sb_w20 h21.size
  have Iv_w21 := Iv_w20.of h21
  have Ia_w21 := Ia_w20.of h21
  have Ib_w21 := Ib_w20.of h21
  have hw_w21 := hw_w20.trans h21
  clear v0_w20 v1_w20 v2_w20 v3_w20 a0_w20 a1_w20 a2_w20 a3_w20 b0_w20 b1_w20 b2_w20 b3_w20 sv_w20 sa_w20 sb_w20 Iv_w20 Ia_w20 Ib_w20 hw_w20 h21
  go_wp2_with fail
  refine (g_any y _).mono ?_; rintro eq wq ⟨rfl, rfl⟩
  go_wp2_with fail
  refine (g_any z _).mono ?_; rintro eq wq ⟨rfl, rfl⟩
  go_wp2_with fail
  refine (g_any y _).mono ?_; rintro eq wq ⟨rfl, rfl⟩
  go_wp2_with fail
  refine (F4.out _ (HT.out.of hw_w21)).mono ?_; rintro e22 w22 ⟨rfl, h22⟩
  have v0_w22 := (h22.cells _ _ sv_w21).trans v0_w21
  have v1_w22 := (h22.cells _ _ sv_w21).trans v1_w21
  have v2_w22 := (h22.cells _ _ sv_w21).trans v2_w21
  have v3_w22 := (h22.cells _ _ sv_w21).trans v3_w21
  have a0_w22 := (h22.cells _ _ sa_w21).trans a0_w21
  have a1_w22 := (h22.cells _ _ sa_w21).trans a1_w21
  have a2_w22 := (h22.cells _ _ sa_w21).trans a2_w21
  have a3_w22 := (h22.cells _ _ sa_w21).trans a3_w21
  have b0_w22 := (h22.cells _ _ sb_w21).trans b0_w21
  have b1_w22 := (h22.cells _ _ sb_w21).trans b1_w21
  have b2_w22 := (h22.cells _ _ sb_w21).trans b2_w21
  have b3_w22 := (h22.cells _ _ sb_w21).trans b3_w21
  have sv_w22 := Nat.lt_of_lt_of_le sv_w21 h22.size
  have sa_w22 := Nat.lt_of_lt_of_le sa_w21 h22.size
  have sb_w22 := Nat.lt_of_lt_of_le sb_w21 h22.size
  have Iv_w22 := Iv_w21.of h22
  have Ia_w22 := Ia_w21.of h22
  have Ib_w22 := Ib_w21.of h22
  have hw_w22 := hw_w21.trans h22
  clear v0_w21 v1_w21 v2_w21 v3_w21 a0_w21 a1_w21 a2_w21 a3_w21 b0_w21 b1_w21 b2_w21 b3_w21 sv_w21 sa_w21 sb_w21 Iv_w21 Ia_w21 Ib_w21 hw_w21 h22
  go_wp2_with fail
  refine (g_any y _).mono ?_; rintro eq wq ⟨rfl, rfl⟩
  go_wp2_with fail
  refine (g_any z _).mono ?_; rintro eq wq ⟨rfl, rfl⟩
  go_wp2_with fail
  refine (g_any y _).mono ?_; rintro eq wq ⟨rfl, rfl⟩
  go_wp2_with fail
  refine (F3.out _ (HT.out.of hw_w22)).mono ?_; rintro e23 w23 ⟨rfl, h23⟩
  have v0_w23 := (h23.cells _ _ sv_w22).trans v0_w22
  have v1_w23 := (h23.cells _ _ sv_w22).trans v1_w22
  have v2_w23 := (h23.cells _ _ sv_w22).trans v2_w22
  have v3_w23 := (h23.cells _ _ sv_w22).trans v3_w22
  have a0_w23 := (h23.cells _ _ sa_w22).trans a0_w22
  have a1_w23 := (h23.cells _ _ sa_w22).trans a1_w22
  have a2_w23 := (h23.cells _ _ sa_w22).trans a2_w22
  have a3_w23 := (h23.cells _ _ sa_w22).trans a3_w22
  have b0_w23 := (h23.cells _ _ sb_w22).trans b0_w22
  have b1_w23 := (h23.cells _ _ sb_w22).trans b1_w22
  have b2_w23 := (h23.cells _ _ sb_w22).trans b2_w22
  have b3_w23 := (h23.cells _ _ sb_w22).trans b3_w22
  have sv_w23 := Nat.lt_of_lt_of_le sv_w22 h23.size
  have sa_w23 := Nat.lt_of_lt_of_le sa_w22 h23.size
  have sb_w23 := Nat.lt_of_lt_of_le sb_w22 h23.size
  have Iv_w23 := Iv_w22.of h23
  have Ia_w23 := Ia_w22.of h23
  have Ib_w23 := Ib_w22.of h23
  have hw_w23 := hw_w22.trans h23
  clear v0_w22 v1_w22 v2_w22 v3_w22 a0_w22 a1_w22 a2_w22 a3_w22 b0_w22 b1_w22 b2_w22 b3_w22 sv_w22 sa_w22 sb_w22 Iv_w22 Ia_w22 Ib_w22 hw_w22 h23
  go_wp2_with fail
  refine (g_any y _).mono ?_; rintro eq wq ⟨rfl, rfl⟩
  go_wp2_with fail
  refine (g_any z _).mono ?_; rintro eq wq ⟨rfl, rfl⟩
  go_wp2_with fail
  refine (g_any y _).mono ?_; rintro eq wq ⟨rfl, rfl⟩
  go_wp2_with fail
  refine (Fm.out _ (HT.out.of hw_w23)).mono ?_; rintro e24 w24 ⟨rfl, h24⟩
  have v0_w24 := (h24.cells _ _ sv_w23).trans v0_w23
  have v1_w24 := (h24.cells _ _ sv_w23).trans v1_w23
  have v2_w24 := (h24.cells _ _ sv_w23).trans v2_w23
  have v3_w24 := (h24.cells _ _ sv_w23).trans v3_w23
  have a0_w24 := (h24.cells _ _ sa_w23).trans a0_w23
  have a1_w24 := (h24.cells _ _ sa_w23).trans a1_w23
  have a2_w24 := (h24.cells _ _ sa_w23).trans a2_w23
  have a3_w24 := (h24.cells _ _ sa_w23).trans a3_w23
  have b0_w24 := (h24.cells _ _ sb_w23).trans b0_w23
  have b1_w24 := (h24.cells _ _ sb_w23).trans b1_w23
  have b2_w24 := (h24.cells _ _ sb_w23).trans b2_w23
  have b3_w24 := (h24.cells _ _ sb_w23).trans b3_w23
  have sv_w24 := Nat.lt_of_lt_of_le sv_w23 h24.size
  have sa_w24 := Nat.lt_of_lt_of_le sa_w23 h24.size
  have sb_w24 := Nat.lt_of_lt_of_le sb_w23 h24.size
  have Iv_w24 := Iv_w23.of h24
  have Ia_w24 := Ia_w23.of h24
  have Ib_w24 := Ib_w23.of h24
  have hw_w24 := hw_w23.trans h24
  clear v0_w23 v1_w23 v2_w23 v3_w23 a0_w23 a1_w23 a2_w23 a3_w23 b0_w23 b1_w23 b2_w23 b3_w23 sv_w23 sa_w23 sb_w23 Iv_w23 Ia_w23 Ib_w23 hw_w23 h24
  go_upto_region 28 with fail
  refine wp_region_schG (fun W => W.cell? ⟨w4.heap.size + 1, 0, none⟩ = some (.int .i64 0) ∧ W.cell? ⟨w4.heap.size + 1, 1, none⟩ = some (.bool na) ∧ W.cell? ⟨w4.heap.size + 1, 2, none⟩ = some (.pointer (some ⟨ga, 0, none⟩)) ∧ W.cell? ⟨w4.heap.size + 1, 3, none⟩ = some (.int .i64 ea) ∧ W.cell? ⟨w4.heap.size + 2, 0, none⟩ = some (.int .i64 0) ∧ W.cell? ⟨w4.heap.size + 2, 1, none⟩ = some (.bool nb) ∧ W.cell? ⟨w4.heap.size + 2, 2, none⟩ = some (.pointer (some ⟨gb, 0, none⟩)) ∧ W.cell? ⟨w4.heap.size + 2, 3, none⟩ = some (.int .i64 eb) ∧ w4.heap.size + 1 < W.heap.size ∧ w4.heap.size + 2 < W.heap.size ∧ IntB W ga (ma : Int) ∧ IntB W gb (mb : Int) ∧ Within w24 W) 15 (.firm 0 (.firm 1 (.firm 2 (.firm 3 (.firm 5 (.firm 7 (.one 4 (.one 6 (.one 8 (.firm 9 (.firm 10 (.firm 11 (.firm 12 (.one 13 (.firm 14 (.one 15 .nil)))))))))))))))) (by kernel_rfl) (by kernel_rfl) ⟨a0_w24, a1_w24, a2_w24, a3_w24, b0_w24, b1_w24, b2_w24, b3_w24, sa_w24, sb_w24, Ia_w24, Ib_w24, Within.refl _⟩ ?_
  rintro w0 ⟨ra0, ra1, ra2, ra3, rb0, rb1, rb2, rb3, s1_, s2_, hJa, hJb, hw0⟩
  try simp only [Act.put, List.setIfInBounds_toArray, List.set_cons_zero, List.set_cons_succ]
  apply sch_firm rfl rfl (by repeat (first | with_reducible exact Within.refl _ | with_reducible assumption | with_reducible refine Within.alloc ?_ _ | with_reducible refine Within.drew ?_ | with_reducible refine Within.drewN ?_ _ | with_reducible refine Within.setCell ?_ (by first | (simp; done) | (simp; omega)) _ | with_reducible refine Within.trans ?_ (by assumption)))
  · intro wq hq
    have hcq := hq.cells
    clear hq
    go_simp
    first | rfl | (trace_state; fail)
  try simp only [Act.put, List.setIfInBounds_toArray, List.set_cons_zero, List.set_cons_succ]
  apply sch_firm rfl rfl (by repeat (first | with_reducible exact Within.refl _ | with_reducible assumption | with_reducible refine Within.alloc ?_ _ | with_reducible refine Within.drew ?_ | with_reducible refine Within.drewN ?_ _ | with_reducible refine Within.setCell ?_ (by first | (simp; done) | (simp; omega)) _ | with_reducible refine Within.trans ?_ (by assumption)))
  · intro wq hq
    have hcq := hq.cells
    clear hq
    go_simp
    first | rfl | (trace_state; fail)
  try simp only [Act.put, List.setIfInBounds_toArray, List.set_cons_zero, List.set_cons_succ]
  apply sch_firm rfl rfl (by repeat (first | with_reducible exact Within.refl _ | with_reducible assumption | with_reducible refine Within.alloc ?_ _ | with_reducible refine Within.drew ?_ | with_reducible refine Within.drewN ?_ _ | with_reducible refine Within.setCell ?_ (by first | (simp; done) | (simp; omega)) _ | with_reducible refine Within.trans ?_ (by assumption)))
  · intro wq hq
    have hcq := hq.cells
    clear hq
    go_simp
    first | rfl | (trace_state; fail)
  try simp only [Act.put, List.setIfInBounds_toArray, List.set_cons_zero, List.set_cons_succ]
  apply sch_firm rfl rfl (by repeat (first | with_reducible exact Within.refl _ | with_reducible assumption | with_reducible refine Within.alloc ?_ _ | with_reducible refine Within.drew ?_ | with_reducible refine Within.drewN ?_ _ | with_reducible refine Within.setCell ?_ (by first | (simp; done) | (simp; omega)) _ | with_reducible refine Within.trans ?_ (by assumption)))
  · intro wq hq
    have hcq := hq.cells
    clear hq
    go_simp
    first | rfl | (trace_state; fail)
  try simp only [Act.put, List.setIfInBounds_toArray, List.set_cons_zero, List.set_cons_succ]
  apply sch_firm rfl rfl (by repeat (first | with_reducible exact Within.refl _ | with_reducible assumption | with_reducible refine Within.alloc ?_ _ | with_reducible refine Within.drew ?_ | with_reducible refine Within.drewN ?_ _ | with_reducible refine Within.setCell ?_ (by first | (simp; done) | (simp; omega)) _ | with_reducible refine Within.trans ?_ (by assumption)))
  · intro wq hq
    have hcq := hq.cells
    clear hq
    go_simp
    first | rfl | (trace_state; fail)
  try simp only [Act.put, List.setIfInBounds_toArray, List.set_cons_zero, List.set_cons_succ]
  apply sch_firm rfl rfl (by repeat (first | with_reducible exact Within.refl _ | with_reducible assumption | with_reducible refine Within.alloc ?_ _ | with_reducible refine Within.drew ?_ | with_reducible refine Within.drewN ?_ _ | with_reducible refine Within.setCell ?_ (by first | (simp; done) | (simp; omega)) _ | with_reducible refine Within.trans ?_ (by assumption)))
  · intro wq hq
    have hcq := hq.cells
    clear hq
    go_simp
    first | rfl | (trace_state; fail)
  try simp only [Act.put, List.setIfInBounds_toArray, List.set_cons_zero, List.set_cons_succ]
  refine sch_one rfl rfl (fun K hK => ?_)
  go_simp
  refine (TIM.out _ _ _ (IntB.of hJa (Within.refl w0).drew) (IntB.of hJb (Within.refl w0).drew)).mono ?_; rintro ea_ wa ⟨g3, rfl, I3, h4'⟩
  have h4 : Within w0 wa := Within.trans (Within.refl w0).drew h4'
  have hJa' := hJa.of h4
  refine hK _ _ (fun _ => (by repeat (first | with_reducible exact Within.refl _ | with_reducible assumption | with_reducible refine Within.alloc ?_ _ | with_reducible refine Within.drew ?_ | with_reducible refine Within.drewN ?_ _ | with_reducible refine Within.setCell ?_ (by first | (simp; done) | (simp; omega)) _ | with_reducible refine Within.trans ?_ (by assumption)))) ?_
  clear hK K
  try simp only [Act.put, List.setIfInBounds_toArray, List.set_cons_zero, List.set_cons_succ]
  refine sch_one rfl rfl (fun K hK => ?_)
  go_simp
  refine (SUMF.out _ _ _ I3 hJa').mono ?_; rintro eb_ wb ⟨b4, g4, M4, E4, rfl, I4, hE4, hl4, hv4, h5'⟩
  have h5 : Within w0 wb := Within.trans h4 h5'
  refine hK _ _ (fun _ => (by repeat (first | with_reducible exact Within.refl _ | with_reducible assumption | with_reducible refine Within.alloc ?_ _ | with_reducible refine Within.drew ?_ | with_reducible refine Within.drewN ?_ _ | with_reducible refine Within.setCell ?_ (by first | (simp; done) | (simp; omega)) _ | with_reducible refine Within.trans ?_ (by assumption)))) ?_
  clear hK K
  try simp only [Act.put, List.setIfInBounds_toArray, List.set_cons_zero, List.set_cons_succ]
  refine sch_one rfl rfl (fun K hK => ?_)
  go_simp
  refine (PLF.out _ _ _ _ hE4 hl4 hv4 _ I4).mono ?_; rintro ec_ wc ⟨rfl, h6'⟩
  have h6 : Within w0 wc := Within.trans h5 h6'
  refine hK _ _ (fun _ => (by repeat (first | with_reducible exact Within.refl _ | with_reducible assumption | with_reducible refine Within.alloc ?_ _ | with_reducible refine Within.drew ?_ | with_reducible refine Within.drewN ?_ _ | with_reducible refine Within.setCell ?_ (by first | (simp; done) | (simp; omega)) _ | with_reducible refine Within.trans ?_ (by assumption)))) ?_
  clear hK K
  try simp only [Act.put, List.setIfInBounds_toArray, List.set_cons_zero, List.set_cons_succ]
  apply sch_firm rfl rfl (by repeat (first | with_reducible exact Within.refl _ | with_reducible assumption | with_reducible refine Within.alloc ?_ _ | with_reducible refine Within.drew ?_ | with_reducible refine Within.drewN ?_ _ | with_reducible refine Within.setCell ?_ (by first | (simp; done) | (simp; omega)) _ | with_reducible refine Within.trans ?_ (by assumption)))
  · intro wq hq
    have hcq := hq.cells
    clear hq
    go_simp
    first | rfl | (trace_state; fail)
  try simp only [Act.put, List.setIfInBounds_toArray, List.set_cons_zero, List.set_cons_succ]
  apply sch_want rfl (by first | rfl | decide | (simp [Region.wanted, yielded]; done)) (by repeat (first | with_reducible exact Within.refl _ | with_reducible assumption | with_reducible refine Within.alloc ?_ _ | with_reducible refine Within.drew ?_ | with_reducible refine Within.drewN ?_ _ | with_reducible refine Within.setCell ?_ (by first | (simp; done) | (simp; omega)) _ | with_reducible refine Within.trans ?_ (by assumption)))
  · intro wq hq
    have hcq := hq.cells
    clear hq
    go_simp
    first | rfl | (trace_state; fail)
  try simp only [Act.put, List.setIfInBounds_toArray, List.set_cons_zero, List.set_cons_succ]
  apply sch_want rfl (by first | rfl | decide | (simp [Region.wanted, yielded]; done)) (by repeat (first | with_reducible exact Within.refl _ | with_reducible assumption | with_reducible refine Within.alloc ?_ _ | with_reducible refine Within.drew ?_ | with_reducible refine Within.drewN ?_ _ | with_reducible refine Within.setCell ?_ (by first | (simp; done) | (simp; omega)) _ | with_reducible refine Within.trans ?_ (by assumption)))
  · intro wq hq
    have hcq := hq.cells
    clear hq
    go_simp
    first | rfl | (trace_state; fail)
  try simp only [Act.put, List.setIfInBounds_toArray, List.set_cons_zero, List.set_cons_succ]
  apply sch_want rfl (by first | rfl | decide | (simp [Region.wanted, yielded]; done)) (by repeat (first | with_reducible exact Within.refl _ | with_reducible assumption | with_reducible refine Within.alloc ?_ _ | with_reducible refine Within.drew ?_ | with_reducible refine Within.drewN ?_ _ | with_reducible refine Within.setCell ?_ (by first | (simp; done) | (simp; omega)) _ | with_reducible refine Within.trans ?_ (by assumption)))
  · intro wq hq
    have hcq := hq.cells
    clear hq
    go_simp
    first | rfl | (trace_state; fail)
  try simp only [Act.put, List.setIfInBounds_toArray, List.set_cons_zero, List.set_cons_succ]
  refine sch_one_want rfl (by first | rfl | decide | (simp [Region.wanted, yielded]; done)) (fun K hK => ?_)
  go_simp
  refine (ALF.out _).mono ?_; rintro ed_ wd ⟨rfl, h7'⟩
  have h7 : Within w0 wd := Within.trans h6 h7'
  refine hK _ _ (fun _ => (by repeat (first | with_reducible exact Within.refl _ | with_reducible assumption | with_reducible refine Within.alloc ?_ _ | with_reducible refine Within.drew ?_ | with_reducible refine Within.drewN ?_ _ | with_reducible refine Within.setCell ?_ (by first | (simp; done) | (simp; omega)) _ | with_reducible refine Within.trans ?_ (by assumption)))) ?_
  clear hK K
  try simp only [Act.put, List.setIfInBounds_toArray, List.set_cons_zero, List.set_cons_succ]
  apply sch_firm rfl rfl (by repeat (first | with_reducible exact Within.refl _ | with_reducible assumption | with_reducible refine Within.alloc ?_ _ | with_reducible refine Within.drew ?_ | with_reducible refine Within.drewN ?_ _ | with_reducible refine Within.setCell ?_ (by first | (simp; done) | (simp; omega)) _ | with_reducible refine Within.trans ?_ (by assumption)))
  · intro wq hq
    have hcq := hq.cells
    clear hq
    go_simp
    first | rfl | (trace_state; fail)
  try simp only [Act.put, List.setIfInBounds_toArray, List.set_cons_zero, List.set_cons_succ]
  refine sch_one rfl rfl (fun K hK => ?_)
  go_simp
  refine hK _ _ (fun h => absurd h (by decide)) ?_
  clear hK K
  try simp only [Act.put, List.setIfInBounds_toArray, List.set_cons_zero, List.set_cons_succ]
  refine sch_nil ?_
  have hz := Within.trans hw_w24 (Within.trans hw0 h7)
  go_wp2
  go_ret
  exact ⟨rfl, hz⟩
end Go.Proofs.YtifgngmebnjfkaaDoor
end

section
namespace Go.Proofs.YtifgngmebnjfkaaDoor
open Go.RowKit
theorem kD_not {x : Nat} (h : ¬ x % 9223372036854775808 < 9218868437227405312) : kD x ≠ 0 := by
  unfold kD tK
  split
  · split <;> decide
  · omega
theorem between_walk (x y z : Nat) (mode : Int) (hx : x < 18446744073709551616) (hy : y < 4294967296) (hz : z < 4294967296) (_ : -9223372036854775808 ≤ mode) (_ : mode < 9223372036854775808) (w : World) (hT : FmS w) : Calls Tryd.prog 9 #[.int .u64 (x : Int), .int .u32 (y : Int), .int .u32 (z : Int), .int .i64 mode] w fun e w' => e = .returned (.bool true) ∧ Within w w' := by
  by_cases h1 : mode < 0
  · exact between_low x y z mode hx hy hz h1 w hT
  by_cases h2 : 4 < mode
  · exact between_high x y z mode hx hy hz h2 w hT
  have hm : 0 ≤ mode ∧ mode ≤ 4 := by omega
  by_cases hk : kS y = 0 ∧ kS z = 0
  · have fy := k0_fin hk.1
    have fz := k0_fin hk.2
    by_cases fx : x % 9223372036854775808 < 9218868437227405312
    · exact between_11 x y z mode hx hy hz hm fx fy fz w hT
    · exact between_01 x y z mode hx hy hz hm (kD_not fx) fy fz w hT
  · have fyz : kS y ≠ 0 ∨ kS z ≠ 0 := by omega
    by_cases fx : x % 9223372036854775808 < 9218868437227405312
    · exact between_10 x y z mode hx hy hz hm fx fyz w hT
    · exact between_00 x y z mode hx hy hz hm (kD_not fx) fyz w hT
end Go.Proofs.YtifgngmebnjfkaaDoor
end

section
namespace Go.Proofs.YtifgngmebnjfkaaDoor.Base
open Go.ChangeShapes Go.WideShapes Go.ChangeAt Go.RowKit
theorem own : ownKnob Tryd.prog.godebug = none := by kernel_rfl
theorem gS : Tryd.prog.globalNamed "binnacle/convert.single" = some 1 := by kernel_rfl
theorem gST : (Tryd.prog.globals[1]?).map (·.type) = some 103 := by kernel_rfl
theorem cellsI : Tryd.prog.cellsOf 3 = 1 := by kernel_rfl
theorem fmt_cells {W : World} {name : String} {g : Nat} {a b c : Int} {rest : List (String × DataW Unit)} {ps : List MemPlace}
    (hg : Tryd.prog.globalNamed name = some g) (hty : (Tryd.prog.globals[g]?).map (·.type) = some 103)
    (h : DataW.LaidVars Tryd.prog W ((name, .agg [.lit (.int .i64 a), .lit (.int .i64 b), .lit (.int .i64 c)]) :: rest) ps) :
    (W.cell? ⟨g, 0, none⟩ = some (.int .i64 a) ∧ W.cell? ⟨g, 1, none⟩ = some (.int .i64 b) ∧ W.cell? ⟨g, 2, none⟩ = some (.int .i64 c)) ∧ ∃ q, DataW.LaidVars Tryd.prog W rest q := by
  obtain ⟨g', t', cs, fuel, p, q, hg', ht', hvar, hd, hr, _⟩ := h
  obtain rfl := Option.some.inj (hg.symm.trans hg')
  obtain rfl := Option.some.inj (hty.symm.trans ht')
  obtain ⟨y0, y1, y2, n, hx, hl, h0, h1, h2⟩ := Go.Deep.trod_struct3 Tryd.underlying103 hd
  obtain ⟨c0, e0, x0, _⟩ := DataW.trod_int Tryd.underlying3 h0
  obtain ⟨c1, e1, x1, _⟩ := DataW.trod_int Tryd.underlying3 h1
  obtain ⟨c2, e2, x2, _⟩ := DataW.trod_int Tryd.underlying3 h2
  subst x0 x1 x2
  have hx1 := congrArg Prod.fst hx
  simp at hx1
  obtain ⟨rfl, rfl, rfl⟩ := hx1
  have v := World.var?_cell hg hvar
  refine ⟨⟨?_, ?_, ?_⟩, q, hr⟩
  · rw [v 0]
    have := congrArg (·[0]?) e0
    simpa [cellsI, List.getElem?_take, List.getElem?_drop] using this
  · rw [v 1]
    have := congrArg (·[0]?) e1
    simpa [cellsI, List.getElem?_take, List.getElem?_drop] using this
  · rw [v 2]
    have := congrArg (·[0]?) e2
    simpa [cellsI, List.getElem?_take, List.getElem?_drop] using this
theorem fmS {W : World} {rest : List (String × DataW Unit)} (h : laidMet Tryd.prog (("binnacle/convert.single", Rows.laid_binnacle_convert_single) :: rest) W) : FmS W := by
  obtain ⟨ps, h1, _⟩ := h
  exact (fmt_cells gS gST h1).1
theorem nat_of_u64 {n : Int} (h : (Lit.int .u64 n).wf = true) : ∃ a : Nat, n = a ∧ a < 18446744073709551616 := by
  simp only [Lit.wf, Bool.and_eq_true, decide_eq_true_eq] at h
  have h1 : (0 : Int) ≤ n := h.1
  have h2 : n ≤ 18446744073709551615 := h.2
  exact ⟨n.toNat, by omega, by omega⟩
theorem nat_of_u32 {n : Int} (h : (Lit.int .u32 n).wf = true) : ∃ a : Nat, n = a ∧ a < 4294967296 := by
  simp only [Lit.wf, Bool.and_eq_true, decide_eq_true_eq] at h
  have h1 : (0 : Int) ≤ n := h.1
  have h2 : n ≤ 4294967295 := h.2
  exact ⟨n.toNat, by omega, by omega⟩
theorem int_of_i64 {n : Int} (h : (Lit.int .i64 n).wf = true) : -9223372036854775808 ≤ n ∧ n < 9223372036854775808 := by
  simp only [Lit.wf, Bool.and_eq_true, decide_eq_true_eq] at h
  have h1 : (-9223372036854775808 : Int) ≤ n := h.1
  have h2 : n ≤ 9223372036854775807 := h.2
  exact ⟨h1, by omega⟩
def layVar (g : Nat) (cs : Array Value) (h : Array Obj) : Array Obj := h.modify g fun
  | .cells _ t frozen => .cells cs t frozen
  | o => o
noncomputable def laidWorld (os : Os) : World :=
  { World.holding Tryd.prog os ⟨#[], #[], []⟩ with heap := layVar 2 #[.int .i64 53, .int .i64 (-1022), .int .i64 1023] (layVar 1 #[.int .i64 24, .int .i64 (-126), .int .i64 127] (World.holding Tryd.prog os ⟨#[], #[], []⟩).heap) }
end Go.Proofs.YtifgngmebnjfkaaDoor.Base
end

section
namespace Go.Proofs.YtifgngmebnjfkaaDoor.convertBetween
open Go.ChangeShapes Go.WideShapes Go.ChangeAt Go.RowKit
set_option maxRecDepth 100000 in
theorem contract (H : Type) (enc : TypeId × Value → H) (W : World) (base : Nat) (args : Array Value) (ds gs : List (DataW H)) (before : List MemPlace)
    (hval : ∀ (j : Nat) t v, Tryd.f9.params[j]? = some t → args[j]? = some v → Value.okWide Tryd.prog W .any base t v)
    (hW : DataW.Whole enc Tryd.prog Tryd.f9.params.toList Rows.convertBetweenSpec.vars false W args.toList ds gs before) (hL : laidMetH Tryd.prog Rows.convertBetweenRow.laid W) :
    Calls Tryd.prog 9 args W fun e W' => ∃ v, e = .returned v ∧ Rows.convertBetweenSpec.post enc Tryd.prog Tryd.f9 false true false false W args v W' := by
  have hW' := hW
  obtain ⟨p, q, hA0, hV, rfl, hfz, hnd⟩ := hW
  have hA : DataW.TrodAll enc Tryd.prog W 0 (fun _ => true) true Tryd.f9.params.toList args.toList ds p := hA0
  rw [Tryd.params9] at hA hval
  obtain ⟨v0, vs0, d0, ds0, p0, q0, hargs, rfl, rfl, h0, r0⟩ := trodAll_cons hA
  obtain ⟨v1, vs1, d1, ds1, p1, q1, rfl, rfl, rfl, h1, r1⟩ := trodAll_cons r0
  obtain ⟨v2, vs2, d2, ds2, p2, q2, rfl, rfl, rfl, h2, r2⟩ := trodAll_cons r1
  obtain ⟨v3, vs3, d3, ds3, p3, q3, rfl, rfl, rfl, h3, r3⟩ := trodAll_cons r2
  obtain ⟨rfl, rfl, rfl⟩ := trodAll_nil r3
  obtain rfl : args = #[v0, v1, v2, v3] := by cases args; simp_all
  obtain ⟨rfl, rfl⟩ := trodVars_none hV
  obtain ⟨n0, rfl, rfl, rfl, w0⟩ := open_int Tryd.underlying38 (hval 0 38 v0 rfl rfl) h0
  obtain ⟨a0, rfl, ha0⟩ := Base.nat_of_u64 w0
  obtain ⟨n1, rfl, rfl, rfl, w1⟩ := open_int Tryd.underlying22 (hval 1 22 v1 rfl rfl) h1
  obtain ⟨a1, rfl, ha1⟩ := Base.nat_of_u32 w1
  obtain ⟨n2, rfl, rfl, rfl, w2⟩ := open_int Tryd.underlying22 (hval 2 22 v2 rfl rfl) h2
  obtain ⟨a2, rfl, ha2⟩ := Base.nat_of_u32 w2
  obtain ⟨n3, rfl, rfl, rfl, w3⟩ := open_int Tryd.underlying3 (hval 3 3 v3 rfl rfl) h3
  have hl3 := Base.int_of_i64 w3
  clear hA0
  simp only [List.append_nil] at hW'
  refine (between_walk a0 a1 a2 n3 ha0 ha1 ha2 hl3.1 hl3.2 W (Base.fmS hL)).mono fun e W' ⟨he, bel⟩ => ?_
  subst he
  exact ⟨_, rfl, _, _, _, [], _, [], hW', trodAll_mk1 (shut_bool Tryd.underlying4 _), (trodAll_cons_mk (shut_int Tryd.underlying38 w0) (trodAll_cons_mk (shut_int Tryd.underlying22 w1) (trodAll_cons_mk (shut_int Tryd.underlying22 w2) (trodAll_cons_mk (shut_int Tryd.underlying3 w3) trodAll_mk0)))), rfl, Below.frame bel _, fun h => by cases h⟩
theorem laid_met (os : Os) : laidMet Tryd.prog Rows.convertBetweenRow.laid ((Base.laidWorld os).forCall (fun _ _ => 0) ⟨#[], #[Value.int .u64 0, Value.int .u32 0, Value.int .u32 0, Value.int .i64 0], []⟩).memory :=
  laidMet_of_run' 8 (by kernel_rfl) (by kernel_rfl)
theorem reads (os : Os) {H : Type} (enc : TypeId × Value → H) : ∃ places, DataW.whole enc Tryd.prog ((Base.laidWorld os).forCall (fun _ _ => 0) ⟨#[], #[Value.int .u64 0, Value.int .u32 0, Value.int .u32 0, Value.int .i64 0], []⟩).memory Tryd.f9.params.toList Rows.convertBetweenSpec.vars false (#[Value.int .u64 0, Value.int .u32 0, Value.int .u32 0, Value.int .i64 0] : Array Value).toList 8 = some ([.lit (.int .u64 0), .lit (.int .u32 0), .lit (.int .u32 0), .lit (.int .i64 0)], [], places) :=
  ⟨[], by kernel_rfl⟩
set_option maxRecDepth 100000 in
theorem lifted (os : Os) (started : os.Started) (H : Type) (enc : TypeId × Value → H) (F : Stop.Interp) :
    ReturnsInHanded {} Tryd.checked os 9 .any ((OpenSpec.ofChange Rows.convertBetweenSpec).preRow enc Tryd.prog Tryd.f9 Rows.convertBetweenRow.domain false Rows.convertBetweenRow.laid) (((OpenSpec.ofChange Rows.convertBetweenSpec).at F).post enc Tryd.prog Tryd.f9 false true false false) := by
  obtain ⟨places, hx⟩ := reads os enc
  refine returnsInHanded_of_row (C := Tryd.checked) (s := OpenSpec.ofChange Rows.convertBetweenSpec) Base.own started (by kernel_rfl) Tryd.func9
    (witness_row_at (enc := enc) (C := Tryd.checked) false (Base.laidWorld os) #[Value.int .u64 0, Value.int .u32 0, Value.int .u32 0, Value.int .i64 0] rfl (by kernel_rfl) (by kernel_rfl) (by kernel_rfl)
      (OpenSpec.preRow_of_cond 8 hx (by kernel_rfl) (fun k hk => by cases hk) (by kernel_rfl) (laid_met os))) ?_
  intro W base args ds gs before hval hW _ _ _ hL _ _
  exact contract H enc W base args ds gs before hval hW hL
theorem said : Rows.ConvertBetweenSaid :=
  OpenClaim.holds_of_cond 9 Tryd.f9 rfl rfl rfl rfl rfl rfl rfl ⟨rfl, rfl, rfl, rfl, rfl⟩ rfl rfl rfl rfl rfl (by kernel_rfl) Tryd.func9 (by kernel_rfl)
    (of_decide_eq_true (by kernel_rfl)) (by unfold Func.isWrapper; first | (rw [if_pos (by decide +kernel)]; kernel_rfl) | (rw [if_neg (by decide +kernel)]; exact ⟨rfl, rfl⟩))
    (fun os started H enc _ F => by rw [OpenClaim.pre_eq_preRow]; exact lifted os started H enc F)
theorem plain (f : FuncId) (fn : Func) (hf : Tryd.pinned.checked.prog.funcNamed "binnacle/binnaclelaw02.ConvertBetween" = some f) (hfn : Tryd.pinned.checked.prog.funcs[f]? = some fn) :
    false = Tryd.pinned.checked.prog.looks [] ∧ ∀ (j : Nat) t, fn.params[j]? = some t → Tryd.pinned.checked.prog.wantsStandIn t = false := by
  obtain rfl : f = 9 := Option.some.inj ((show Tryd.prog.funcNamed "binnacle/binnaclelaw02.ConvertBetween" = some 9 by kernel_rfl).symm.trans hf) |>.symm
  obtain rfl : fn = Tryd.f9 := (Option.some.inj (Tryd.func9.symm.trans hfn)).symm
  refine ⟨by kernel_rfl, fun j t ht => ?_⟩
  rw [Tryd.params9] at ht
  have hm := Array.mem_of_getElem? ht
  have hm' : t = 38 ∨ t = 22 ∨ t = 22 ∨ t = 3 := by simpa using hm
  rcases hm' with rfl | rfl | rfl | rfl
  · exact (show Tryd.prog.wantsStandIn 38 = false by kernel_rfl)
  · exact (show Tryd.prog.wantsStandIn 22 = false by kernel_rfl)
  · exact (show Tryd.prog.wantsStandIn 22 = false by kernel_rfl)
  · exact (show Tryd.prog.wantsStandIn 3 = false by kernel_rfl)
theorem card : Rows.ConvertBetweenCardSaid :=
  Claim7.holds_tied_plain_at .later [] _ _ _ _ said (fun _ h => by cases h) (by kernel_rfl) (fun _ h => by cases h) convertBetween_row_tie rfl ⟨rfl, rfl⟩ (by kernel_rfl) rfl plain (by kernel_rfl)
#print axioms card
end Go.Proofs.YtifgngmebnjfkaaDoor.convertBetween
end
