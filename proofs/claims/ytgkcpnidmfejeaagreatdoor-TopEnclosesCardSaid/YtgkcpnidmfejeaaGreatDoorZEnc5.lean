/- What the law's walk rests on, part 5: contracts of functions and plain facts. -/
import Derived.Test.YtgkcpnidmfejeaaGreatDoorZEnc4
set_option linter.unusedVariables false
set_option linter.unusedSimpArgs false
set_option maxRecDepth 100000
set_option maxHeartbeats 4000000
section
namespace Go.Proofs.YtgkcpnidmfejeaaGreatDoor
theorem sw1 {r s z : Int} {V W : Nat} (h : 2 * (s - z).natAbs ≤ W) (hr : r = z - s) (hW : W ≤ V * 2) : r.natAbs ≤ V := by omega
theorem sw2 {x b V : Nat} (h : x ≤ 9007199254740992 * V) (h4 : 4503599627370496 * (V * 2) ≤ x) : x = 4503599627370496 * (V * 2) := by omega
theorem sw3 {B r : Int} {V : Nat} (hB : B.natAbs + V ≤ 9007199254740992 * V) (hr : r.natAbs ≤ V) : (B - r).natAbs ≤ 9007199254740992 * V := by omega
theorem sw4 {x W V : Nat} (h : x ≤ 9007199254740992 * V) (h4 : 4503599627370496 * W ≤ x) (h5 : 2 * (V * 2) ≤ W) (hV : 0 < V) : False := by omega
theorem pow_up {i j : Nat} (h : i < j) : 2 * 2 ^ i ≤ 2 ^ j := by rw [← Nat.pow_succ']; exact Nat.pow_le_pow_right dc h
theorem slow_grid {A B S : Int} {ka kb K : Nat} {a b : Int} (hA1 : A = a * 2 ^ ka) (hB1 : B = b * 2 ^ kb) (hb : b.natAbs < 9007199254740992) (hAB : A.natAbs < B.natAbs) (hS : S = rn (A + B))
 (hne : ¬ ∃ d : Int, S - A = d * 2 ^ K) (h4 : K ≠ 0 → 4503599627370496 * 2 ^ K ≤ (S - A).natAbs) : K ≤ kb ∧ ka < K ∧ (A + B - S).natAbs ≤ 2 ^ kb := by
 have hB2 : B.natAbs = b.natAbs * 2 ^ kb := by rw [hB1, natAbs_mul_pow]
 have hBl : B.natAbs + 2 ^ kb ≤ 9007199254740992 * 2 ^ kb := by
  rw [hB2]
  have := Nat.mul_le_mul_right (2 ^ kb) hb
  rw [Nat.succ_mul] at this
  exact this
 have hVp := Nat.two_pow_pos kb
 obtain ⟨Ks, qs, s1, s2, s3, s4, s5, s6⟩ := rn_spec (A + B)
 rw [← hS] at s1 s5
 have hKs : Ks ≤ kb + 1 := by
  rcases Nat.lt_or_ge (kb + 1) Ks with h | h
  ·exact (sl1 om hAB (Int.natAbs_add_le A B) (s4 om) (pow_up h) (Nat.pow_succ _ _)).elim
  ·exact h
 have hWs : 2 ^ Ks ≤ 2 ^ kb * 2 := by rw [← Nat.pow_succ]; exact Nat.pow_le_pow_right dc hKs
 have hr := sw1 s5 (rfl : A + B - S = A + B - S) hWs
 have hx : (S - A).natAbs ≤ 9007199254740992 * 2 ^ kb := by
  have := sw3 hBl hr
  rwa [show B - (A + B - S) = S - A by omega] at this
 have hKb : K ≤ kb := by
  rcases Nat.lt_or_ge kb K with h | h
  ·have g4 := h4 om
   rcases Nat.lt_or_ge (kb + 1) K with h' | h'
   ·have := pow_up h'
    rw [Nat.pow_succ] at this
    exact (sw4 hx g4 this hVp).elim
   ·have hK : K = kb + 1 := by omega
    subst hK
    rw [Nat.pow_succ] at g4
    have e := sw2 (b := 0) hx g4
    refine (hne ?_).elim
    rcases Int.natAbs_eq (S - A) with h | h
    ·exact ⟨4503599627370496, by rw [h, e, ← Nat.pow_succ]; simp⟩
    ·exact ⟨-4503599627370496, by rw [h, e, ← Nat.pow_succ, Int.neg_mul]; simp⟩
  ·exact h
 refine ⟨hKb, ?_, hr⟩
 rcases Nat.lt_or_ge ka K with h | h
 ·exact h
 ·have mA := mult_le hA1 h
  have mB := mult_le hB1 hKb
  have mS := rn_mult' (mult_add mA mB).1
  rw [← hS] at mS
  exact (hne (mult_add mS mA).2).elim
theorem sx1 {B r e : Int} {V W : Nat} (hB : 4503599627370496 * V ≤ B.natAbs) (hx : (B - r).natAbs < 9007199254740992 * W) (hr : r.natAbs ≤ V) (he : 2 * e.natAbs ≤ W) : (r - e).natAbs ≤ 5 * W := by omega
theorem sx2 {A B : Int} {V W U X Y : Nat} (h1 : (A + B).natAbs < 9007199254740992 * U) (h2 : 2 * U ≤ W) (h3 : 4503599627370496 * V ≤ B.natAbs) (h4 : X ≤ V) (h5 : X = W * 2) (h6 : A.natAbs < 9007199254740992 * Y) : W < 2 * Y ∧ (A + B).natAbs ≤ 4503599627370496 * W := by omega
theorem sx3 {A e : Int} {W X : Nat} (h1 : A.natAbs + W ≤ 9007199254740992 * W) (h2 : 2 * e.natAbs ≤ X) (h3 : X = W * 2) : (A - e).natAbs ≤ 9007199254740992 * W := by omega
theorem two_slow {A B : Int} (hA : RepZ A) (hB : RepZ B) (hAB : A.natAbs < B.natAbs) : sumL A B = A + B - sumS A B := by
 by_cases he : sumT A B = sumS A B - A
 ·exact two_back hA hB he
 obtain ⟨ka, a, hA1, ha, hka⟩ := canon_of hA
 obtain ⟨kb, b, hB1, hb, hkb⟩ := canon_of hB
 obtain ⟨S, hS⟩ : ∃ S, S = sumS A B := ⟨_, rfl⟩
 obtain ⟨T, hT⟩ : ∃ T, T = sumT A B := ⟨_, rfl⟩
 have hS' : S = rn (A + B) := hS
 have hT' : T = rn (S - A) := by rw [hT, hS]; rfl
 rw [← hS, ← hT] at he
 obtain ⟨K, q, t1, t2, t3, t4, t5, t6⟩ := rn_spec (S - A)
 rw [← hT'] at t1 t5 t6
 have hne : ¬ ∃ d : Int, S - A = d * 2 ^ K := fun ⟨d, hd⟩ => he (t6 (dvd_abs hd))
 obtain ⟨hKb, haK, hr⟩ := slow_grid hA1 hB1 hb hAB hS' hne t4
 obtain ⟨K', rfl⟩ : ∃ K', K = K' + 1 := ⟨K - 1, by omega⟩
 have mB := mult_le hB1 hKb
 have mT : ∃ d : Int, T = d * 2 ^ (K' + 1) := ⟨q, t1⟩
 have hkb' := hkb om
 have hx : RepZ (B - T) := by
  obtain ⟨d, hd⟩ := (mult_add mB mT).2
  refine repz_of hd (n := 5) ?_ dc
  have := sx1 (B := B) (r := A + B - S) (e := T - (S - A)) hkb' (by rw [show B - (A + B - S) = S - A by omega]; exact t2) hr t5
  rwa [show A + B - S - (T - (S - A)) = B - T by omega] at this
 have hAl : ∀ j, ka ≤ j → A.natAbs + 2 ^ j ≤ 9007199254740992 * 2 ^ j := by
  intro j hj
  have h1 : A.natAbs = a.natAbs * 2 ^ ka := by rw [hA1, natAbs_mul_pow]
  have h2 : a.natAbs * 2 ^ ka ≤ a.natAbs * 2 ^ j := Nat.mul_le_mul_left _ (Nat.pow_le_pow_right dc hj)
  have h3 := Nat.mul_le_mul_right (2 ^ j) ha
  rw [Nat.succ_mul] at h3
  rw [h1]
  exact Nat.le_trans (Nat.add_le_add_right h2 _) h3
 have hu : RepZ (S - T) := by
  obtain ⟨Ks, qs, s1, s2, s3, s4, s5, s6⟩ := rn_spec (A + B)
  rw [← hS'] at s1
  have hKs : K' ≤ Ks := by
   rcases Nat.lt_or_ge Ks K' with h | h
   ·have hAk : A.natAbs < 9007199254740992 * 2 ^ ka := by
     have := hAl ka (Nat.le_refl _)
     have := Nat.two_pow_pos ka
     omega
    obtain ⟨y1, y2⟩ := sx2 s2 (pow_up h) hkb' (Nat.pow_le_pow_right dc hKb) (Nat.pow_succ 2 K') hAk
    have hk : ka = K' := by
     rcases Nat.lt_or_ge ka K' with h' | h'
     ·have := pow_up h'; omega
     ·omega
    have hz := (mult_add (mult_le hA1 (Nat.le_of_eq hk.symm)) (mult_le hB1 (Nat.le_of_succ_le hKb))).1
    obtain ⟨d, hd⟩ := hz
    have hex : S = A + B := by rw [hS']; exact rn_few (repz_of hd y2 dc)
    refine (hne ?_).elim
    rw [hex, show A + B - A = B by omega]
    exact mB
   ·exact h
  obtain ⟨m, hm⟩ := mT
  have mT' : ∃ d : Int, T = d * 2 ^ K' := mult_le hm (Nat.le_succ _)
  obtain ⟨d, hd⟩ := (mult_add (mult_le s1 hKs) mT').2
  refine repz_of hd (n := 9007199254740992) ?_ (Nat.le_refl _)
  have := sx3 (A := A) (e := T - (S - A)) (hAl K' om) t5 (Nat.pow_succ 2 K')
  rwa [show A - (T - (S - A)) = S - T by omega] at this
 have hRS : RepZ S := by rw [hS']; exact rn_repz _
 have hv : RepZ (A - (S - T)) := by
  have := err_rep hRS hA.neg
  rw [show S + -A = S - A by omega, ← hT', show T - (S - A) = A - (S - T) by omega] at this
  exact this
 unfold sumL
 rw [← hS, ← hT, rn_few hu, rn_few hv, rn_few hx, show A - (S - T) + (B - T) = -(S - (A + B)) by omega, hS', rn_few (err_rep hA hB).neg]
 omega
theorem two_sum {A B : Int} (hA : RepZ A) (hB : RepZ B) : sumL A B = A + B - sumS A B := by
 rcases Nat.lt_or_ge A.natAbs B.natAbs with h | h
 ·exact two_slow hA hB h
 ·exact two_fast hA hB h
end Go.Proofs.YtgkcpnidmfejeaaGreatDoor
end
section
namespace Go.Proofs.YtgkcpnidmfejeaaGreatDoor
def Mu (k : Nat) (z : Int) : Prop := ∃ d : Int, z = d * 2 ^ k
theorem Mu.zero (k : Nat) : Mu k 0 := ⟨0, by simp⟩
theorem Mu.le {k j : Nat} {z : Int} (h : Mu k z) (hj : j ≤ k) : Mu j z := by
 obtain ⟨d, h⟩ := h
 exact mult_le h hj
theorem Mu.add {k : Nat} {y z : Int} (h : Mu k y) (g : Mu k z) : Mu k (y + z) := (mult_add h g).1
theorem Mu.sub {k : Nat} {y z : Int} (h : Mu k y) (g : Mu k z) : Mu k (y - z) := (mult_add h g).2
theorem Mu.rn {k : Nat} {z : Int} (h : Mu k z) : Mu k (rn z) := rn_mult' h
theorem Mu.mul {k : Nat} {z : Int} (h : Mu k z) (b : Int) : Mu k (z * b) := by
 obtain ⟨d, h⟩ := h
 exact ⟨d * b, by rw [h, Int.mul_right_comm]⟩
theorem Mu.none (z : Int) : Mu 0 z := ⟨z, by simp⟩
theorem Mu.abs {k : Nat} {z : Int} (h : Mu k z) : ∃ c : Nat, z.natAbs = c * 2 ^ k := by
 obtain ⟨d, h⟩ := h
 exact ⟨d.natAbs, by rw [h, natAbs_mul_pow]⟩
theorem Mu.small {k : Nat} {z : Int} (h : Mu k z) (g : z.natAbs < 2 ^ k) : z = 0 := by
 obtain ⟨c, hc⟩ := h.abs
 rcases Nat.eq_zero_or_pos c with h0 | h0
 ·rw [h0, Nat.zero_mul] at hc; omega
 ·have := Nat.mul_le_mul_right (2 ^ k) h0
  omega
theorem Mu.least {k : Nat} {z : Int} (h : Mu k z) (g : z ≠ 0) : 2 ^ k ≤ z.natAbs := by
 rcases Nat.lt_or_ge z.natAbs (2 ^ k) with h1 | h1
 ·exact absurd (h.small h1) g
 ·exact h1
def zl (x : Int) : Nat := x.natAbs.log2 + 1
theorem zl_lt (x : Int) : x.natAbs < 2 ^ zl x := Nat.lt_log2_self
theorem zl_le {x : Int} {k : Nat} (h0 : x ≠ 0) (h : x.natAbs < 2 ^ k) : zl x ≤ k := by
 have h1 : x.natAbs ≠ 0 := by omega
 have := (Nat.log2_lt h1).2 h
 unfold zl
 omega
def Low (x y : Int) : Prop := Mu (zl x) y
theorem Low.of {x y : Int} {k : Nat} (h0 : x ≠ 0) (h : x.natAbs < 2 ^ k) (g : Mu k y) : Low x y := g.le (zl_le h0 h)
theorem Low.trans {x y z : Int} (hy : y ≠ 0) (h : Low x y) (g : Low y z) : Low x z := by
 refine g.le ?_
 have h1 := h.least hy
 have h2 := Nat.lt_of_le_of_lt h1 (zl_lt y)
 have := (Nat.pow_lt_pow_iff_right (show 1 < 2 by decide)).1 h2
 omega
def Chain : List Int → Prop
 | [] => True
 | [x] => x ≠ 0
 | x :: y :: l => x ≠ 0 ∧ Low x y ∧ Chain (y :: l)
theorem Chain.head {x : Int} {l : List Int} (h : Chain (x :: l)) : x ≠ 0 := by
 cases l with
 | nil => exact h
 | cons y l => exact h.1
theorem rn_zero_rep : RepZ 0 := ⟨0, 0, rfl, by decide⟩
theorem rn_amt {z y : Int} (hy : RepZ y) (h : z.natAbs ≤ y.natAbs) : (rn z).natAbs ≤ y.natAbs := by
 rcases Int.le_total 0 z with hz | hz <;> rcases Int.le_total 0 y with hy0 | hy0
 ·have := rn_nearest (z := z) hy
  have := rn_nearest (z := z) rn_zero_rep
  omega
 ·have := rn_nearest (z := z) hy.neg
  have := rn_nearest (z := z) rn_zero_rep
  omega
 ·have := rn_nearest (z := z) hy.neg
  have := rn_nearest (z := z) rn_zero_rep
  omega
 ·have := rn_nearest (z := z) hy
  have := rn_nearest (z := z) rn_zero_rep
  omega
end Go.Proofs.YtgkcpnidmfejeaaGreatDoor
end
section
namespace Go.Proofs.YtgkcpnidmfejeaaGreatDoor
theorem Mu.neg {k : Nat} {z : Int} (h : Mu k z) : Mu k (-z) := by
 have := (Mu.zero k).sub h
 rwa [Int.zero_sub] at this
end Go.Proofs.YtgkcpnidmfejeaaGreatDoor
end
section
namespace Go.Proofs.YtgkcpnidmfejeaaGreatDoor
theorem hsum {H h : Int} {k K : Nat} (hH : H.natAbs < 2 ^ k) (hm : Mu k h) (h0 : h ≠ 0) (hK : 2 * h.natAbs ≤ 2 ^ K) : (H + h).natAbs < 2 ^ K := by
 have := hm.least h0
 omega
end Go.Proofs.YtgkcpnidmfejeaaGreatDoor
end
section
namespace Go.Proofs.YtgkcpnidmfejeaaGreatDoor
def Fz (v : Option Nat) (z : Int) : Prop := ∃ x, v = some x ∧ x % 9223372036854775808 < 9218868437227405312 ∧ Fp.un Ieee.double x = z
theorem Fz.eq {v : Option Nat} {y z : Int} (h : Fz v y) (g : Fz v z) : y = z := by
 obtain ⟨x, rfl, _, hx⟩ := h
 obtain ⟨x', e, _, hx'⟩ := g
 obtain rfl := Option.some.inj e
 rw [← hx, ← hx']
theorem Fz.fv {x : Nat} {z : Int} (h : Fz (fv x) z) : x % 9223372036854775808 < 9218868437227405312 ∧ Fp.un Ieee.double x = z := by
 obtain ⟨y, e, h1, h2⟩ := h
 unfold Go.Proofs.YtgkcpnidmfejeaaGreatDoor.fv at e
 split at e
 ·cases e
 ·obtain rfl := Option.some.inj e; exact ⟨h1, h2⟩
theorem fz_of {x : Nat} (h : x % 9223372036854775808 < 9218868437227405312) : Fz (fv x) (Fp.un Ieee.double x) := ⟨x, if_neg om, h, rfl⟩
theorem read_number {a : Nat} (h : ∃ s m e, Ieee.double.read a = .number s m e) : a % 9223372036854775808 < 9218868437227405312 := by
 obtain ⟨s, m, e, h⟩ := h
 rcases Nat.lt_trichotomy (a % 9223372036854775808) 9218868437227405312 with g | g | g
 ·exact g
 ·have := Fp.read_inf Ieee.double a (by rw [Fp.rg64, Fp.dI]; exact g) Fp.dBI
  rw [this] at h; cases h
 ·obtain ⟨_, _, this⟩ := read_nan g
  rw [this] at h; cases h
theorem sum_number {d e : Ieee.Datum} {s : Bool} {m : Nat} {k : Int} (h : d.sum e = some (.number s m k)) : (∃ s m k, d = .number s m k) ∧ ∃ s m k, e = .number s m k := by
 cases d <;> cases e <;> simp only [Ieee.Datum.sum] at h <;> first | exact ⟨⟨_, _, _, rfl⟩, ⟨_, _, _, rfl⟩⟩ | (cases h; done) | (split at h <;> cases h; done)
theorem prod_number {d e : Ieee.Datum} {s : Bool} {m : Nat} {k : Int} (h : d.product e = some (.number s m k)) : (∃ s m k, d = .number s m k) ∧ ∃ s m k, e = .number s m k := by
 cases d <;> cases e <;> simp only [Ieee.Datum.product] at h <;> first | exact ⟨⟨_, _, _, rfl⟩, ⟨_, _, _, rfl⟩⟩ | (cases h; done) | (split at h <;> cases h; done)
theorem write_number {d : Ieee.Datum} (hn : d.isNaN = false) (h : Ieee.double.write d % 9223372036854775808 < 9218868437227405312) : ∃ s m k, d = .number s m k := by
 cases d with
 | nan s t => simp [Ieee.Datum.isNaN] at hn
 | infinity s =>
  exfalso
  have e : Ieee.double.write (.infinity s) = Ieee.double.word s Ieee.double.infRung := rfl
  rw [e] at h
  have := Fp.rg_word Ieee.double s Ieee.double.infRung (Fp.inf_lt Ieee.double)
  rw [Fp.rg64] at this
  rw [this, Fp.dI] at h
  omega
 | number s m k => exact ⟨s, m, k, rfl⟩
theorem neg_number {d : Ieee.Datum} (h : ∃ s m k, d.opposite = .number s m k) : ∃ s m k, d = .number s m k := by
 obtain ⟨s, m, k, h⟩ := h
 cases d with
 | nan s t => cases h
 | infinity s => cases h
 | number s m k => exact ⟨_, _, _, rfl⟩
theorem fin_back {op : BinOp} (ho : op = .add ∨ op = .sub ∨ op = .mul) {x y r : Nat} (h : floatBits op .f64 x y = some r) (hr : r % 9223372036854775808 < 9218868437227405312) :
 x % 9223372036854775808 < 9218868437227405312 ∧ y % 9223372036854775808 < 9218868437227405312 := by
 have key : ∀ o : Option Ieee.Datum, (∀ d, o = some d → d.isNaN = false) → o.map Ieee.double.write = some r → ∃ s m k, o = some (.number s m k) := by
  intro o hs hm
  cases o with
  | none => cases hm
  | some d =>
   obtain rfl := Option.some.inj hm
   obtain ⟨s, m, k, rfl⟩ := write_number (hs d rfl) hr
   exact ⟨s, m, k, rfl⟩
 rcases ho with rfl | rfl | rfl
 ·obtain ⟨s, m, k, hd⟩ := key ((Ieee.double.read x).sum (Ieee.double.read y)) (fun d hd => sum_sane hd) h
  obtain ⟨h1, h2⟩ := sum_number hd
  exact ⟨read_number h1, read_number h2⟩
 ·obtain ⟨s, m, k, hd⟩ := key ((Ieee.double.read x).sum (Ieee.double.read y).opposite) (fun d hd => sum_sane hd) h
  obtain ⟨h1, h2⟩ := sum_number hd
  exact ⟨read_number h1, read_number (neg_number h2)⟩
 ·obtain ⟨s, m, k, hd⟩ := key ((Ieee.double.read x).product (Ieee.double.read y)) (fun d hd => prod_sane hd) h
  obtain ⟨h1, h2⟩ := prod_number hd
  exact ⟨read_number h1, read_number h2⟩
theorem word_is (z : Int) (s : Bool) (hs : z ≠ 0 → s = decide (z < 0)) :
 (Ieee.double.word s (Fp.rung Ieee.double z.natAbs) % 9223372036854775808 < 9218868437227405312 ↔ (rn z).natAbs < 2 ^ Fp.dtop) ∧
 ((rn z).natAbs < 2 ^ Fp.dtop → Fp.un Ieee.double (Ieee.double.word s (Fp.rung Ieee.double z.natAbs)) = rn z) := by
 have hl : Fp.rung Ieee.double z.natAbs < Ieee.double.signWeight := Nat.lt_of_le_of_lt (Nat.min_le_right _ _) (Fp.inf_lt Ieee.double)
 have h1 := Fp.rg_word Ieee.double s _ hl
 have h2 := Fp.sg_word Ieee.double s _ hl
 have hg : (rn z).natAbs < 2 ^ Fp.dtop ↔ Fp.grid Ieee.double z.natAbs 0 < Ieee.double.infRung := by
  rw [rn_abs, ← Fp.mag_infD]; exact Fp.mag_lt_iff Ieee.double
 refine ⟨?_, fun h => ?_⟩
 ·rw [← Fp.rg64, h1, hg, Fp.dI]
  unfold Fp.rung
  rw [Fp.dI]
  omega
 ·have h3 := hg.1 h
  have h4 : Fp.rung Ieee.double z.natAbs = Fp.grid Ieee.double z.natAbs 0 := Nat.min_eq_left (Nat.le_of_lt h3)
  unfold Fp.un
  rw [h1, h2, h4]
  unfold rn
  by_cases h0 : z = 0
  ·subst h0
   rw [Int.natAbs_zero, Fp.grid_zero, Fp.mag_zero]
   cases s <;> rfl
  ·rw [hs h0]
   by_cases hn : z < 0
   ·rw [decide_eq_true hn, if_pos rfl, if_pos hn]
   ·rw [decide_eq_false hn, if_neg Bool.false_ne_true, if_neg hn]
theorem zz86 {p : Prop} (h : p := by
 have hl := w1.1 hr
 have hv := w2 hl
 exact ⟨_, _, ⟨x, rfl, hx, rfl⟩, ⟨y, rfl, hy, rfl⟩, by rw [← hz, hv], by rw [← hz, hv]; exact hl⟩) : p := h
theorem add_iff {u v : Option Nat} {z : Int} : Fz (fop .add u v) z ↔ ∃ A B, Fz u A ∧ Fz v B ∧ z = rn (A + B) ∧ z.natAbs < 2 ^ Fp.dtop := by
 constructor
 ·rintro ⟨r, h, hr, hz⟩
  cases u with
  | none => cases h
  | some x =>
   cases v with
   | none => cases h
   | some y =>
    have hb : floatBits .add .f64 x y = some r := h
    obtain ⟨hx, hy⟩ := fin_back (.inl rfl) hb hr
    have ha := Fp.add_fin Ieee.double x y (by rw [Fp.rg64, Fp.dI]; exact hx) (by rw [Fp.rg64, Fp.dI]; exact hy)
    have he : some r = Ieee.double.add x y := hb.symm
    rw [ha] at he
    obtain rfl := Option.some.inj he
    obtain ⟨w1, w2⟩ := word_is (Fp.un Ieee.double x + Fp.un Ieee.double y) _ (fun h0 => if_neg h0)
    exact zz86
 ·rintro ⟨A, B, ⟨x, rfl, hx, rfl⟩, ⟨y, rfl, hy, rfl⟩, rfl, hl⟩
  have ha := Fp.add_fin Ieee.double x y (by rw [Fp.rg64, Fp.dI]; exact hx) (by rw [Fp.rg64, Fp.dI]; exact hy)
  obtain ⟨w1, w2⟩ := word_is (Fp.un Ieee.double x + Fp.un Ieee.double y) _ (fun h0 => if_neg h0)
  exact ⟨_, ha, w1.2 hl, w2 hl⟩
theorem sub_iff {u v : Option Nat} {z : Int} : Fz (fop .sub u v) z ↔ ∃ A B, Fz u A ∧ Fz v B ∧ z = rn (A - B) ∧ z.natAbs < 2 ^ Fp.dtop := by
 constructor
 ·rintro ⟨r, h, hr, hz⟩
  cases u with
  | none => cases h
  | some x =>
   cases v with
   | none => cases h
   | some y =>
    have hb : floatBits .sub .f64 x y = some r := h
    obtain ⟨hx, hy⟩ := fin_back (.inr (.inl rfl)) hb hr
    have ha := Fp.sub_fin Ieee.double x y (by rw [Fp.rg64, Fp.dI]; exact hx) (by rw [Fp.rg64, Fp.dI]; exact hy)
    have he : some r = Ieee.double.sub x y := hb.symm
    rw [ha] at he
    obtain rfl := Option.some.inj he
    obtain ⟨w1, w2⟩ := word_is (Fp.un Ieee.double x - Fp.un Ieee.double y) _ (fun h0 => if_neg h0)
    exact zz86
 ·rintro ⟨A, B, ⟨x, rfl, hx, rfl⟩, ⟨y, rfl, hy, rfl⟩, rfl, hl⟩
  have ha := Fp.sub_fin Ieee.double x y (by rw [Fp.rg64, Fp.dI]; exact hx) (by rw [Fp.rg64, Fp.dI]; exact hy)
  obtain ⟨w1, w2⟩ := word_is (Fp.un Ieee.double x - Fp.un Ieee.double y) _ (fun h0 => if_neg h0)
  exact ⟨_, ha, w1.2 hl, w2 hl⟩
theorem Fz.rep {v : Option Nat} {z : Int} (h : Fz v z) : RepZ z := by
 obtain ⟨x, _, hx, rfl⟩ := h
 have hR := Fp.rep_mag Ieee.double Fp.dF (r := Fp.rg Ieee.double x) (by rw [Fp.rg64, Fp.dI]; exact hx)
 have e : rn (Fp.mag Ieee.double (Fp.rg Ieee.double x) : Int) = Fp.mag Ieee.double (Fp.rg Ieee.double x) := by
  unfold rn
  rw [if_neg om, Int.natAbs_natCast, hR.2]
 have h1 : RepZ (Fp.mag Ieee.double (Fp.rg Ieee.double x) : Int) := by rw [← e]; exact rn_repz _
 unfold Fp.un
 split
 ·exact h1.neg
 ·exact h1
end Go.Proofs.YtgkcpnidmfejeaaGreatDoor
end
section
namespace Go.Proofs.YtgkcpnidmfejeaaGreatDoor
def twoS (u v : Option Nat) : Option Nat := fop .add u v
def twoL (u v : Option Nat) : Option Nat := fop .add (fop .sub u (fop .sub (twoS u v) (fop .sub (twoS u v) u))) (fop .sub v (fop .sub (twoS u v) u))
end Go.Proofs.YtgkcpnidmfejeaaGreatDoor
end
section
namespace Go.Proofs.YtgkcpnidmfejeaaGreatDoor
theorem pow_rep (n k : Nat) (h : n ≤ 9007199254740992) : RepZ ((n * 2 ^ k : Nat) : Int) := ⟨n, k, by rw [Int.natCast_mul, cast_pow], by rw [Int.natAbs_natCast]; exact h⟩
theorem rn_pow {z : Int} (n k : Nat) (hn : n ≤ 9007199254740992) (h : z.natAbs ≤ n * 2 ^ k) : (rn z).natAbs ≤ n * 2 ^ k := by
 have := rn_amt (pow_rep n k hn) (z := z) (by rw [Int.natAbs_natCast]; exact h)
 rwa [Int.natAbs_natCast] at this
theorem lost_le {A B : Int} (hA : RepZ A) (hB : RepZ B) : (rn (A + B) - (A + B)).natAbs ≤ B.natAbs ∧ (rn (A + B) - (A + B)).natAbs ≤ A.natAbs := by
 have h1 := rn_nearest (z := A + B) hA
 have h2 := rn_nearest (z := A + B) hB
 omega
theorem two_fwd {u v : Option Nat} {A B : Int} (hu : Fz u A) (hv : Fz v B) {k : Nat} (hk : k + 2 ≤ Fp.dtop) (hA : A.natAbs ≤ 2 ^ k) (hB : B.natAbs ≤ 2 ^ k) :
 Fz (twoS u v) (rn (A + B)) ∧ Fz (twoL u v) (A + B - rn (A + B)) := by
 have hlim : 4 * 2 ^ k ≤ 2 ^ Fp.dtop := by
  have := Nat.pow_le_pow_right (n := 2) dc hk
  rw [Nat.pow_add] at this
  omega
 have lim : ∀ n : Nat, n < 4 * 2 ^ k → n < 2 ^ Fp.dtop := fun n h => Nat.lt_of_lt_of_le h hlim
 clear hlim hk
 have hp := Nat.two_pow_pos k
 have RA := hu.rep
 have RB := hv.rep
 have L := lost_le RA RB
 obtain ⟨S, eS⟩ : ∃ S, S = rn (A + B) := ⟨_, rfl⟩
 have bS : S.natAbs ≤ 2 * 2 ^ k := by rw [eS]; exact rn_pow 2 k dc om
 have fS : Fz (twoS u v) S := add_iff.2 ⟨A, B, hu, hv, eS, lim _ om⟩
 rw [← eS] at L
 obtain ⟨T, eT⟩ : ∃ T, T = rn (S - A) := ⟨_, rfl⟩
 have bT : T.natAbs ≤ 2 * 2 ^ k := by rw [eT]; exact rn_pow 2 k dc om
 have nT := rn_nearest (z := S - A) RB
 rw [← eT] at nT
 have fT : Fz (fop .sub (twoS u v) u) T := sub_iff.2 ⟨S, A, fS, hu, eT, lim _ om⟩
 obtain ⟨D, eD⟩ : ∃ D, D = rn (S - T) := ⟨_, rfl⟩
 have bD : D.natAbs ≤ 2 * 2 ^ k := by rw [eD]; exact rn_pow 2 k dc om
 have fD : Fz (fop .sub (twoS u v) (fop .sub (twoS u v) u)) D := sub_iff.2 ⟨S, T, fS, fT, eD, lim _ om⟩
 obtain ⟨X, eX⟩ : ∃ X, X = rn (A - D) := ⟨_, rfl⟩
 have bX : X.natAbs ≤ 3 * 2 ^ k := by rw [eX]; exact rn_pow 3 k dc om
 have fX := sub_iff.2 ⟨A, D, hu, fD, eX, lim _ om⟩
 obtain ⟨Y, eY⟩ : ∃ Y, Y = rn (B - T) := ⟨_, rfl⟩
 have bY : Y.natAbs ≤ 3 * 2 ^ k := by rw [eY]; exact rn_pow 3 k dc om
 have fY := sub_iff.2 ⟨B, T, hv, fT, eY, lim _ om⟩
 have hE : rn (X + Y) = A + B - S := by
  have := two_sum RA RB
  unfold sumL sumT sumS at this
  rw [← eS, ← eT, ← eD, ← eX, ← eY] at this
  exact this
 rw [← eS]
 exact ⟨fS, add_iff.2 ⟨X, Y, fX, fY, hE.symm, lim _ om⟩⟩
end Go.Proofs.YtgkcpnidmfejeaaGreatDoor
end
section
namespace Go.Proofs.YtgkcpnidmfejeaaGreatDoor
theorem rv_lt (x y : Int) : (x : Rat) / (u1 : Rat) < (y : Rat) / (u1 : Rat) ↔ x < y := by
 exact zz63
def aT : Nat := 2074
theorem add_left {a b s l : Nat} (ha : Fi a) (hb : Fi b) (hA : (Fp.un Ieee.double a).natAbs ≤ 2 ^ aT) (hB : (Fp.un Ieee.double b).natAbs ≤ 2 ^ aT)
 (hs : fv s = twoS (fv a) (fv b)) (hl : fv l = twoL (fv a) (fv b)) :
 (0 < Fp.un Ieee.double l ↔ rvD s < rvD a + rvD b) ∧ (Fp.un Ieee.double l < 0 ↔ rvD a + rvD b < rvD s) := by
 obtain ⟨f1, f2⟩ := two_fwd (fz_of ha.2) (fz_of hb.2) (k := aT) dc hA hB
 rw [← hs] at f1
 rw [← hl] at f2
 have e1 := f1.fv.2
 have e2 := f2.fv.2
 have e3 : rvD a + rvD b = ((Fp.un Ieee.double a + Fp.un Ieee.double b : Int) : Rat) / (u1 : Rat) := by unfold rvD; push_cast; grind
 rw [e3]
 unfold rvD
 rw [rv_lt, rv_lt, e1, e2]
 omega
end Go.Proofs.YtgkcpnidmfejeaaGreatDoor
end
section
namespace Go.Proofs.YtgkcpnidmfejeaaGreatDoor
def usualB (x : Nat) : Bool := (FloatKind.f64.format.order (x % 9223372036854775808) 553942754166571008 == some .gt) && (FloatKind.f64.format.order (x % 9223372036854775808) 9110782046170513408 == some .lt)
def belowT (x : Nat) : Bool := FloatKind.f64.format.order (x % 9223372036854775808) 9110782046170513408 == some .lt
theorem un_lo : Fp.un Ieee.double 553942754166571008 = ((2 ^ 174 : Nat) : Int) := by decide +kernel
theorem un_hi : Fp.un Ieee.double 9110782046170513408 = ((2 ^ aT : Nat) : Int) := by decide +kernel
theorem un_mod (x : Nat) : Fp.un Ieee.double (x % 9223372036854775808) = ((Fp.un Ieee.double x).natAbs : Nat) := by
 have e1 : Fp.rg Ieee.double (x % 9223372036854775808) = Fp.rg Ieee.double x := by rw [Fp.rg64, Fp.rg64]; omega
 have e2 : Fp.sg Ieee.double (x % 9223372036854775808) = false := by rw [sg_high om]; exact decide_eq_false om
 rw [un_val, un_val, e1, e2]
 unfold Fp.val
 rw [if_neg Bool.false_ne_true]
 split <;> omega
theorem sane_mod {x : Nat} (h : Sane x) : Sane (x % 9223372036854775808) := by
 obtain ⟨h1, h2⟩ := h
 exact ⟨by omega, by omega⟩
theorem zz77 {p : Prop} (h : p := by
 have := Nat.pow_le_pow_right (n := 2) dc (show aT ≤ Fp.dtop by decide)
 have k3 : (2 ^ Fp.dtop : Nat) < 2 ^ aT := by exact_mod_cast k2
 generalize 2 ^ Fp.dtop = T at *
 generalize 2 ^ aT = T2 at *
 omega) : p := h
theorem usual_big {x : Nat} (h : Sane x) (k : usualB x = true) : 2 ^ 174 < (Fp.un Ieee.double x).natAbs ∧ Fi x := by
 unfold usualB at k
 rw [Bool.and_eq_true] at k
 obtain ⟨k1, k2⟩ := k
 rw [c_gt (sane_mod h).2 dc, un_lo, un_mod] at k1
 rw [c_lt (sane_mod h).2 dc, un_hi, un_mod] at k2
 have k1 := of_decide_eq_true k1
 have k2 := of_decide_eq_true k2
 refine ⟨by exact_mod_cast k1, ?_⟩
 rcases sane_cases h with ⟨f, _⟩ | ⟨_, u⟩ | ⟨_, u⟩
 ·exact f
 ·exfalso
  rw [u, Int.natAbs_natCast] at k2
  exact zz77
 ·exfalso
  rw [u, Int.natAbs_neg, Int.natAbs_natCast] at k2
  exact zz77
theorem below_un {x : Nat} (h : Sane x) (k : belowT x = true) : (Fp.un Ieee.double x).natAbs ≤ 2 ^ aT := by
 unfold belowT at k
 rw [c_lt (sane_mod h).2 dc, un_hi, un_mod] at k
 have k := of_decide_eq_true k
 have k3 : (Fp.un Ieee.double x).natAbs < 2 ^ aT := by exact_mod_cast k
 exact Nat.le_of_lt k3
theorem dec_lt {a b : Rat} {p : Prop} [Decidable p] (h : p ↔ a < b) : decide p = false → b ≤ a := by
 intro g
 have n := of_decide_eq_false g
 rcases rat_or a b with k | k
 ·exact absurd (h.2 k) n
 ·exact k
theorem add_end {up : Bool} {a b s l : Nat} (ha : Fi a) (hb : Fi b) (hs : Ieee.double.add a b = some s) (hu : usualB s = true) (ta : belowT a = true) (tb : belowT b = true)
 (hl : fv l = twoL (fv a) (fv b)) : l % 9223372036854775808 ≤ 9218868437227405312 ∧ EndOk up (stepW s (decide (Fp.un Ieee.double l < 0)) (decide (0 < Fp.un Ieee.double l)) up) (rvD a + rvD b) := by
 obtain ⟨s', e, hr⟩ := add_rno ha hb
 rw [hs] at e
 obtain rfl := Option.some.inj e
 have hS := (usual_big hr.1 hu).2
 have A := below_un ha.sane ta
 have B := below_un hb.sane tb
 have fa : fv a = some a := if_neg (by have := ha.2; omega)
 have fb : fv b = some b := if_neg (by have := hb.2; omega)
 have fs : fv s = twoS (fv a) (fv b) := by
  rw [fa, fb]
  show _ = floatBits .add .f64 a b
  rw [show floatBits .add .f64 a b = Ieee.double.add a b from rfl, hs]
  exact if_neg (by have := hS.2; omega)
 have k := add_left ha hb A B fs hl
 refine ⟨?_, step_end hS hr (dec_lt k.2) (dec_lt k.1)⟩
 obtain ⟨_, f2⟩ := two_fwd (fz_of ha.2) (fz_of hb.2) (k := aT) dc A B
 rw [← hl] at f2
 obtain ⟨y, hy, hy2, _⟩ := f2
 unfold fv at hy
 split at hy
 ·cases hy
 ·obtain rfl := Option.some.inj hy
  omega
theorem mul_end {up : Bool} {a b p q l : Nat} (ha : Fi a) (hb : Fi b) (hp : Ieee.double.mul a b = some p) (hu : usualB p = true) (hq : Go.Op.negFloat .f64 p = q) (hl : Ieee.double.fma a b q = some l) :
 Sane l ∧ EndOk up (stepW p (decide (Fp.un Ieee.double l < 0)) (decide (0 < Fp.un Ieee.double l)) up) (rvD a * rvD b) := by
 obtain ⟨p', e, hr⟩ := mul_rno ha hb
 rw [hp] at e
 obtain rfl := Option.some.inj e
 obtain ⟨big, hS⟩ := usual_big hr.1 hu
 obtain ⟨n1, n2⟩ := neg_sane hS.sane
 rw [hq] at n1 n2
 have fq : Fi q := by
  refine ⟨n1.1, ?_⟩
  rcases sane_cases n1 with ⟨f, _⟩ | ⟨_, u⟩ | ⟨_, u⟩
  ·exact f.2
  ·have := un_fi hS; omega
  ·have := un_fi hS; omega
 obtain ⟨l', e2, hr2⟩ := fma_rno ha hb fq
 rw [hl] at e2
 obtain rfl := Option.some.inj e2
 have k := mul_left ha hb hr (Nat.lt_of_le_of_lt (Nat.pow_le_pow_right dc dc) big) n2 hr2
 exact ⟨hr2.1, step_end hS hr (dec_lt k.2) (dec_lt k.1)⟩
end Go.Proofs.YtgkcpnidmfejeaaGreatDoor
end
namespace Go.Proofs.YtgkcpnidmfejeaaGreatDoor
open Go.RowKit
def nextD (b : Nat) : Nat := if canonD b = 9221120237041090561 ∨ canonD b = 9218868437227405312 then canonD b else if canonD b % 9223372036854775808 = 0 then 1 else if 9223372036854775808 ≤ canonD b then canonD b - 1 else canonD b + 1
def turnD (b : Nat) : Nat := (b + 9223372036854775808) % 18446744073709551616
def prevD (b : Nat) : Nat := if nanD b then canonD b else turnD (nextD (turnD b))
theorem nextD_lt {b : Nat} (h : b < 18446744073709551616) : nextD b < 18446744073709551616 := by
 have := canonD_lt h
 unfold nextD; split
 ·omega
 ·split
  ·omega
  ·split <;> omega
theorem turnD_lt (b : Nat) : turnD b < 18446744073709551616 := by unfold turnD; omega
theorem zz29 {p : Prop} (h : p := by
 have C := Hh c4
 clear c1 c2 c3 c4
 go_enter Tryz.func337, Tryz.ntmps337
 go_wp2_with fail
 refine (canon_D _ H0.out _).mono ?_; rintro e1 w1 ⟨rfl, hb1⟩
 have hc1 := hb1.cells; have hz1 : w.heap.size < w1.heap.size := by have := hb1.sizes; simp at this; omega
 go_wp2_with fail
 refine (none_D _).mono ?_; rintro e2 w2 ⟨rfl, hb2⟩
 have hc2 := hb2.cells; have hz2 : w.heap.size < w2.heap.size := by have := hb2.sizes; omega
 go_wp2_with fail
 refine (infinite_D _).mono ?_; rintro e3 w3 ⟨rfl, hb3⟩
 have hc3 := hb3.cells; have hz3 : w.heap.size < w3.heap.size := by have := hb3.sizes; omega
 go_wp2_with fail
 refine (sign_D _).mono ?_; rintro e4 w4 ⟨rfl, hb4⟩
 have hc4 := hb4.cells; have hz4 : w.heap.size < w4.heap.size := by have := hb4.sizes; omega
 go_wp2_with fail
 refine (sign_D _).mono ?_; rintro e5 w5 ⟨rfl, hb5⟩
 have hc5 := hb5.cells; have hz5 : w.heap.size < w5.heap.size := by have := hb5.sizes; omega
 go_wp2
 go_ret
 exact ⟨ret_int (by have := HL.out; have := C.out; first | omega | (simp only [IntKind.wrap_u64]; omega)), wi⟩) : p := h
theorem next_D (b : Nat) (hb : b < 18446744073709551616) (w : World) : Calls Tryz.prog 337 #[.int .u64 b, dbl] w fun e w' => e = .returned (.int .u64 (nextD b)) ∧ Within w w' := by
 have H0 := Hh hb; clear hb
 have HL := Hh (canonD_lt H0.out)
 have ew : IntKind.u64.wrap (canonD b : Int) = canonD b := by have := HL.out; rw [IntKind.wrap_u64]; omega
 have e1 := u64_unsign (canonD b) HL.out
 have e2 := u64_sign (canonD b) HL.out
 generalize hn : (nextD b : Int) = r
 unfold nextD at hn
 by_cases c1 : canonD b = 9221120237041090561
 ·have t1 : ((canonD b : Int) == 9221120237041090561) = true := beq_iff_eq.2 om
  rw [if_pos (.inl c1)] at hn; subst hn
  clear c1
  go_enter Tryz.func337, Tryz.ntmps337
  go_wp2_with fail
  refine (canon_D _ H0.out _).mono ?_; rintro e1 w1 ⟨rfl, hb1⟩
  have hc1 := hb1.cells; have hz1 : w.heap.size < w1.heap.size := by have := hb1.sizes; simp at this; omega
  go_wp2_with fail
  refine (none_D _).mono ?_; rintro e2 w2 ⟨rfl, hb2⟩
  have hc2 := hb2.cells; have hz2 : w.heap.size < w2.heap.size := by have := hb2.sizes; omega
  go_wp2
  go_ret
  exact ⟨ret_int (by have := HL.out; first | rfl | omega), wi⟩
 have t1 : ((canonD b : Int) == 9221120237041090561) = false := beq_eq_false_iff_ne.2 om
 by_cases c2 : canonD b = 9218868437227405312
 ·have t2 : ((canonD b : Int) == 9218868437227405312) = true := beq_iff_eq.2 om
  rw [if_pos (.inr c2)] at hn; subst hn
  clear c1 c2
  go_enter Tryz.func337, Tryz.ntmps337
  go_wp2_with fail
  refine (canon_D _ H0.out _).mono ?_; rintro e1 w1 ⟨rfl, hb1⟩
  have hc1 := hb1.cells; have hz1 : w.heap.size < w1.heap.size := by have := hb1.sizes; simp at this; omega
  go_wp2_with fail
  refine (none_D _).mono ?_; rintro e2 w2 ⟨rfl, hb2⟩
  have hc2 := hb2.cells; have hz2 : w.heap.size < w2.heap.size := by have := hb2.sizes; omega
  go_wp2_with fail
  refine (infinite_D _).mono ?_; rintro e3 w3 ⟨rfl, hb3⟩
  have hc3 := hb3.cells; have hz3 : w.heap.size < w3.heap.size := by have := hb3.sizes; omega
  go_wp2
  go_ret
  exact ⟨ret_int (by have := HL.out; first | rfl | omega), wi⟩
 have t2 : ((canonD b : Int) == 9218868437227405312) = false := beq_eq_false_iff_ne.2 om
 rw [if_neg om] at hn
 by_cases c3 : canonD b % 9223372036854775808 = 0
 ·have t3 : ((canonD b : Int) % 9223372036854775808 == 0) = true := beq_iff_eq.2 om
  rw [if_pos c3] at hn; subst hn
  clear c1 c2 c3
  go_enter Tryz.func337, Tryz.ntmps337
  go_wp2_with fail
  refine (canon_D _ H0.out _).mono ?_; rintro e1 w1 ⟨rfl, hb1⟩
  have hc1 := hb1.cells; have hz1 : w.heap.size < w1.heap.size := by have := hb1.sizes; simp at this; omega
  go_wp2_with fail
  refine (none_D _).mono ?_; rintro e2 w2 ⟨rfl, hb2⟩
  have hc2 := hb2.cells; have hz2 : w.heap.size < w2.heap.size := by have := hb2.sizes; omega
  go_wp2_with fail
  refine (infinite_D _).mono ?_; rintro e3 w3 ⟨rfl, hb3⟩
  have hc3 := hb3.cells; have hz3 : w.heap.size < w3.heap.size := by have := hb3.sizes; omega
  go_wp2_with fail
  refine (sign_D _).mono ?_; rintro e4 w4 ⟨rfl, hb4⟩
  have hc4 := hb4.cells; have hz4 : w.heap.size < w4.heap.size := by have := hb4.sizes; omega
  go_wp2
  go_ret
  exact ⟨rfl, wi⟩
 have t3 : ((canonD b : Int) % 9223372036854775808 == 0) = false := beq_eq_false_iff_ne.2 om
 rw [if_neg c3] at hn
 by_cases c4 : 9223372036854775808 ≤ canonD b
 ·have t4 : ((canonD b : Int) / 9223372036854775808 * 9223372036854775808 != 0) = true := by rw [bne_iff_ne]; omega
  rw [if_pos c4] at hn; subst hn
  exact zz29
 ·have t4 : ((canonD b : Int) / 9223372036854775808 * 9223372036854775808 != 0) = false := by have := HL.out; rw [bne_eq_false_iff_eq]; omega
  rw [if_neg c4] at hn; subst hn
  exact zz29
theorem prev_D (b : Nat) (hb : b < 18446744073709551616) (w : World) : Calls Tryz.prog 338 #[.int .u64 b, dbl] w fun e w' => e = .returned (.int .u64 (prevD b)) ∧ Within w w' := by
 have H0 := Hh hb
 have HL := Hh (canonD_lt hb)
 have HT := Hh (turnD_lt b)
 have HN := Hh (nextD_lt (turnD_lt b))
 have HP := Hh (turnD_lt (nextD (turnD b)))
 clear hb
 have ew : IntKind.u64.wrap (b : Int) = b := by have := H0.out; rw [IntKind.wrap_u64]; omega
 have ew2 : IntKind.u64.wrap (nextD (turnD b) : Int) = nextD (turnD b) := by have := HN.out; rw [IntKind.wrap_u64]; omega
 have ew3 : IntKind.u32.wrap (turnD b : Int) = turnD b % 4294967296 := by rw [IntKind.wrap_u32]
 have ew4 : IntKind.u32.wrap (turnD (nextD (turnD b)) : Int) = turnD (nextD (turnD b)) % 4294967296 := by rw [IntKind.wrap_u32]
 have e1 : bits .xor .u64 (b : Int) 9223372036854775808 = (turnD b : Int) := u64_xsign b H0.out
 have e2 : bits .xor .u64 (nextD (turnD b) : Int) 9223372036854775808 = (turnD (nextD (turnD b)) : Int) := u64_xsign _ HN.out
 generalize hn : (prevD b : Int) = r
 unfold prevD at hn
 by_cases c1 : nanD b = true
 ·rw [if_pos c1] at hn; subst hn
  go_enter Tryz.func338, Tryz.ntmps338
  go_wp2_with fail
  refine (nan_D b H0.out _).mono ?_; rintro e1 w1 ⟨rfl, hb1⟩
  have hc1 := hb1.cells; have hz1 : w.heap.size < w1.heap.size := by have := hb1.sizes; simp at this; omega
  go_wp2_with fail
  refine (canon_D b H0.out _).mono ?_; rintro e2 w2 ⟨rfl, hb2⟩
  go_wp2
  go_ret
  exact ⟨rfl, wi⟩
 ·have c2 : nanD b = false := by simpa using c1
  rw [if_neg c1] at hn; subst hn
  clear c1
  go_enter Tryz.func338, Tryz.ntmps338
  go_wp2_with fail
  refine (nan_D b H0.out _).mono ?_; rintro e1 w1 ⟨rfl, hb1⟩
  have hc1 := hb1.cells; have hz1 : w.heap.size < w1.heap.size := by have := hb1.sizes; simp at this; omega
  go_wp2
  refine wp_region_within kr kr ?_
  repeat
   apply wpq_step rfl
   ·intro wq hCq
    have hcq := hCq.cells
    go_simp
    first | rfl | exact hCq.call (sign_D _) | exact hCq.call (next_D _ HT.out _) | (trace_state; fail)
   simp only [Act.put, List.setIfInBounds_toArray, List.set_cons_zero, List.set_cons_succ]
  refine wpQuiet_nil ?_
  intro w2 hC2
  go_wp2
  go_ret
  exact ⟨rfl, wi⟩
theorem Next_D (a : Nat) (ha : a < 18446744073709551616) (w : World) : Calls Tryz.prog 299 #[.float .f64 a] w fun e w' => e = .returned (.float .f64 (nextD a)) ∧ Within w w' := by
 have HA := Hh ha; clear ha
 go_enter Tryz.func299, Tryz.ntmps299
 go_wp2_with fail
 refine (of_D _).mono ?_; rintro e1 w1 ⟨rfl, hb1⟩
 go_wp2_with fail
 refine (next_D a HA.out _).mono ?_; rintro e2 w2 ⟨rfl, hb2⟩
 go_wp2
 go_ret
 exact ⟨rfl, wi⟩
theorem Prev_D (a : Nat) (ha : a < 18446744073709551616) (w : World) : Calls Tryz.prog 300 #[.float .f64 a] w fun e w' => e = .returned (.float .f64 (prevD a)) ∧ Within w w' := by
 have HA := Hh ha; clear ha
 go_enter Tryz.func300, Tryz.ntmps300
 go_wp2_with fail
 refine (of_D _).mono ?_; rintro e1 w1 ⟨rfl, hb1⟩
 go_wp2_with fail
 refine (prev_D a HA.out _).mono ?_; rintro e2 w2 ⟨rfl, hb2⟩
 go_wp2
 go_ret
 exact ⟨rfl, wi⟩
theorem next_up {x : Nat} (h : Fi x) : nextD x = upW x := by
 obtain ⟨h1, h2⟩ := h
 have hc : canonD x = x := canonD_id (by unfold nanD; exact decide_eq_false om)
 unfold nextD upW
 rw [hc, if_neg om]
theorem prev_down {x : Nat} (h : Fi x) : prevD x = downW x := by
 obtain ⟨h1, h2⟩ := h
 have hn : nanD x = false := by unfold nanD; exact decide_eq_false om
 have ht : Fi (turnD x) := by unfold Fi turnD; omega
 have hu := next_up ht
 have et : turnD x = if x < 9223372036854775808 then x + 9223372036854775808 else x - 9223372036854775808 := by unfold turnD; split <;> omega
 unfold prevD downW
 rw [hn, if_neg Bool.false_ne_true, hu]
 unfold upW
 rw [et]
 by_cases c : x < 9223372036854775808
 ·rw [if_pos c]
  by_cases z : x = 0
  ·subst z; decide
  ·rw [if_neg om, if_pos om, if_neg om, if_neg om]
   unfold turnD; omega
 ·rw [if_neg c]
  by_cases z : x = 9223372036854775808
  ·subst z; decide
  ·rw [if_neg om, if_neg om, if_neg om, if_pos om]
   unfold turnD; omega
@[go_sem] theorem mx_bits64 (a : Nat) (w : World) : (callFunc 129 #[.float .f64 a]).run Tryz.prog w = .ok (.value (.int .u64 a)) w := by kernel_rfl
@[go_sem] theorem mx_from64 (a : Int) (w : World) : (callFunc 57 #[.int .u64 a]).run Tryz.prog w = .ok (.value (.float .f64 a.toNat)) w := by kernel_rfl
theorem key_pos {r : Nat} (h : r < 9223372036854775808) : Fp.key64 r = r := by unfold Fp.key64; rw [if_neg om, Nat.mod_eq_of_lt h]
theorem notnan {r : Nat} (h : r % 9223372036854775808 ≤ 9218868437227405312) : Fp.isNaN64 r = false := decide_eq_false om
theorem lt_small {r : Nat} (h : r < 9218868437227405312) : (FloatKind.f64.format.order r 4503599627370496 == some .lt) = decide (r < 4503599627370496) := by
 show (Ieee.double.order r 4503599627370496 == some .lt) = _
 rw [Fp.lt64 _ _ (notnan om) (notnan dc), key_pos om, key_pos dc]
 exact decide_eq_decide.2 om
theorem eq_zero {r : Nat} (h : r % 9223372036854775808 ≤ 9218868437227405312) : (FloatKind.f64.format.order r 0 == some .eq) = decide (r % 9223372036854775808 = 0) := by
 show (Ieee.double.order r 0 == some .eq) = _
 rw [Fp.eq64 _ _ (notnan h) (notnan dc)]
 unfold Fp.key64
 refine decide_eq_decide.2 ?_
 split <;> omega
theorem gt_max {r : Nat} (h : r < 9223372036854775808) : (FloatKind.f64.format.order r 9218868437227405311 == some .gt) = decide (r = 9218868437227405312) := by
 show (Ieee.double.order r 9218868437227405311 == some .gt) = _
 by_cases hn : r ≤ 9218868437227405312
 ·rw [Fp.gt64 _ _ (notnan om) (notnan dc), key_pos h, key_pos dc]
  exact decide_eq_decide.2 om
 ·rw [Fp.order64_nan _ _ (.inl (decide_eq_true om)), decide_eq_false om]; rfl
theorem ne_self {a : Nat} : (FloatKind.f64.format.order a a != some .eq) = decide (9218868437227405312 < a % 9223372036854775808) := by
 show (!(Ieee.double.order a a == some .eq)) = _
 rw [Fp.order64_self]; unfold Fp.isNaN64; simp
theorem m_abs (a : Nat) (ha : a < 18446744073709551616) (w : World) : Calls Tryz.prog 47 #[.float .f64 a] w fun e w' => e = .returned (.float .f64 (a % 9223372036854775808)) ∧ w = w' := by
 have h := u64_unsign a ha
 generalize a % 9223372036854775808 = m at *
 clear ha
 go_enter Tryz.func47, Tryz.ntmps47
 go_wp2
 go_ret
 exact ⟨rfl, rfl⟩
theorem m_isinf (a : Nat) (ha : a < 18446744073709551616) (w : World) : Calls Tryz.prog 54 #[.float .f64 a, .int .i64 0] w fun e w' => e = .returned (.bool (decide (a % 9223372036854775808 = 9218868437227405312))) ∧ w = w' := by
 have HA := Hh (fun w => m_abs a ha w)
 have h := gt_max (r := a % 9223372036854775808) om
 rw [← h]
 generalize a % 9223372036854775808 = m at *
 clear ha h
 go_enter Tryz.func54, Tryz.ntmps54
 go_wp2_with fail
 refine (HA.out _).mono ?_; rintro e1 w1 ⟨rfl, rfl⟩
 go_wp2
 go_ret
 exact ⟨rfl, rfl⟩
theorem m_isnan (a : Nat) (w : World) : Calls Tryz.prog 248 #[.float .f64 a] w fun e w' => e = .returned (.bool (decide (9218868437227405312 < a % 9223372036854775808))) ∧ w = w' := by
 have h := ne_self (a := a)
 rw [← h]
 clear h
 go_enter Tryz.func248, Tryz.ntmps248
 go_wp2
 go_ret
 exact ⟨rfl, rfl⟩
theorem m_norm_high (r : Nat) (h : 4503599627370496 ≤ r) (h2 : r < 9218868437227405312) (w : World) : Calls Tryz.prog 249 #[.float .f64 r] w fun e w' => e = .returned (.tuple #[.float .f64 r, .int .i64 0]) ∧ w = w' := by
 have HA := Hh (fun w => m_abs r om w)
 rw [Nat.mod_eq_of_lt (show r < 9223372036854775808 by omega)] at HA
 have hl := lt_small h2
 rw [decide_eq_false om] at hl
 clear h h2
 go_enter Tryz.func249, Tryz.ntmps249
 go_wp2_with fail
 refine (HA.out _).mono ?_; rintro e1 w1 ⟨rfl, rfl⟩
 go_wp2
 go_ret2
 exact ⟨rfl, rfl⟩
theorem field_of_i (z : Nat) (h : z < 9218868437227405312) : bits .and .i64 ((z / 4503599627370496 : Nat) : Int) 2047 = ((z / 4503599627370496 : Nat) : Int) := by
 obtain ⟨q, hq⟩ : ∃ q, z / 4503599627370496 = q := ⟨_, rfl⟩
 have hl : q < 2048 := by omega
 rw [hq]
 have : ∀ n : Fin 2048, bits .and .i64 ((n.val : Nat) : Int) 2047 = ((n.val : Nat) : Int) := by decide +kernel
 exact this ⟨q, hl⟩
theorem frac_of (z : Nat) (h : z < 9218868437227405312) : bits .andNot .u64 (z : Int) 9218868437227405312 = ((z % 4503599627370496 : Nat) : Int) := by
 rw [show (9218868437227405312 : Int) = ((9218868437227405312 : Nat) : Int) from rfl, u64_andNot_nat z 9218868437227405312 om dc]
 congr 1
 apply Nat.eq_of_testBit_eq
 intro i
 rw [show 18446744073709551615 - 9218868437227405312 = 2 ^ 63 + (2 ^ 52 - 1) by decide, show (4503599627370496 : Nat) = 2 ^ 52 by decide, Nat.testBit_and, Nat.testBit_mod_two_pow]
 by_cases h1 : i < 63
 ·have k : ∀ j, j < 63 → Nat.testBit (2 ^ 63 + (2 ^ 52 - 1)) j = decide (j < 52) := by decide +kernel
  rw [k i h1, Bool.and_comm]
 ·have : z.testBit i = false := Nat.testBit_lt_two_pow (Nat.lt_of_lt_of_le h (Nat.le_trans (show 9218868437227405312 ≤ 2 ^ 63 by decide) (Nat.pow_le_pow_right dc om)))
  rw [this]; simp
theorem join_of (q x : Nat) (hq : q < 2048) (hx : x < 4503599627370496) : bits .or .u64 (x : Int) ((q * 4503599627370496 : Nat) : Int) = ((q * 4503599627370496 + x : Nat) : Int) := by
 rw [u64_or_nat x (q * 4503599627370496) om om, Nat.or_comm, nat_join 52 (q * 4503599627370496) x om hx]
instance (x : Nat) : Decidable (Fi x) := by unfold Fi; infer_instance
instance (x : Nat) : Decidable (Sane x) := by unfold Sane; infer_instance
@[go_sem] theorem run_store_ivf (P : Program) (w : World) (a : Addr) (k : FloatKind) (x : Nat) (m : Mode) : (store a (.float k x) m).run P w = stored P w a (.float k x) m := run_store P w a _ m rfl
theorem ifin_sub (x : Nat) (w : World) : (FloatKind.f64.format.order (arF .sub x x w) 0 == some .eq) = decide (x % 9223372036854775808 < 9218868437227405312) := by
 unfold arF
 obtain ⟨h1, h2⟩ := sub_self_zero x
 by_cases hf : x % 9223372036854775808 < 9218868437227405312
 ·rw [h1 hf, decide_eq_true hf]
  show (FloatKind.f64.format.order 0 0 == some .eq) = true
  decide
 ·rw [h2 hf, decide_eq_false hf]
  exact c_nan (.inl (cut_nan x x _).1) _
theorem fi_dec {x : Nat} (h : Sane x) : decide (x % 9223372036854775808 < 9218868437227405312) = decide (Fi x) := decide_eq_decide.2 ⟨fun g => ⟨h.1, g⟩, fun g => g.2⟩
theorem ifinite_any (x : Nat) (w : World) : Calls Tryz.prog 53 #[.float .f64 x] w fun e w' => e = .returned (.bool (decide (x % 9223372036854775808 < 9218868437227405312))) ∧ Within w w' := by
 have hsub := fun t x y w => run_ar .sub (.inl rfl) t x y Tryz.prog w
 have hf := fun w => ifin_sub x w
 generalize decide (x % 9223372036854775808 < 9218868437227405312) = b at *
 go_enter Tryz.func53, Tryz.ntmps53
 go_wp2
 go_ret
 exact ⟨rfl, wa⟩
theorem ifinite (x : Nat) (h : Sane x) (w : World) : Calls Tryz.prog 53 #[.float .f64 x] w fun e w' => e = .returned (.bool (decide (Fi x))) ∧ Within w w' := by
 have k := ifinite_any x w
 rw [fi_dec h] at k
 exact k
theorem im_inf_one (w : World) : Calls Tryz.prog 122 #[.int .i64 1] w fun e w' => e = .returned (.float .f64 9218868437227405312) ∧ w = w' := by
 go_enter Tryz.func122, Tryz.ntmps122
 go_wp2
 go_ret
 exact ⟨rfl, rfl⟩
theorem im_inf_neg (w : World) : Calls Tryz.prog 122 #[.int .i64 (-1)] w fun e w' => e = .returned (.float .f64 18442240474082181120) ∧ w = w' := by
 go_enter Tryz.func122, Tryz.ntmps122
 go_wp2
 go_ret
 exact ⟨rfl, rfl⟩
theorem iusual_00 (x m : Nat) (AB : Hid (∀ w, Calls Tryz.prog 47 #[.float .f64 x] w fun e w' => e = .returned (.float .f64 m) ∧ w = w')) (g1 : (FloatKind.f64.format.order m 553942754166571008 == some .gt) = false) (w : World) : Calls Tryz.prog 279 #[.float .f64 x] w fun e w' => e = .returned (.bool false) ∧ Within w w' := by
 go_enter Tryz.func279, Tryz.ntmps279
 go_wp2_with fail
 refine (AB.out _).mono ?_; rintro e1 w1 ⟨rfl, rfl⟩
 go_wp2
 go_ret
 exact ⟨rfl, wa⟩
theorem zz78 {p : Prop} (h : p := by
 go_enter Tryz.func279, Tryz.ntmps279
 go_wp2_with fail
 refine (AB.out _).mono ?_; rintro e1 w1 ⟨rfl, rfl⟩
 go_wp2_with fail
 refine (AB.out _).mono ?_; rintro e2 w2 ⟨rfl, rfl⟩
 go_wp2
 go_ret
 exact ⟨rfl, wa⟩) : p := h
theorem iusual_10 (x m : Nat) (AB : Hid (∀ w, Calls Tryz.prog 47 #[.float .f64 x] w fun e w' => e = .returned (.float .f64 m) ∧ w = w')) (g1 : (FloatKind.f64.format.order m 553942754166571008 == some .gt) = true) (g2 : (FloatKind.f64.format.order m 9110782046170513408 == some .lt) = false) (w : World) : Calls Tryz.prog 279 #[.float .f64 x] w fun e w' => e = .returned (.bool false) ∧ Within w w' := by
 exact zz78
theorem iusual_11 (x m : Nat) (AB : Hid (∀ w, Calls Tryz.prog 47 #[.float .f64 x] w fun e w' => e = .returned (.float .f64 m) ∧ w = w')) (g1 : (FloatKind.f64.format.order m 553942754166571008 == some .gt) = true) (g2 : (FloatKind.f64.format.order m 9110782046170513408 == some .lt) = true) (w : World) : Calls Tryz.prog 279 #[.float .f64 x] w fun e w' => e = .returned (.bool true) ∧ Within w w' := by
 exact zz78
theorem iusual (x : Nat) (h : Sane x) (w : World) : Calls Tryz.prog 279 #[.float .f64 x] w fun e w' => e = .returned (.bool (usualB x)) ∧ Within w w' := by
 have AB := Hh (fun w => m_abs x h.1 w)
 unfold usualB
 cases g1 : (FloatKind.f64.format.order (x % 9223372036854775808) 553942754166571008 == some .gt)
 ·exact iusual_00 x _ AB g1 w
 ·cases g2 : (FloatKind.f64.format.order (x % 9223372036854775808) 9110782046170513408 == some .lt)
  ·exact iusual_10 x _ AB g1 g2 w
  ·exact iusual_11 x _ AB g1 g2 w
theorem zz100 {p : Prop} (h : p := by
 go_enter Tryz.func221, Tryz.ntmps221
 go_wp2_with fail
 refine (ST.out _).mono ?_; rintro e1 w1 ⟨rfl, hb1⟩
 go_wp2
 go_ret
 exact ⟨rfl, wa⟩) : p := h
theorem istep_up_pos (x l r : Nat) (ST : Hid (∀ w, Calls Tryz.prog 299 #[.float .f64 x] w fun e w' => e = .returned (.float .f64 r) ∧ Within w w')) (g1 : (FloatKind.f64.format.order l 0 == some .gt) = true) (w : World) : Calls Tryz.prog 221 #[.float .f64 x, .float .f64 l, .int .i64 3] w fun e w' => e = .returned (.float .f64 r) ∧ Within w w' := by
 exact zz100
theorem zz82 {p : Prop} (h : p := by
 go_enter Tryz.func221, Tryz.ntmps221
 go_wp2
 go_ret
 exact ⟨rfl, wa⟩) : p := h
theorem istep_up_neg (x l : Nat) (g1 : (FloatKind.f64.format.order l 0 == some .gt) = false) (g2 : (FloatKind.f64.format.order l 0 == some .lt) = true) (w : World) : Calls Tryz.prog 221 #[.float .f64 x, .float .f64 l, .int .i64 3] w fun e w' => e = .returned (.float .f64 x) ∧ Within w w' := by
 exact zz82
theorem istep_up_no (x l : Nat) (g1 : (FloatKind.f64.format.order l 0 == some .gt) = false) (g2 : (FloatKind.f64.format.order l 0 == some .lt) = false) (w : World) : Calls Tryz.prog 221 #[.float .f64 x, .float .f64 l, .int .i64 3] w fun e w' => e = .returned (.float .f64 x) ∧ Within w w' := by
 exact zz82
theorem istep_dn_pos (x l : Nat) (g1 : (FloatKind.f64.format.order l 0 == some .gt) = true) (g2 : (FloatKind.f64.format.order l 0 == some .lt) = false) (w : World) : Calls Tryz.prog 221 #[.float .f64 x, .float .f64 l, .int .i64 4] w fun e w' => e = .returned (.float .f64 x) ∧ Within w w' := by
 exact zz82
theorem istep_dn_neg (x l r : Nat) (ST : Hid (∀ w, Calls Tryz.prog 300 #[.float .f64 x] w fun e w' => e = .returned (.float .f64 r) ∧ Within w w')) (g1 : (FloatKind.f64.format.order l 0 == some .gt) = false) (g2 : (FloatKind.f64.format.order l 0 == some .lt) = true) (w : World) : Calls Tryz.prog 221 #[.float .f64 x, .float .f64 l, .int .i64 4] w fun e w' => e = .returned (.float .f64 r) ∧ Within w w' := by
 exact zz100
theorem istep_dn_no (x l : Nat) (g1 : (FloatKind.f64.format.order l 0 == some .gt) = false) (g2 : (FloatKind.f64.format.order l 0 == some .lt) = false) (w : World) : Calls Tryz.prog 221 #[.float .f64 x, .float .f64 l, .int .i64 4] w fun e w' => e = .returned (.float .f64 x) ∧ Within w w' := by
 exact zz82
theorem istep (up : Bool) (x l : Nat) (h : Fi x) (hl : l % 9223372036854775808 ≤ 9218868437227405312) (w : World) : Calls Tryz.prog 221 #[.float .f64 x, .float .f64 l, .int .i64 (upM up)] w fun e w' => e = .returned (.float .f64 (stepW x (decide (Fp.un Ieee.double l < 0)) (decide (0 < Fp.un Ieee.double l)) up)) ∧ Within w w' := by
 have NU := Hh (fun w => Next_D x h.1 w)
 have PD := Hh (fun w => Prev_D x h.1 w)
 rw [next_up h] at NU
 rw [prev_down h] at PD
 have c1 := c_gt (x := l) (y := 0) hl dc
 have c2 := c_lt (x := l) (y := 0) hl dc
 rw [un_zero] at c1 c2
 rcases Int.lt_trichotomy (Fp.un Ieee.double l) 0 with g | g | g
 ·rw [decide_eq_false om] at c1
  rw [decide_eq_true g] at c2
  rw [decide_eq_true g, decide_eq_false om]
  cases up
  ·exact istep_dn_neg x l _ PD c1 c2 w
  ·exact istep_up_neg x l c1 c2 w
 ·rw [decide_eq_false om] at c1 c2
  rw [decide_eq_false om, decide_eq_false om]
  cases up
  ·exact istep_dn_no x l c1 c2 w
  ·exact istep_up_no x l c1 c2 w
 ·rw [decide_eq_true g] at c1
  rw [decide_eq_false om] at c2
  rw [decide_eq_false om, decide_eq_true g]
  cases up
  ·exact istep_dn_pos x l c1 c2 w
  ·exact istep_up_pos x l _ NU c1 w
theorem zz127 {p : Prop} (h : p := by
 try simp only [pu]
 apply sch_firm rfl rfl wi
 ·intro wq hq
  have hcq := hq.cells
  clear hq
  go_simp
  rfl
 try simp only [pu]
 refine sch_one rfl rfl (fun K hK => ?_)
 go_simp
 refine hK _ _ ab ?_
 clear hK K
 try simp only [pu]
 refine sch_nil ?_
 go_wp2
 go_ret
 exact ⟨rfl, wa⟩) : p := h
theorem zz46 {p : Prop} (h : p := by
 try simp only [pu]
 iterate 2
  apply sch_firm rfl rfl wi
  ·intro wq hq
   have hcq := hq.cells
   clear hq
   go_simp
   rfl
  try simp only [pu]
 iterate 2
  refine sch_skip rfl wnt wi ?_
  try simp only [pu]
 refine sch_one_skip rfl wnt wi ?_
 try simp only [pu]
 refine sch_skip rfl wnt wi ?_
 exact zz127) : p := h
theorem ifull_0 (l h : Nat) (g1 : (FloatKind.f64.format.order l h == some .lt || FloatKind.f64.format.order l h == some .eq) = false) (w : World) : Calls Tryz.prog 51 #[.agg #[.float .f64 l, .float .f64 h]] w fun e w' => e = .returned (.bool false) ∧ Within w w' := by
 have C1 := Hh im_inf_one; have C2 := Hh im_inf_neg
 go_enter Tryz.func51, Tryz.ntmps51
 go_wp2
 refine wp_region_schG (fun W => W.cell? ⟨w.heap.size, 0, none⟩ = some (.float .f64 l) ∧ W.cell? ⟨w.heap.size, 1, none⟩ = some (.float .f64 h) ∧ w.heap.size < W.heap.size ∧ Within w W) 17 (.firm 0 (.firm 1 (.firm 2 (.firm 3 (.firm 4 (.firm 5 (.firm 6 (.firm 7 (.one 8 (.firm 9 (.firm 10 (.firm 11 (.firm 12 (.firm 13 (.one 14 (.firm 15 (.firm 16 (.one 17 .nil)))))))))))))))))) kr kr ⟨by go_simp, by go_simp, by first | (simp; done) | (simp; omega), wa⟩ ?_
 rintro w0 ⟨c0, c1, lt, hw0⟩
 try simp only [pu]
 iterate 6
  apply sch_firm rfl rfl wi
  ·intro wq hq
   have hcq := hq.cells
   clear hq
   go_simp
   rfl
  try simp only [pu]
 iterate 2
  refine sch_skip rfl wnt wi ?_
  try simp only [pu]
 refine sch_one_skip rfl wnt wi ?_
 try simp only [pu]
 refine sch_skip rfl wnt wi ?_
 exact zz46
theorem ifull_1 (l h : Nat) (g1 : (FloatKind.f64.format.order l h == some .lt || FloatKind.f64.format.order l h == some .eq) = true) (g2 : (FloatKind.f64.format.order l 9218868437227405312 == some .lt) = false) (w : World) : Calls Tryz.prog 51 #[.agg #[.float .f64 l, .float .f64 h]] w fun e w' => e = .returned (.bool false) ∧ Within w w' := by
 have C1 := Hh im_inf_one; have C2 := Hh im_inf_neg
 go_enter Tryz.func51, Tryz.ntmps51
 go_wp2
 refine wp_region_schG (fun W => W.cell? ⟨w.heap.size, 0, none⟩ = some (.float .f64 l) ∧ W.cell? ⟨w.heap.size, 1, none⟩ = some (.float .f64 h) ∧ w.heap.size < W.heap.size ∧ Within w W) 17 (.firm 0 (.firm 1 (.firm 2 (.firm 3 (.firm 4 (.firm 5 (.firm 6 (.firm 7 (.one 8 (.firm 9 (.firm 10 (.firm 11 (.firm 12 (.firm 13 (.one 14 (.firm 15 (.firm 16 (.one 17 .nil)))))))))))))))))) kr kr ⟨by go_simp, by go_simp, by first | (simp; done) | (simp; omega), wa⟩ ?_
 rintro w0 ⟨c0, c1, lt, hw0⟩
 try simp only [pu]
 iterate 6
  apply sch_firm rfl rfl wi
  ·intro wq hq
   have hcq := hq.cells
   clear hq
   go_simp
   rfl
  try simp only [pu]
 iterate 2
  apply sch_want rfl wnt wi
  ·intro wq hq
   have hcq := hq.cells
   clear hq
   go_simp
   rfl
  try simp only [pu]
 refine sch_one_want rfl wnt (fun K hK => ?_)
 go_simp
 refine (C1.out _).mono ?_; rintro e1 w1 ⟨rfl, rfl⟩
 refine hK _ _ (fun _ => wi) ?_
 clear hK K
 try simp only [pu]
 apply sch_want rfl wnt wi
 ·intro wq hq
  have hcq := hq.cells
  clear hq
  go_simp
  rfl
 exact zz46
theorem zz21 {p : Prop} (h : p := by
 have C1 := Hh im_inf_one; have C2 := Hh im_inf_neg
 go_enter Tryz.func51, Tryz.ntmps51
 go_wp2
 refine wp_region_schG (fun W => W.cell? ⟨w.heap.size, 0, none⟩ = some (.float .f64 l) ∧ W.cell? ⟨w.heap.size, 1, none⟩ = some (.float .f64 h) ∧ w.heap.size < W.heap.size ∧ Within w W) 17 (.firm 0 (.firm 1 (.firm 2 (.firm 3 (.firm 4 (.firm 5 (.firm 6 (.firm 7 (.one 8 (.firm 9 (.firm 10 (.firm 11 (.firm 12 (.firm 13 (.one 14 (.firm 15 (.firm 16 (.one 17 .nil)))))))))))))))))) kr kr ⟨by go_simp, by go_simp, by first | (simp; done) | (simp; omega), wa⟩ ?_
 rintro w0 ⟨c0, c1, lt, hw0⟩
 try simp only [pu]
 iterate 6
  apply sch_firm rfl rfl wi
  ·intro wq hq
   have hcq := hq.cells
   clear hq
   go_simp
   rfl
  try simp only [pu]
 iterate 2
  apply sch_want rfl wnt wi
  ·intro wq hq
   have hcq := hq.cells
   clear hq
   go_simp
   rfl
  try simp only [pu]
 refine sch_one_want rfl wnt (fun K hK => ?_)
 go_simp
 refine (C1.out _).mono ?_; rintro e1 w1 ⟨rfl, rfl⟩
 refine hK _ _ (fun _ => wi) ?_
 clear hK K
 try simp only [pu]
 apply sch_want rfl wnt wi
 ·intro wq hq
  have hcq := hq.cells
  clear hq
  go_simp
  rfl
 try simp only [pu]
 iterate 2
  apply sch_firm rfl rfl wi
  ·intro wq hq
   have hcq := hq.cells
   clear hq
   go_simp
   rfl
  try simp only [pu]
 iterate 2
  apply sch_want rfl wnt wi
  ·intro wq hq
   have hcq := hq.cells
   clear hq
   go_simp
   rfl
  try simp only [pu]
 refine sch_one_want rfl wnt (fun K hK => ?_)
 go_simp
 refine (C2.out _).mono ?_; rintro e2 w2 ⟨rfl, rfl⟩
 refine hK _ _ (fun _ => wi) ?_
 clear hK K
 try simp only [pu]
 apply sch_want rfl wnt wi
 ·intro wq hq
  have hcq := hq.cells
  clear hq
  go_simp
  rfl
 exact zz127) : p := h
theorem ifull_2 (l h : Nat) (g1 : (FloatKind.f64.format.order l h == some .lt || FloatKind.f64.format.order l h == some .eq) = true) (g2 : (FloatKind.f64.format.order l 9218868437227405312 == some .lt) = true) (g3 : (FloatKind.f64.format.order h 18442240474082181120 == some .gt) = false) (w : World) : Calls Tryz.prog 51 #[.agg #[.float .f64 l, .float .f64 h]] w fun e w' => e = .returned (.bool false) ∧ Within w w' := by
 exact zz21
theorem ifull_3 (l h : Nat) (g1 : (FloatKind.f64.format.order l h == some .lt || FloatKind.f64.format.order l h == some .eq) = true) (g2 : (FloatKind.f64.format.order l 9218868437227405312 == some .lt) = true) (g3 : (FloatKind.f64.format.order h 18442240474082181120 == some .gt) = true) (w : World) : Calls Tryz.prog 51 #[.agg #[.float .f64 l, .float .f64 h]] w fun e w' => e = .returned (.bool true) ∧ Within w w' := by
 exact zz21
noncomputable instance (l h : Nat) : Decidable (Full l h) := Classical.propDecidable _
theorem ifull (l h : Nat) (s1 : Sane l) (s2 : Sane h) (w : World) : Calls Tryz.prog 51 #[.agg #[.float .f64 l, .float .f64 h]] w fun e w' => e = .returned (.bool (decide (Full l h))) ∧ Within w w' := by
 have T : 0 < 2 ^ Fp.dtop := Nat.two_pow_pos _
 have uI : Fp.un Ieee.double 9218868437227405312 = ((2 ^ Fp.dtop : Nat) : Int) := by
  rcases sane_cases sane_inf.1 with ⟨f, _⟩ | ⟨_, u⟩ | ⟨g, _⟩
  ·exact absurd f.2 dc
  ·exact u
  ·rw [en_inf.1] at g; cases g
 have uN : Fp.un Ieee.double 18442240474082181120 = -((2 ^ Fp.dtop : Nat) : Int) := by
  rcases sane_cases sane_inf.2 with ⟨f, _⟩ | ⟨g, _⟩ | ⟨_, u⟩
  ·exact absurd f.2 dc
  ·rw [en_inf.2] at g; cases g
  ·exact u
 have c1 := c_le s1.2 s2.2
 have c2 := c_lt s1.2 sane_inf.1.2
 have c3 := c_gt s2.2 sane_inf.2.2
 rw [uI] at c2
 rw [uN] at c3
 have hF := full_iff s1 s2
 by_cases g1 : Fp.un Ieee.double l ≤ Fp.un Ieee.double h
 ·rw [decide_eq_true g1] at c1
  by_cases g2 : Fp.un Ieee.double l < ((2 ^ Fp.dtop : Nat) : Int)
  ·rw [decide_eq_true g2] at c2
   by_cases g3 : -((2 ^ Fp.dtop : Nat) : Int) < Fp.un Ieee.double h
   ·rw [decide_eq_true g3] at c3
    rw [decide_eq_true (hF.2 ⟨g1, g2, g3⟩)]
    exact ifull_3 l h c1 c2 c3 w
   ·rw [decide_eq_false g3] at c3
    rw [decide_eq_false (fun k => g3 (hF.1 k).2.2)]
    exact ifull_2 l h c1 c2 c3 w
  ·rw [decide_eq_false g2] at c2
   rw [decide_eq_false (fun k => g2 (hF.1 k).2.1)]
   exact ifull_1 l h c1 c2 w
 ·rw [decide_eq_false g1] at c1
  rw [decide_eq_false (fun k => g1 (hF.1 k).1)]
  exact ifull_0 l h c1 w
theorem iv_block {w : World} {z : Nat} {x y : Value} (hb : w.heap[z]? = some (.cells #[x, y] 30 (0, 0))) (a b : Value) :
 w.cell? ⟨z, 0, none⟩ = some x ∧ w.cell? ⟨z, 1, none⟩ = some y ∧ (∀ o, w.frozen? ⟨z, o, none⟩ = false) ∧ (∀ o, (w.setCell ⟨z, 0, none⟩ a).frozen? ⟨z, o, none⟩ = false) ∧ (w.setCell ⟨z, 0, none⟩ a).cell? ⟨z, 1, none⟩ = some y ∧
  ((w.setCell ⟨z, 0, none⟩ a).setCell ⟨z, 1, none⟩ b).cell? ⟨z, 0, none⟩ = some a ∧ ((w.setCell ⟨z, 0, none⟩ a).setCell ⟨z, 1, none⟩ b).cell? ⟨z, 1, none⟩ = some b := by
 have h1 : (w.setCell ⟨z, 0, none⟩ a).heap[z]? = some (.cells #[a, y] 30 (0, 0)) := by simp [World.setCell, Array.getElem?_modify, hb]
 have h2 : ((w.setCell ⟨z, 0, none⟩ a).setCell ⟨z, 1, none⟩ b).heap[z]? = some (.cells #[a, b] 30 (0, 0)) := by simp [World.setCell, Array.getElem?_modify, hb]
 exact zz68
theorem imake_of (l h a b : Nat) (ha : floatBits .add .f64 l 0 = some a) (hb : floatBits .add .f64 h 0 = some b) (w : World) : Calls Tryz.prog 109 #[.float .f64 l, .float .f64 h] w fun e w' => e = .returned (.agg #[.float .f64 a, .float .f64 b]) ∧ Within w w' := by
 have h1 := fun (t : TypeId) w => run_float_arith (P := Tryz.prog) w .add t .f64 l 0 a ha
 have h2 := fun (t : TypeId) w => run_float_arith (P := Tryz.prog) w .add t .f64 h 0 b hb
 clear ha hb
 go_enter Tryz.func109, Tryz.ntmps109
 go_upto_region 1 with fail
 have hz := heap_alloc_new w (.cells #[.float .f64 0, .float .f64 0] 30)
 have hw1 : Within w (w.alloc (.cells #[.float .f64 0, .float .f64 0] 30)) := (Within.refl w).alloc _
 have hsz : w.heap.size ≤ w.heap.size := Nat.le_refl _
 generalize hW1 : w.alloc (.cells #[.float .f64 0, .float .f64 0] 30) = W1 at *
 clear hW1
 obtain ⟨z, hz0⟩ : ∃ z, z = w.heap.size := ⟨_, rfl⟩
 rw [← hz0] at hz ⊢
 replace hsz : w.heap.size ≤ z := by omega
 clear hz0
 obtain ⟨k0, k1, kf, kg, k2, r0, r1⟩ := iv_block hz (.float .f64 a) (.float .f64 b)
 have kf0 := kf 0; have kf1 := kf 1; have kg1 := kg 1
 go_wp2
 (try simp only [Exit.inBlock, Exit.then]); refine bodyPost_ret (v := .agg #[.float .f64 a, .float .f64 b]) (by simp [results, Tryz.results109, go_sem, r0, r1]) rfl ?_
 exact ⟨rfl, wa⟩
def IvU (W : World) (l h : Nat) (e : Ending) (w' : World) : Prop := ∃ a b, e = .returned (.agg #[.float .f64 a, .float .f64 b]) ∧ Sane a ∧ Sane b ∧ Fp.un Ieee.double a = Fp.un Ieee.double l ∧ Fp.un Ieee.double b = Fp.un Ieee.double h ∧ Within W w'
theorem imake (l h : Nat) (s1 : Sane l) (s2 : Sane h) (w : World) : Calls Tryz.prog 109 #[.float .f64 l, .float .f64 h] w (IvU w l h) := by
 obtain ⟨a, ha, sa, ua⟩ := add_zero s1
 obtain ⟨b, hb, sb, ub⟩ := add_zero s2
 exact (imake_of l h a b ha hb w).mono fun e w' k => ⟨a, b, k.1, sa, sb, ua, ub, k.2⟩
def sgW (neg : Bool) (x : Nat) : Nat := if neg then Go.Op.negFloat .f64 x else x
theorem Dknown (mode : Int) (h0 : 0 ≤ mode) (h4 : mode ≤ 4) (w : World) : Calls Tryz.prog 357 #[.int .i64 mode] w (fun r w' => r = .returned (.bool true) ∧ Within w w') := by
 have d0 : decide (mode ≥ 0) = true := decide_eq_true h0
 have d1 : decide (mode ≤ 4) = true := decide_eq_true h4
 go_enter Tryz.func357, Tryz.ntmps357
 go_wp2
 go_ret
 exact ⟨rfl, Within.refl w⟩
theorem zz70 {p : Prop} (h : p := by
 go_enter Tryz.func359, Tryz.ntmps359
 go_wp2
 go_ret
 exact ⟨rfl, Within.refl w⟩) : p := h
theorem Dbeyond (up neg : Bool) (w : World) : Calls Tryz.prog 359 #[.bool neg, .int .i64 (upM up)] w (fun r w' => r = .returned (.bool (!(up != neg))) ∧ Within w w') := by
 cases up <;> cases neg <;> simp only [upM]
 ·exact zz70
 ·exact zz70
 ·exact zz70
 ·exact zz70
theorem Dsigned (x : Nat) (neg : Bool) (w : World) : Calls Tryz.prog 360 #[.float .f64 x, .bool neg] w (fun r w' => r = .returned (.float .f64 (sgW neg x)) ∧ Within w w') := by
 cases neg
 ·go_enter Tryz.func360, Tryz.ntmps360
  go_wp2
  go_ret
  exact ⟨rfl, Within.refl w⟩
 ·go_enter Tryz.func360, Tryz.ntmps360
  go_wp2
  go_ret
  exact ⟨rfl, Within.refl w⟩
theorem Dround (n e : Int) (v : Value) (up : Bool) (K E : Nat) (ho : (n = 0 ∧ e = 0) ∨ n.natAbs % 2 = 1) (hK : n.natAbs < 2 ^ K) (hK2 : K ≤ 10000) (he : -(E : Int) ≤ e ∧ e ≤ E) (hE : E ≤ 10000) (w : World) (hT : Tab w) (hv : DyV w v n e) : Calls Tryz.prog 334 #[v, .int .i64 (upM up)] w (EndV w up (dyR n e)) := by
 obtain ⟨A, c, rfl, hc, hr⟩ := hv
 have hwN : Within w (w.alloc (.cells #[.bool (decide (n < 0)), .slice A (dg n.natAbs).length c, .int .i64 e] 150)) := (Within.refl w).alloc _
 have V1 := Hh (DyV.of (⟨A, c, rfl, hc, hr⟩ : DyV w _ n e) hwN)
 have hR := Hh (hr.of hwN)
 have HT := Hh (hT.of hwN)
 have M1 := Hh (fun w hv => Dmay (.agg #[.bool (decide (n < 0)), .slice A (dg n.natAbs).length c, .int .i64 e]) n e K E ho hK om he om w hv)
 have KN := Hh (fun w => Dknown (upM up) (by unfold upM; cases up <;> decide) (by unfold upM; cases up <;> decide) w)
 have T1 := Hh (fun w hr => Dtake0 n e A c K hK om (Nat.le_trans (len32 hK (J := 20000) om) dc) w hr)
 obtain ⟨last, hl⟩ : ∃ l, l = max (e + (blen n.natAbs : Nat) - 53) (-1074) := ⟨_, rfl⟩
 have hlr : -30000 ≤ last ∧ last ≤ 30000 := by have := blen_le_K hK; omega
 have RD := Hh (fun (g : Nat) w hI => Drounded n e last (upM up) up g K rfl hl hK om om w hI)
 have BE := Hh (fun w => Dbeyond up (decide (n < 0)) w)
 have SG := Hh (fun (x : Nat) w => Dsigned x (decide (n < 0)) w)
 have IN := Hh im_inf_one
 have BL := Hh (fun (x q : Nat) (hq : q ≤ 9007199254740992) w hx => P64.Pbitlen x (q : Int) (by rw [Int.natAbs_natCast]; exact Nat.le_trans (P64.dg_len_le (k := 1) om) dc) w hx)
 have UI := Hh (fun (x q : Nat) (hq : q ≤ 9007199254740992) w hx => (show Calls Tryz.prog 262 #[.pointer (some ⟨x, 0, none⟩)] w (fun e w' => e = .returned (.int .u64 (q : Int)) ∧ w = w') from by
  have := P64.Puint64 x (q : Int) (by rw [Int.natAbs_natCast]; exact Nat.le_trans (P64.dg_len_le (k := 1) om) dc) w hx
  rw [Int.natAbs_natCast, Nat.mod_eq_of_lt om] at this
  exact this))
 have OF := Hh (fun (q : Nat) (hq : q ≤ 9007199254740992) w hT => Of_D (decide (n < 0)) q last om w hT)
 have HF := Hh (fun (q : Nat) (h : RdOk up (decide (n < 0)) n.natAbs e last q) => rd_few hl h)
 have HE := Hh (fun (q : Nat) (h : RdOk up (decide (n < 0)) n.natAbs e last q) ht => (sgI_abs n) ▸ rd_fin hl h ht)
 have HB := Hh (fun (q : Nat) (h : RdOk up (decide (n < 0)) n.natAbs e last q) ht => (sgI_abs n) ▸ rd_beyond (fun g => by rcases ho with ⟨_, g2⟩ | g2; exact g2; omega) hl h ht)
 obtain ⟨ng, hng⟩ : ∃ s, s = decide (n < 0) := ⟨_, rfl⟩
 rw [← hng] at hwN hR HT V1 M1 T1 RD BE SG OF HF HE HB ⊢
 clear hng
 have HLR := Hh hlr
 clear hlr hl hT hr hc hK hK2 he hE ho
 go_enter Tryz.func334, Tryz.ntmps334
 go_upto_region 1 with fail
 have hB0 := heap_alloc_new w (.cells #[.bool (ng), .slice A (dg n.natAbs).length c, .int .i64 e] 150)
 obtain ⟨W3, hW3⟩ : ∃ W3, W3 = (w.alloc (.cells #[.bool (ng), .slice A (dg n.natAbs).length c, .int .i64 e] 150)) := ⟨_, rfl⟩
 have hs3 : W3.heap.size = w.heap.size + 1 := by rw [hW3]; simp
 rw [← hW3] at hwN hB0 V1 hR HT ⊢
 clear hW3
 obtain ⟨b0, hb0⟩ : ∃ b, b = w.heap.size := ⟨_, rfl⟩
 have l0 : b0 < W3.heap.size := by omega
 rw [← hb0] at hB0 ⊢
 clear hb0 hs3
 obtain ⟨x0, x1, x2⟩ := tri_cells hB0
 clear hB0
 go_wp2_with fail
 refine (M1.out _ V1.out).mono ?_; rintro r4 w4 ⟨rfl, hb4⟩
 have y0 := (hb4.cells _ _ l0).trans x0; have y1 := (hb4.cells _ _ l0).trans x1; have y2 := (hb4.cells _ _ l0).trans x2
 clear x0 x1 x2
 go_wp2_with fail
 refine (KN.out _).mono ?_; rintro r5 w5 ⟨rfl, hb5⟩
 have l4 := Nat.lt_of_lt_of_le l0 hb4.size
 have x0 := (hb5.cells _ _ l4).trans y0; have x1 := (hb5.cells _ _ l4).trans y1; have x2 := (hb5.cells _ _ l4).trans y2
 clear y0 y1 y2
 have hb35 := hb4.trans hb5
 have l5 := Nat.lt_of_lt_of_le l0 hb35.size
 go_wp2_with fail
 refine (T1.out _ (hR.out.of hb35)).mono ?_; rintro r6 w6 ⟨g, rfl, q6, hg6, hb6⟩
 have hb36 := hb35.trans hb6
 have y0 := (hb6.cells _ _ l5).trans x0
 have l6 := Nat.lt_of_lt_of_le l0 hb36.size
 have a7 : Within w6 (w6.alloc (.cells #[.pointer (some ⟨g, 0, none⟩), .int .i64 e] 231)) := (Within.refl _).alloc _
 have q7 := q6.of a7
 go_wp2_with fail
 refine (RD.out g _ q7).mono ?_; rintro r8 w8 ⟨z, q, rfl, q8, hrd, hb8⟩
 have hb68 := a7.trans hb8
 have x8 := (hb68.cells _ _ l6).trans y0
 have hb38 := hb36.trans hb68
 have l8 := Nat.lt_of_lt_of_le l0 hb38.size
 have hb08 := hwN.trans hb38
 have hT8 := HT.out.of hb38
 have hq := HF.out q hrd
 have HE2 := Hh (HE.out q hrd); have HB2 := Hh (HB.out q hrd)
 have BL2 := Hh (BL.out z q hq); have UI2 := Hh (UI.out z q hq); have OF2 := Hh (OF.out q hq)
 have hbl : (blen q : Nat) ≤ 54 := blen_le_K (K := 54) (Nat.lt_of_le_of_lt hq dc)
 clear hq hrd x0 x1 x2 y0 hb8 hb68 a7 hb36 hb38 hb35 hb4 hb5 hb6 q6 q7 hg6 l0 l4 l5 l6 hwN
 go_wp2_with fail
 refine (BL2.out _ q8).mono ?_; rintro r9 w9 ⟨rfl, rfl⟩
 rw [Int.natAbs_natCast]
 generalize hb : blen q = b at *
 clear hb
 obtain ⟨xx, hxx⟩ : ∃ x, x = last + (b : Int) := ⟨_, rfl⟩
 have wx : IntKind.i64.wrap (last + (b : Int)) = xx := by rw [hxx]; have := HLR.out; exact IntWalk.i64_in _ ⟨by omega, by omega⟩
 by_cases ht : xx > 1024
 ·have d0 : decide (xx > 1024) = true := decide_eq_true ht
  have HB3 := Hh (HB2.out om)
  clear hxx ht hbl
  go_wp2_with fail
  refine (BE.out _).mono ?_; rintro ra wa ⟨rfl, hba⟩
  have xa := (hba.cells _ _ l8).trans x8
  have la := Nat.lt_of_lt_of_le l8 hba.size
  have hb0a := hb08.trans hba
  cases hu : (up != ng)
  ·go_wp2_with fail
   refine (SG.out _ _).mono ?_; rintro rb wb ⟨rfl, hbb⟩
   go_wp2
   (try simp only [Exit.inBlock, Exit.then]); refine bodyPost_ret (v := .tuple #[.float .f64 (sgW ng 9218868437227405311), .int .i64 0]) (by simp [results, Tryz.results334, go_sem]) rfl ?_
   refine ⟨_, rfl, ?_, hb0a.trans hbb⟩
   have k := HB3.out
   rw [hu] at k
   unfold sgW
   rw [(neg_lo dc : Go.Op.negFloat .f64 9218868437227405311 = _)]
   exact k
  ·go_upto_region 10 with fail
   refine wp_region_schG (fun W => W.cell? ⟨b0, 0, none⟩ = some (.bool (ng)) ∧ b0 < W.heap.size ∧ Within w W) 5 (.firm 1 (.firm 2 (.one 0 (.one 3 (.firm 4 (.one 5 .nil)))))) kr kr ⟨xa, la, hb0a⟩ ?_
   rintro w0 ⟨p0, pl, hw0⟩
   try simp only [pu]
   iterate 2
    apply sch_firm rfl rfl wi
    ·intro wq hq
     have hcq := hq.cells
     clear hq
     go_simp
     rfl
    try simp only [pu]
   refine sch_one rfl rfl (fun K hK => ?_)
   go_simp
   refine (IN.out _).mono ?_; rintro rb wb ⟨rfl, rfl⟩
   refine hK _ _ (fun _ => wi) ?_
   clear hK K
   try simp only [pu]
   refine sch_one rfl rfl (fun K hK => ?_)
   go_simp
   refine (SG.out _ _).mono ?_; rintro rc wc ⟨rfl, hbc⟩
   refine hK _ _ (fun _ => wi) ?_
   clear hK K
   try simp only [pu]
   apply sch_firm rfl rfl wi
   ·intro wq hq
    have hcq := hq.cells
    clear hq
    go_simp
    rfl
   try simp only [pu]
   refine sch_one rfl rfl (fun K hK => ?_)
   go_simp
   refine hK _ _ ab ?_
   clear hK K
   try simp only [pu]
   refine sch_nil ?_
   go_wp2
   (try simp only [Exit.inBlock, Exit.then]); refine bodyPost_ret (v := .tuple #[.float .f64 (sgW ng 9218868437227405312), .int .i64 0]) (by simp [results, Tryz.results334, go_sem]) rfl ?_
   refine ⟨_, rfl, ?_, (hw0.drew).trans hbc⟩
   have k := HB3.out
   rw [hu] at k
   unfold sgW
   rw [(neg_lo dc : Go.Op.negFloat .f64 9218868437227405312 = _)]
   exact k
 ·have d0 : decide (xx > 1024) = false := decide_eq_false ht
  have HE3 := Hh (HE2.out om)
  clear hxx ht hbl
  go_upto_region 11 with fail
  refine wp_region_schG (fun W => W.cell? ⟨b0, 0, none⟩ = some (.bool ng) ∧ b0 < W.heap.size ∧ Within w W ∧ P64.IntB W z (q : Int) ∧ Tab W) 11 (.firm 0 (.firm 1 (.firm 2 (.firm 4 (.one 3 (.firm 5 (.one 6 (.firm 7 (.firm 8 (.firm 9 (.firm 10 (.one 11 .nil)))))))))))) kr kr ⟨x8, l8, hb08, q8, hT8⟩ ?_
  rintro w0 ⟨p0, pl, hw0, qI, hT0⟩
  try simp only [pu]
  iterate 4
   apply sch_firm rfl rfl wi
   ·intro wq hq
    have hcq := hq.cells
    clear hq
    go_simp
    rfl
   try simp only [pu]
  refine sch_one rfl rfl (fun K hK => ?_)
  go_simp
  refine (UI2.out _ (qI.of (Within.refl _).drew)).mono ?_; rintro rb wb ⟨rfl, rfl⟩
  refine hK _ _ (fun _ => wi) ?_
  clear hK K
  try simp only [pu]
  apply sch_firm rfl rfl wi
  ·intro wq hq
   have hcq := hq.cells
   clear hq
   go_simp
   rfl
  try simp only [pu]
  refine sch_one rfl rfl (fun K hK => ?_)
  go_simp
  refine (OF2.out _ (hT0.of (Within.refl _).drew)).mono ?_; rintro rc wc ⟨rfl, hbc⟩
  refine hK _ _ (fun _ => wi) ?_
  clear hK K
  try simp only [pu]
  iterate 4
   apply sch_firm rfl rfl wi
   ·intro wq hq
    have hcq := hq.cells
    clear hq
    go_simp
    rfl
   try simp only [pu]
  refine sch_one rfl rfl (fun K hK => ?_)
  go_simp
  refine hK _ _ ab ?_
  clear hK K
  try simp only [pu]
  refine sch_nil ?_
  go_wp2
  (try simp only [Exit.inBlock, Exit.then]); refine bodyPost_ret (v := .tuple #[.float .f64 (madeD (ng) q last), .int .i64 0]) (by simp [results, Tryz.results334, go_sem]) rfl ?_
  exact ⟨_, rfl, HE3.out, (hw0.drew).trans hbc⟩
def OfD (W : World) (q : Rat) (r : Ending) (w' : World) : Prop := ∃ v n e, r = .returned v ∧ DyV w' v n e ∧ ((n = 0 ∧ e = 0) ∨ n.natAbs % 2 = 1) ∧ dyR n e = q ∧ n.natAbs < 2 ^ 53 ∧ -((1153 : Nat) : Int) ≤ e ∧ e ≤ ((1153 : Nat) : Int) ∧ Within W w'
def EndF (W : World) (up : Bool) (q : Rat) (r : Ending) (w' : World) : Prop := ∃ x, r = .returned (.float .f64 x) ∧ EndOk up x q ∧ Within W w'
theorem fv_arF2 (op : BinOp) (x y : Nat) (w : World) : fv (arF op x y w) = fop op (fv x) (fv y) := (fv_ar op x y w).1
theorem fi_fv {a : Nat} (h : Fi a) : fv a = some a := if_neg (by have := h.2; omega)
theorem sum_fv {a b s : Nat} (ha : Fi a) (hb : Fi b) (hS : Sane s) (hs : floatBits .add .f64 a b = some s) : fop .add (fop .sub (fv a) (fop .sub (fv s) (fop .sub (fv s) (fv a)))) (fop .sub (fv b) (fop .sub (fv s) (fv a))) = twoL (fv a) (fv b) := by
 have e : fv s = twoS (fv a) (fv b) := by
  rw [fi_fv ha, fi_fv hb]
  show _ = floatBits .add .f64 a b
  rw [hs]
  exact if_neg (by have := hS.2; omega)
 unfold twoL
 rw [e]
theorem fma_ext (x y z r : Nat) (h : FloatKind.f64.format.fma x y z = some r) : Go.Extern.MathFMA.fma #[.float .f64 x, .float .f64 y, .float .f64 z] = pure (.float .f64 r) := by
 conv => lhs; whnf
 rw [h]
theorem fma_run (w : World) (x y z : Nat) : (callFunc 296 #[.float .f64 x, .float .f64 y, .float .f64 z]).run Tryz.prog w = (Go.Extern.MathFMA.fma #[.float .f64 x, .float .f64 y, .float .f64 z] >>= fun v => pure (Next.value v)).run Tryz.prog w := by kernel_rfl
theorem fma_any (x y z r : Nat) (h : Ieee.double.fma x y z = some r) (w : World) : (callFunc 296 #[.float .f64 x, .float .f64 y, .float .f64 z]).run Tryz.prog w = .ok (.value (.float .f64 r)) w := by
 rw [fma_run, fma_ext x y z r h]; rfl
theorem fma_some {a b s : Nat} (ha : Fi a) (hb : Fi b) (hs : Fi s) : ∃ l, Ieee.double.fma a b (Go.Op.negFloat .f64 s) = some l := by
 obtain ⟨n1, n2⟩ := neg_sane hs.sane
 have fq : Fi (Go.Op.negFloat .f64 s) := by
  refine ⟨n1.1, ?_⟩
  rcases sane_cases n1 with ⟨f, _⟩ | ⟨_, u⟩ | ⟨_, u⟩
  ·exact f.2
  ·have := un_fi hs; omega
  ·have := un_fi hs; omega
 obtain ⟨l, h, _⟩ := fma_rno ha hb fq
 exact ⟨l, h⟩
theorem iof (x : Nat) (h : Fi x) (w : World) (hT : Tab w) : Calls Tryz.prog 281 #[.float .f64 x] w (OfD w (rvD x)) := by
 have OF := Hh (fun w hT => DOf x h w hT)
 have hB0 := heap_alloc_new w (.cells #[.bool false, .slice none 0 0, .int .i64 0] 150)
 have hw1 : Within w (w.alloc (.cells #[.bool false, .slice none 0 0, .int .i64 0] 150)) := (Within.refl w).alloc _
 have HT := Hh (hT.of hw1)
 clear hT
 go_enter Tryz.func281, Tryz.ntmps281
 go_wp2_with fail
 refine (OF.out _ HT.out).mono ?_; rintro r1 w1 ⟨v, n, e, rfl, ⟨A, c, rfl, hc, hr⟩, ho, hq, hk, he1, he2, hb⟩
 have HH := Hh (And.intro ho (And.intro hq (And.intro hk (And.intro he1 he2))))
 clear ho hq hk he1 he2
 have a2 : Within w1 (w1.alloc (.cells #[.bool (decide (n < 0)), .slice A (dg n.natAbs).length c, .int .i64 e] 150)) := (Within.refl _).alloc _
 have hB2 := (a2.block w.heap.size (by have := hb.size; simp at this; omega)).trans ((hb.block w.heap.size (by simp)).trans hB0)
 have hr2 := hr.of a2
 have hww := hw1.trans (hb.trans a2)
 obtain ⟨m0, m1, m2, mf, mg, m3, mh, m4, hM⟩ := tri_block hB2 (.bool (decide (n < 0))) (.slice A (dg n.natAbs).length c) (.int .i64 e)
 have mf0 := mf 0; have mf1 := mf 1; have mf2 := mf 2; have mg1 := mg 1; have mg2 := mg 2; have mh2 := mh 2
 obtain ⟨z0, z1, z2⟩ := tri_cells hM
 have HRT := Hh (row_tri hB2 dc hr2 (.bool (decide (n < 0))) (.slice A (dg n.natAbs).length c) (.int .i64 e))
 have HC := Hh hc
 clear hM hr hr2 hc hB0 hB2
 go_wp2
 (try simp only [Exit.inBlock, Exit.then]); refine bodyPost_ret (v := .agg #[.bool (decide (n < 0)), .slice A (dg n.natAbs).length c, .int .i64 e]) (by simp [results, Tryz.results281, go_sem, z0, z1, z2]) rfl ?_
 exact ⟨_, n, e, rfl, ⟨A, c, rfl, HC.out, HRT.out⟩, HH.out.1, HH.out.2.1, HH.out.2.2.1, HH.out.2.2.2.1, HH.out.2.2.2.2, ((hww.setCell (p := ⟨w.heap.size, 0, none⟩) (Nat.le_refl _) _).setCell (p := ⟨w.heap.size, 1, none⟩) (Nat.le_refl _) _).setCell (p := ⟨w.heap.size, 2, none⟩) (Nat.le_refl _) _⟩
theorem irounded (n e : Int) (v : Value) (up : Bool) (K E : Nat) (ho : (n = 0 ∧ e = 0) ∨ n.natAbs % 2 = 1) (hK : n.natAbs < 2 ^ K) (hK2 : K ≤ 10000) (he : -(E : Int) ≤ e ∧ e ≤ E) (hE : E ≤ 10000) (w : World) (hT : Tab w) (hv : DyV w v n e) : Calls Tryz.prog 282 #[v, .int .i64 0, .int .i64 (upM up)] w (EndF w up (dyR n e)) := by
 obtain ⟨A, c, rfl, hc, hr⟩ := hv
 have RO := Hh (fun w hT hv => Dround n e (.agg #[.bool (decide (n < 0)), .slice A (dg n.natAbs).length c, .int .i64 e]) up K E ho hK hK2 he hE w hT hv)
 have a1 : Within w (w.alloc (.cells #[.bool (decide (n < 0)), .slice A (dg n.natAbs).length c, .int .i64 e] 150)) := (Within.refl _).alloc _
 have V := Hh (DyV.of (⟨A, c, rfl, hc, hr⟩ : DyV w (.agg #[.bool (decide (n < 0)), .slice A (dg n.natAbs).length c, .int .i64 e]) n e) a1)
 have HT := Hh (hT.of a1)
 clear hT hc hr ho hK hK2 he hE
 go_enter Tryz.func282, Tryz.ntmps282
 go_wp2_with fail
 refine (RO.out _ HT.out V.out).mono ?_; rintro r1 w1 ⟨x, rfl, hx, hb⟩
 go_wp2
 go_ret
 exact ⟨x, rfl, hx, a1.trans hb⟩
theorem zz126 {p : Prop} (h : p := by
 have HQ := Hh (show dyR n3 e3 = Q from q3.trans (by rw [q1, q2, HQ0.out]))
 clear d1 d2 ho1 ho2 ho3 q1 q2 q3 k1 k2 k3 E1 E2 E3 F1 F2 F3 hc3 hr3
 go_wp2_with fail
 refine (RN.out).mono ?_; rintro r8 w8 ⟨x, rfl, hx, hb8⟩
 go_wp2
 go_ret
 exact ⟨x, rfl, HQ.out ▸ hx, hc7.trans hb8⟩) : p := h
theorem zz15 {p : Prop} (h : p := by
 go_wp2_with fail
 refine (O1.out _ (HT.out.of hb0)).mono ?_; rintro r4 w4 ⟨v1, n1, e1, rfl, d1, ho1, q1, k1, E1, F1, hb4⟩
 have hc4 := hb0.trans hb4
 go_wp2_with fail
 refine (O2.out _ (HT.out.of hc4)).mono ?_; rintro r5 w5 ⟨v2, n2, e2, rfl, d2, ho2, q2, k2, E2, F2, hb5⟩
 have hc5 := hc4.trans hb5
 go_wp2_with fail
 refine (Dadd n1 e1 n2 e2 v1 v2 53 1153 ho1 ho2 k1 k2 dc ⟨E1, F1⟩ ⟨E2, F2⟩ dc _ (HT.out.of hc5) (d1.of hb5) d2).mono ?_; rintro r6 w6 ⟨v3, n3, e3, rfl, ⟨A3, c3, rfl, hc3, hr3⟩, ho3, q3, k3, E3, F3, hb6⟩
 have hc6 := hc5.trans hb6
 have a7 : Within w6 (w6.alloc (.cells #[.bool (decide (n3 < 0)), .slice A3 (dg n3.natAbs).length c3, .int .i64 e3] 150)) := (Within.refl _).alloc _
 have hc7 := hc6.trans a7
 have RN := Hh (irounded n3 e3 (.agg #[.bool (decide (n3 < 0)), .slice A3 (dg n3.natAbs).length c3, .int .i64 e3]) up (53 + 2 * 1153 + 1) (1153 + (53 + 2 * 1153 + 1)) ho3 k3 dc ⟨E3, F3⟩ dc _ (HT.out.of hc7) (DyV.of (⟨A3, c3, rfl, hc3, hr3⟩ : DyV w6 _ n3 e3) a7))
 exact zz126) : p := h
theorem iadd_000 (up : Bool) (a b s : Nat) (ha : Fi a) (hb : Fi b) (hs : floatBits .add .f64 a b = some s) (hS : Sane s) (hu : usualB s = false) (w : World) (hT : Tab w) : Calls Tryz.prog 206 #[.float .f64 a, .float .f64 b, .int .i64 (upM up)] w (EndF w up (rvD a + rvD b)) := by
 have hq0 : rvD a + rvD b = rvD a + rvD b := rfl
 obtain ⟨Q, hQ⟩ : ∃ q, q = rvD a + rvD b := ⟨_, rfl⟩
 rw [← hQ]
 have HQ0 := Hh hQ.symm
 clear hQ hq0
 have O1 := Hh (fun w hT => iof a ha w hT); have O2 := Hh (fun w hT => iof b hb w hT)
 have US := Hh (fun w => iusual s hS w)
 have A1 := Hh (fun w => m_abs a ha.1 w); have A2 := Hh (fun w => m_abs b hb.1 w)
 rw [hu] at US
 clear hu ha hb
 have h1 := fun (t : TypeId) w => run_float_arith (P := Tryz.prog) w .add t .f64 a b s hs
 clear hs
 have HT := Hh hT; clear hT
 have hb0 := Within.refl w
 go_enter Tryz.func206, Tryz.ntmps206
 go_wp2_with fail
 refine (US.out _).mono ?_; rintro r1 w1 ⟨rfl, hb1⟩
 replace hb0 := hb0.trans hb1
 exact zz15
theorem iadd_100 (up : Bool) (a b s : Nat) (ha : Fi a) (hb : Fi b) (hs : floatBits .add .f64 a b = some s) (hS : Sane s) (hu : usualB s = true) (ta : belowT a = false) (w : World) (hT : Tab w) : Calls Tryz.prog 206 #[.float .f64 a, .float .f64 b, .int .i64 (upM up)] w (EndF w up (rvD a + rvD b)) := by
 have hq0 : rvD a + rvD b = rvD a + rvD b := rfl
 obtain ⟨Q, hQ⟩ : ∃ q, q = rvD a + rvD b := ⟨_, rfl⟩
 rw [← hQ]
 have HQ0 := Hh hQ.symm
 clear hQ hq0
 have O1 := Hh (fun w hT => iof a ha w hT); have O2 := Hh (fun w hT => iof b hb w hT)
 have US := Hh (fun w => iusual s hS w)
 have A1 := Hh (fun w => m_abs a ha.1 w); have A2 := Hh (fun w => m_abs b hb.1 w)
 unfold belowT at ta
 rw [hu] at US
 clear hu ha hb
 have h1 := fun (t : TypeId) w => run_float_arith (P := Tryz.prog) w .add t .f64 a b s hs
 clear hs
 have HT := Hh hT; clear hT
 have hb0 := Within.refl w
 go_enter Tryz.func206, Tryz.ntmps206
 go_wp2_with fail
 refine (US.out _).mono ?_; rintro r1 w1 ⟨rfl, hb1⟩
 replace hb0 := hb0.trans hb1
 go_wp2_with fail
 refine (A1.out _).mono ?_; rintro r2 w2 ⟨rfl, rfl⟩
 exact zz15
theorem iadd_110 (up : Bool) (a b s : Nat) (ha : Fi a) (hb : Fi b) (hs : floatBits .add .f64 a b = some s) (hS : Sane s) (hu : usualB s = true) (ta : belowT a = true) (tb : belowT b = false) (w : World) (hT : Tab w) : Calls Tryz.prog 206 #[.float .f64 a, .float .f64 b, .int .i64 (upM up)] w (EndF w up (rvD a + rvD b)) := by
 have hq0 : rvD a + rvD b = rvD a + rvD b := rfl
 obtain ⟨Q, hQ⟩ : ∃ q, q = rvD a + rvD b := ⟨_, rfl⟩
 rw [← hQ]
 have HQ0 := Hh hQ.symm
 clear hQ hq0
 have O1 := Hh (fun w hT => iof a ha w hT); have O2 := Hh (fun w hT => iof b hb w hT)
 have US := Hh (fun w => iusual s hS w)
 have A1 := Hh (fun w => m_abs a ha.1 w); have A2 := Hh (fun w => m_abs b hb.1 w)
 unfold belowT at ta
 unfold belowT at tb
 rw [hu] at US
 clear hu ha hb
 have h1 := fun (t : TypeId) w => run_float_arith (P := Tryz.prog) w .add t .f64 a b s hs
 clear hs
 have HT := Hh hT; clear hT
 have hb0 := Within.refl w
 go_enter Tryz.func206, Tryz.ntmps206
 go_wp2_with fail
 refine (US.out _).mono ?_; rintro r1 w1 ⟨rfl, hb1⟩
 replace hb0 := hb0.trans hb1
 go_wp2_with fail
 refine (A1.out _).mono ?_; rintro r2 w2 ⟨rfl, rfl⟩
 go_wp2_with fail
 refine (A2.out _).mono ?_; rintro r3 w3 ⟨rfl, rfl⟩
 exact zz15
theorem iadd_usual (up : Bool) (a b s : Nat) (ha : Fi a) (hb : Fi b) (hs : floatBits .add .f64 a b = some s) (hS : Sane s) (hu : usualB s = true) (ta : belowT a = true) (tb : belowT b = true) (w : World) (hT : Tab w) : Calls Tryz.prog 206 #[.float .f64 a, .float .f64 b, .int .i64 (upM up)] w (EndF w up (rvD a + rvD b)) := by
 have AE := Hh (fun l hl => add_end (up := up) (l := l) ha hb hs hu ta tb hl)
 have FS := Hh (sum_fv ha hb hS hs)
 have US := Hh (fun w => iusual s hS w)
 have A1 := Hh (fun w => m_abs a ha.1 w); have A2 := Hh (fun w => m_abs b hb.1 w)
 have ST := Hh (fun l hl w => istep up s l (usual_big hS hu).2 hl w)
 unfold belowT at ta tb
 rw [hu] at US
 clear hu ha hb hS
 have h1 := fun (t : TypeId) w => run_float_arith (P := Tryz.prog) w .add t .f64 a b s hs
 clear hs
 have HT := Hh hT; clear hT
 have hb0 := Within.refl w
 go_enter Tryz.func206, Tryz.ntmps206
 go_wp2_with fail
 refine (US.out _).mono ?_; rintro r1 w1 ⟨rfl, hb1⟩
 go_wp2_with fail
 refine (A1.out _).mono ?_; rintro r2 w2 ⟨rfl, rfl⟩
 go_wp2_with fail
 refine (A2.out _).mono ?_; rintro r3 w3 ⟨rfl, rfl⟩
 clear h1
 have hadd := fun t x y w => run_ar .add (.inr (.inl rfl)) t x y Tryz.prog w
 have hsub := fun t x y w => run_ar .sub (.inl rfl) t x y Tryz.prog w
 go_wp2_with fail
 refine (ST.out _ (AE.out _ (by simp only [fv_arF2]; exact FS.out)).1 _).mono ?_; rintro r4 w4 ⟨rfl, hb4⟩
 go_wp2
 go_ret
 refine ⟨_, rfl, (AE.out _ (by simp only [fv_arF2]; exact FS.out)).2, ?_⟩
 refine Within.trans ?_ hb4
 exact wa
theorem imul_0 (up : Bool) (a b s : Nat) (ha : Fi a) (hb : Fi b) (hs : floatBits .mul .f64 a b = some s) (hS : Sane s) (hu : usualB s = false) (w : World) (hT : Tab w) : Calls Tryz.prog 219 #[.float .f64 a, .float .f64 b, .int .i64 (upM up)] w (EndF w up (rvD a * rvD b)) := by
 have hq0 : rvD a * rvD b = rvD a * rvD b := rfl
 obtain ⟨Q, hQ⟩ : ∃ q, q = rvD a * rvD b := ⟨_, rfl⟩
 rw [← hQ]
 have HQ0 := Hh hQ.symm
 clear hQ hq0
 have O1 := Hh (fun w hT => iof a ha w hT); have O2 := Hh (fun w hT => iof b hb w hT)
 have US := Hh (fun w => iusual s hS w)
 have A1 := Hh (fun w => m_abs a ha.1 w); have A2 := Hh (fun w => m_abs b hb.1 w)
 rw [hu] at US
 clear hu ha hb
 have h1 := fun (t : TypeId) w => run_float_arith (P := Tryz.prog) w .mul t .f64 a b s hs
 clear hs
 have HT := Hh hT; clear hT
 have hb0 := Within.refl w
 go_enter Tryz.func219, Tryz.ntmps219
 go_wp2_with fail
 refine (US.out _).mono ?_; rintro r1 w1 ⟨rfl, hb1⟩
 replace hb0 := hb0.trans hb1
 go_wp2_with fail
 refine (O1.out _ (HT.out.of hb0)).mono ?_; rintro r4 w4 ⟨v1, n1, e1, rfl, d1, ho1, q1, k1, E1, F1, hb4⟩
 have hc4 := hb0.trans hb4
 go_wp2_with fail
 refine (O2.out _ (HT.out.of hc4)).mono ?_; rintro r5 w5 ⟨v2, n2, e2, rfl, d2, ho2, q2, k2, E2, F2, hb5⟩
 have hc5 := hc4.trans hb5
 go_wp2_with fail
 refine (Dmul n1 e1 n2 e2 v1 v2 53 1153 ho1 ho2 k1 k2 dc ⟨E1, F1⟩ ⟨E2, F2⟩ dc _ (HT.out.of hc5) (d1.of hb5) d2).mono ?_; rintro r6 w6 ⟨v3, n3, e3, rfl, ⟨A3, c3, rfl, hc3, hr3⟩, ho3, q3, k3, E3, F3, hb6⟩
 have hc6 := hc5.trans hb6
 have a7 : Within w6 (w6.alloc (.cells #[.bool (decide (n3 < 0)), .slice A3 (dg n3.natAbs).length c3, .int .i64 e3] 150)) := (Within.refl _).alloc _
 have hc7 := hc6.trans a7
 have RN := Hh (irounded n3 e3 (.agg #[.bool (decide (n3 < 0)), .slice A3 (dg n3.natAbs).length c3, .int .i64 e3]) up (53 + 53) (1153 + 1153 + (53 + 53)) ho3 k3 dc ⟨E3, F3⟩ dc _ (HT.out.of hc7) (DyV.of (⟨A3, c3, rfl, hc3, hr3⟩ : DyV w6 _ n3 e3) a7))
 exact zz126
theorem imul_usual (up : Bool) (a b s : Nat) (ha : Fi a) (hb : Fi b) (hs : floatBits .mul .f64 a b = some s) (hS : Sane s) (hu : usualB s = true) (w : World) (hT : Tab w) : Calls Tryz.prog 219 #[.float .f64 a, .float .f64 b, .int .i64 (upM up)] w (EndF w up (rvD a * rvD b)) := by
 obtain ⟨l, hl⟩ : ∃ l, Ieee.double.fma a b (Go.Op.negFloat .f64 s) = some l := fma_some ha hb (usual_big hS hu).2
 obtain ⟨sl, hE⟩ := mul_end (up := up) ha hb hs hu rfl hl
 have ST := Hh (fun w => istep up s l (usual_big hS hu).2 sl.2 w)
 have HE := Hh hE
 have FM := fun w => fma_any a b (Go.Op.negFloat .f64 s) l hl w
 have US := Hh (fun w => iusual s hS w)
 rw [hu] at US
 clear hu ha hb hS hl sl hE
 have h1 := fun (t : TypeId) w => run_float_arith (P := Tryz.prog) w .mul t .f64 a b s hs
 clear hs
 have HT := Hh hT; clear hT
 have hb0 := Within.refl w
 go_enter Tryz.func219, Tryz.ntmps219
 go_wp2_with fail
 refine (US.out _).mono ?_; rintro r1 w1 ⟨rfl, hb1⟩
 go_wp2_with fail
 refine (ST.out _).mono ?_; rintro r3 w3 ⟨rfl, hb3⟩
 go_wp2
 go_ret
 exact ⟨_, rfl, HE.out, hb1.trans hb3⟩
theorem iadd (up : Bool) (a b : Nat) (ha : Fi a) (hb : Fi b) (w : World) (hT : Tab w) : Calls Tryz.prog 206 #[.float .f64 a, .float .f64 b, .int .i64 (upM up)] w (EndF w up (rvD a + rvD b)) := by
 obtain ⟨s, hs, hr⟩ := add_rno ha hb
 cases hu : usualB s
 ·exact iadd_000 up a b s ha hb hs hr.1 hu w hT
 ·cases ta : belowT a
  ·exact iadd_100 up a b s ha hb hs hr.1 hu ta w hT
  ·cases tb : belowT b
   ·exact iadd_110 up a b s ha hb hs hr.1 hu ta tb w hT
   ·exact iadd_usual up a b s ha hb hs hr.1 hu ta tb w hT
theorem imul (up : Bool) (a b : Nat) (ha : Fi a) (hb : Fi b) (w : World) (hT : Tab w) : Calls Tryz.prog 219 #[.float .f64 a, .float .f64 b, .int .i64 (upM up)] w (EndF w up (rvD a * rvD b)) := by
 obtain ⟨s, hs, hr⟩ := mul_rno ha hb
 cases hu : usualB s
 ·exact imul_0 up a b s ha hb hs hr.1 hu w hT
 ·exact imul_usual up a b s ha hb hs hr.1 hu w hT
end Go.Proofs.YtgkcpnidmfejeaaGreatDoor
section
namespace Go.Proofs.YtgkcpnidmfejeaaGreatDoor
theorem log2_floor {X Y w : Nat} (h : X / 2 ^ w = Y / 2 ^ w) (h0 : X / 2 ^ w ≠ 0) : X.log2 = Y.log2 := by
 have key : ∀ X : Nat, X / 2 ^ w ≠ 0 → X.log2 = (X / 2 ^ w).log2 + w := by
  intro X h0
  have hX : X ≠ 0 := fun h => h0 (by rw [h, Nat.zero_div])
  have h1 := Nat.log2_self_le h0
  have h2 := Nat.lt_log2_self (n := X / 2 ^ w)
  have hp := Nat.two_pow_pos w
  have h3 : 2 ^ ((X / 2 ^ w).log2 + w) ≤ X := by
   rw [Nat.pow_add]
   exact (Nat.le_div_iff_mul_le hp).1 h1
  have h4 : X < 2 ^ ((X / 2 ^ w).log2 + w + 1) := by
   rw [show (X / 2 ^ w).log2 + w + 1 = ((X / 2 ^ w).log2 + 1) + w by omega, Nat.pow_add]
   exact (Nat.div_lt_iff_lt_mul hp).1 h2
  have a1 := (Nat.le_log2 hX).2 h3
  have a2 := (Nat.log2_lt hX).2 h4
  omega
 rw [key X h0, key Y (h ▸ h0), h]
def goes (m s : Nat) (neg : Bool) (mode : Int) : Bool :=
 if m % 2 ^ s = 0 then false
 else if mode = 0 then decide (2 ^ s < 2 * (m % 2 ^ s)) || (decide (2 ^ s = 2 * (m % 2 ^ s)) && decide (m / 2 ^ s % 2 = 1))
 else if mode = 1 then decide (2 ^ s ≤ 2 * (m % 2 ^ s))
 else if mode = 3 then !neg
 else if mode = 4 then neg
 else false
def cutQ (m s : Nat) (neg : Bool) (mode : Int) : Nat := m / 2 ^ s + (goes m s neg mode).toNat
theorem cut_same {m n t : Nat} (h1 : m / 2 ^ t = n / 2 ^ t) (h2 : m % 2 ^ t = 0 ↔ n % 2 ^ t = 0) (neg : Bool) (mode : Int) : cutQ m (t + 1) neg mode = cutQ n (t + 1) neg mode ∧ (m % 2 ^ (t + 1) = 0 ↔ n % 2 ^ (t + 1) = 0) := by
 have hp : 2 ^ (t + 1) = 2 ^ t * 2 := Nat.pow_succ 2 t
 have key : ∀ m : Nat, m / 2 ^ (t + 1) = m / 2 ^ t / 2 ∧ m % 2 ^ (t + 1) = m % 2 ^ t + 2 ^ t * (m / 2 ^ t % 2) := by
  intro m
  rw [hp]
  exact ⟨(Nat.div_div_eq_div_mul m _ _).symm, Nat.mod_mul⟩
 obtain ⟨a1, a2⟩ := key m
 obtain ⟨b1, b2⟩ := key n
 have hm := Nat.mod_lt m (Nat.two_pow_pos t)
 have hn := Nat.mod_lt n (Nat.two_pow_pos t)
 unfold cutQ goes
 rw [a1, b1, a2, b2, h1, hp]
 generalize n / 2 ^ t = q at *
 generalize m % 2 ^ t = r at *
 generalize n % 2 ^ t = r' at *
 generalize 2 ^ t = Z at *
 clear key a1 a2 b1 b2 h1 hp
 rcases Nat.mod_two_eq_zero_or_one q with hq | hq
 ·rw [hq, Nat.mul_zero, Nat.add_zero, Nat.add_zero]
  refine ⟨?_, h2⟩
  have e1 : (r = 0) = (r' = 0) := propext h2
  have e2 : (Z * 2 < 2 * r) = (Z * 2 < 2 * r') := propext om
  have e3 : (Z * 2 = 2 * r) = (Z * 2 = 2 * r') := propext om
  have e4 : (Z * 2 ≤ 2 * r) = (Z * 2 ≤ 2 * r') := propext om
  simp only [e1, e2, e3, e4]
 ·rw [hq, Nat.mul_one]
  refine ⟨?_, by omega⟩
  have e1 : (r + Z = 0) = (r' + Z = 0) := propext om
  have e2 : (Z * 2 < 2 * (r + Z)) = (Z * 2 < 2 * (r' + Z)) := propext om
  have e3 : (Z * 2 = 2 * (r + Z)) = (Z * 2 = 2 * (r' + Z)) := propext om
  have e4 : (Z * 2 ≤ 2 * (r + Z)) = (Z * 2 ≤ 2 * (r' + Z)) := propext om
  simp only [e1, e2, e3, e4]
def Like (t X Y : Nat) : Prop := X / 2 ^ t = Y / 2 ^ t ∧ (X % 2 ^ t = 0 ↔ Y % 2 ^ t = 0)
theorem Like.refl (t X : Nat) : Like t X X := ⟨rfl, Iff.rfl⟩
theorem Like.symm {t X Y : Nat} (h : Like t X Y) : Like t Y X := ⟨h.1.symm, h.2.symm⟩
theorem Like.up {t X Y : Nat} (h : Like t X Y) (d : Nat) : Like (t + d) X Y := by
 obtain ⟨h1, h2⟩ := h
 unfold Like
 rw [Nat.pow_add]
 refine ⟨by rw [← Nat.div_div_eq_div_mul, ← Nat.div_div_eq_div_mul, h1], ?_⟩
 rw [Nat.mod_mul, Nat.mod_mul, h1]
 omega
theorem Like.to {t u X Y : Nat} (h : Like t X Y) (hu : t ≤ u) : Like u X Y := by
 obtain ⟨d, rfl⟩ : ∃ d, u = t + d := ⟨u - t, by omega⟩
 exact h.up d
theorem Like.log2 {t X Y : Nat} (h : Like t X Y) (h0 : X / 2 ^ t ≠ 0) : X.log2 = Y.log2 := log2_floor h.1 h0
theorem floor_ne {t X : Nat} (hX : X ≠ 0) (h : t ≤ X.log2) : X / 2 ^ t ≠ 0 := by
 have h1 : 2 ^ t ≤ X := (Nat.le_log2 hX).1 h
 have := (Nat.le_div_iff_mul_le (Nat.two_pow_pos t)).2 (by rw [Nat.one_mul]; exact h1)
 omega
theorem div_mod_eq {X Z c : Nat} (hZ : 0 < Z) : c * Z = X ↔ X / Z = c ∧ X % Z = 0 := by
 constructor
 ·rintro rfl
  exact ⟨Nat.mul_div_cancel _ hZ, Nat.mul_mod_left _ _⟩
 ·rintro ⟨h1, h2⟩
  have := Nat.div_add_mod X Z
  rw [h1, h2, Nat.mul_comm] at this
  exact this
theorem rne_cut (m s : Nat) : Fp.rne m (2 ^ s) = cutQ m s false 0 := by
 have hp := Nat.two_pow_pos s
 unfold Fp.rne cutQ goes
 congr 1
 by_cases h : m % 2 ^ s = 0
 ·rw [if_pos h, if_neg (by rw [h]; omega)]; rfl
 ·rw [if_neg h, if_pos rfl]
  by_cases h2 : 2 ^ s < 2 * (m % 2 ^ s) ∨ (2 ^ s = 2 * (m % 2 ^ s) ∧ m / 2 ^ s % 2 = 1)
  ·rw [if_pos h2]
   rcases h2 with h2 | ⟨h2, h3⟩
   ·rw [decide_eq_true h2]; rfl
   ·rw [decide_eq_true h2, decide_eq_true h3]; simp
  ·rw [if_neg h2]
   rw [decide_eq_false (fun k => h2 (.inl k))]
   by_cases h3 : 2 ^ s = 2 * (m % 2 ^ s)
   ·rw [decide_eq_false (fun k => h2 (.inr ⟨h3, k⟩))]; simp
   ·rw [decide_eq_false h3]; rfl
theorem Like.grid {t X Y : Nat} (h : Like t X Y) (hX : X ≠ 0) (ht : t + 53 ≤ X.log2) : Fp.grid Ieee.double X 0 = Fp.grid Ieee.double Y 0 := by
 have hl := h.log2 (floor_ne hX om)
 have h2 := h.to (u := X.log2 - 53) om
 obtain ⟨c1, _⟩ := cut_same h2.1 h2.2 false 0
 unfold Fp.grid
 have e : max (X.log2 - Ieee.double.fractionBits) 0 = X.log2 - 53 + 1 := by
  show max (X.log2 - 52) 0 = _
  omega
 rw [← hl, e, rne_cut, rne_cut, c1]
def stk (q : Nat) (b : Bool) : Nat := 2 * q + b.toNat
theorem stk_div (q : Nat) (b : Bool) : stk q b / 2 = q := by unfold stk; cases b <;> simp <;> omega
theorem stk_mod (q : Nat) (b : Bool) : stk q b % 2 = 0 ↔ b = false := by unfold stk; cases b <;> simp <;> omega
theorem stk_like {r2 r d : Nat} {b2 b : Bool} (e1 : r2 / 2 ^ d = r) (main : (b2 = false ∧ r2 % 2 ^ d = 0) ↔ b = false) : Like (d + 1) (stk r2 b2) (stk r b * 2 ^ d) := by
 have hp := Nat.two_pow_pos d
 unfold Like
 rw [Nat.pow_succ, Nat.mul_comm (2 ^ d) 2, ← Nat.div_div_eq_div_mul, stk_div, e1, Nat.mul_div_mul_right _ _ hp, stk_div, Nat.mul_mod_mul_right, Nat.mul_eq_zero, Nat.mod_mul, stk_div]
 refine ⟨rfl, ?_⟩
 have k1 := stk_mod r2 b2
 have k2 := stk_mod r b
 have hz : ∀ r q : Nat, r + 2 * q = 0 ↔ r = 0 ∧ q = 0 := by omega
 rw [hz, k1, main, k2]
 exact ⟨.inl, fun h => h.resolve_right om⟩
theorem rootFrom_is (n : Nat) : ∀ todo root, root * root ≤ n → n < (root + 2 ^ todo) * (root + 2 ^ todo) → IsRt n (Ieee.Datum.rootFrom n todo root) := by
 intro todo
 induction todo with
 | zero => intro root h1 h2; exact ⟨h1, h2⟩
 | succ k ih =>
  intro root h1 h2
  have e : 1 <<< k = 2 ^ k := by rw [Nat.shiftLeft_eq, Nat.one_mul]
  show IsRt n (Ieee.Datum.rootFrom n k (if (root + 1 <<< k) * (root + 1 <<< k) ≤ n then root + 1 <<< k else root))
  rw [e]
  by_cases h : (root + 2 ^ k) * (root + 2 ^ k) ≤ n
  ·rw [if_pos h]
   refine ih _ h ?_
   rw [show root + 2 ^ k + 2 ^ k = root + 2 ^ (k + 1) by rw [Nat.pow_succ]; omega]
   exact h2
  ·rw [if_neg h]
   exact ih _ h1 om
def isq (n : Nat) : Nat := Ieee.Datum.rootFrom n (n.log2 / 2 + 1) 0
theorem isq_is (n : Nat) : IsRt n (isq n) := by
 refine rootFrom_is n _ 0 om ?_
 rw [Nat.zero_add, ← Nat.pow_add]
 rcases Nat.eq_zero_or_pos n with h | h
 ·subst h; exact Nat.two_pow_pos _
 ·exact Nat.lt_of_lt_of_le (Nat.lt_log2_self) (Nat.pow_le_pow_right dc om)
theorem sq_mul (a b : Nat) : (a * b) * (a * b) = a * a * (b * b) := by
 rw [Nat.mul_assoc, Nat.mul_left_comm b a b, ← Nat.mul_assoc]
theorem root_like (N d : Nat) : Like (d + 1) (stk (isq (N * (2 ^ d * 2 ^ d))) (isq (N * (2 ^ d * 2 ^ d)) * isq (N * (2 ^ d * 2 ^ d)) != N * (2 ^ d * 2 ^ d))) (stk (isq N) (isq N * isq N != N) * 2 ^ d) := by
 have hp := Nat.two_pow_pos d
 have h1 := isq_is N
 have h2 := isq_is (N * (2 ^ d * 2 ^ d))
 generalize isq N = r at *
 generalize isq (N * (2 ^ d * 2 ^ d)) = r2 at *
 have hDD : 0 < 2 ^ d * 2 ^ d := Nat.mul_pos hp hp
 have a1 : r * 2 ^ d ≤ r2 := h2.le (by rw [sq_mul]; exact Nat.mul_le_mul_right _ h1.1)
 have a2 : r2 < (r + 1) * 2 ^ d := by
  rcases Nat.lt_or_ge r2 ((r + 1) * 2 ^ d) with h | h
  ·exact h
  ·exfalso
   have k1 := Nat.mul_le_mul h h
   rw [sq_mul] at k1
   have k2 := Nat.mul_lt_mul_of_pos_right h1.2 hDD
   have := h2.1
   omega
 have e1 : r2 / 2 ^ d = r := Nat.div_eq_of_lt_le a1 a2
 refine stk_like e1 ?_
 rw [bne_eq_false_iff_eq, bne_eq_false_iff_eq]
 constructor
 ·rintro ⟨k1, k2⟩
  have : r * 2 ^ d = r2 := (div_mod_eq hp).2 ⟨e1, k2⟩
  rw [← this, sq_mul] at k1
  exact Nat.eq_of_mul_eq_mul_right hDD k1
 ·intro k
  have k1 : (r * 2 ^ d) * (r * 2 ^ d) = N * (2 ^ d * 2 ^ d) := by rw [sq_mul, k]
  have k2 : r2 ≤ r * 2 ^ d := by
   rcases Nat.lt_or_ge (r * 2 ^ d) r2 with h | h
   ·exfalso
    have := Nat.mul_self_lt_mul_self h
    have := h2.1
    omega
   ·exact h
  obtain rfl : r2 = r * 2 ^ d := by omega
  exact ⟨k1, Nat.mul_mod_left _ _⟩
end Go.Proofs.YtgkcpnidmfejeaaGreatDoor
end
section
namespace Go.Proofs.YtgkcpnidmfejeaaGreatDoor
def rtN (N : Nat) : Nat := stk (isq N) (isq N * isq N != N)
theorem isq_mono {N M : Nat} (h : N ≤ M) : isq N ≤ isq M := by
 have a := isq_is N
 have b := isq_is M
 exact b.le (Nat.le_trans a.1 h)
theorem rtN_mono {N M : Nat} (h : N ≤ M) : rtN N ≤ rtN M := by
 have h1 := isq_mono h
 unfold rtN stk
 by_cases e : isq N = isq M
 ·rw [e]
  by_cases g : isq M * isq M = N
  ·have : (isq M * isq M != N) = false := by simp [g]
   rw [this]
   simp
  ·have g2 : isq M * isq M ≠ M := by
    intro g3
    have := (isq_is N).1
    rw [e] at this
    omega
   have : (isq M * isq M != M) = true := by simp [g2]
   rw [this]
   have : (isq M * isq M != N) = true := by simp [g]
   rw [this]
   exact Nat.le_refl _
 ·cases (isq N * isq N != N) <;> cases (isq M * isq M != M) <;> simp <;> omega
theorem rtN_big {N k : Nat} (h : 2 ^ (k + k) ≤ N) : rtN N ≠ 0 ∧ k + 1 ≤ (rtN N).log2 := by
 have h1 : 2 ^ k ≤ isq N := (isq_is N).le (by rw [← Nat.pow_add]; exact h)
 have hp := Nat.two_pow_pos k
 have h2 : 2 ^ (k + 1) ≤ rtN N := by unfold rtN stk; rw [Nat.pow_succ]; omega
 have h0 : rtN N ≠ 0 := by have := Nat.two_pow_pos (k + 1); omega
 exact ⟨h0, (Nat.le_log2 h0).2 h2⟩
theorem sqrt_is {a m : Nat} {i : Int} (ha : Ieee.double.read a = .number false m i) (hm : m ≠ 0) (k : Nat) (hk : k = 108 - m.log2 + ((i - (108 - m.log2 : Nat)) % 2).toNat) :
 Ieee.double.sqrt a = some (Ieee.double.nearest false (rtN (m * 2 ^ k)) ((i - (k : Nat)) / 2 - 1)) := by
 unfold Ieee.Format.sqrt
 rw [ha]
 subst hk
 show (if m = 0 then some (Ieee.Datum.number false m i) else if false = true then none else some (Ieee.Datum.number false (2 * isq (m <<< (108 - m.log2 + ((i - (108 - m.log2 : Nat)) % 2).toNat)) + (isq (m <<< (108 - m.log2 + ((i - (108 - m.log2 : Nat)) % 2).toNat)) * isq (m <<< (108 - m.log2 + ((i - (108 - m.log2 : Nat)) % 2).toNat)) != m <<< (108 - m.log2 + ((i - (108 - m.log2 : Nat)) % 2).toNat)).toNat) ((i - (108 - m.log2 + ((i - (108 - m.log2 : Nat)) % 2).toNat : Nat)) / 2 - 1))).map Ieee.double.write = _
 rw [if_neg hm, if_neg Bool.false_ne_true, Nat.shiftLeft_eq]
 rfl
theorem pow_54 (d : Nat) : 2 ^ (54 + d + (54 + d)) = 2 ^ (54 + 54) * (2 ^ d * 2 ^ d) := by
 rw [← Nat.pow_add, ← Nat.pow_add]; congr 1; omega
theorem lt_53 {d l : Nat} (h : 54 + d + 1 ≤ l) : d + 1 + 53 ≤ l := by omega
def qE : Nat := 1072
theorem qE_is : qE = 1072 := rfl
theorem root_is {a : Nat} (ha : Fi a) (h0 : 0 < Fp.un Ieee.double a) :
 Ieee.double.sqrt a = some (Ieee.double.word false (Fp.rung Ieee.double (rtN (Fp.mag Ieee.double (Fp.rg Ieee.double a) * 2 ^ qE)))) := by
 obtain ⟨m, i, ra, ea, la, lm, va⟩ := is_parts2 ha
 have hs : Fp.sg Ieee.double a = false := by
  rw [un_val] at h0
  unfold Fp.val at h0
  cases hh : Fp.sg Ieee.double a with
  | false => rfl
  | true => rw [hh, if_pos rfl] at h0; omega
 rw [hs] at ra
 have hm : m ≠ 0 := by
  intro h
  rw [un_val, ← va, h, Nat.zero_mul, hs] at h0
  exact absurd h0 dc
 have q4 := qE_is
 obtain ⟨k, hk⟩ : ∃ k, k = 108 - m.log2 + ((i - (108 - m.log2 : Nat)) % 2).toNat := ⟨_, rfl⟩
 have hd := sqrt_is ra hm k hk
 have h3 : m.log2 < 53 := (Nat.log2_lt hm).2 om
 obtain ⟨h, hh⟩ : ∃ h : Int, i - (k : Nat) = 2 * h := ⟨(i - (k : Nat)) / 2, by omega⟩
 have hk1 : 56 ≤ k ∧ k ≤ 109 ∧ 108 ≤ m.log2 + k := by omega
 rw [hh, show 2 * h / 2 - 1 = h - 1 by omega] at hd
 obtain ⟨d, hd1⟩ : ∃ d : Nat, (d : Int) = h + 1073 := ⟨(h + 1073).toNat, by omega⟩
 rw [hd, Fp.nearest_units Ieee.double false _ _ (by show (-1074 : Int) ≤ _; omega)]
 have e1 : (h - 1 - Ieee.double.leastPlace).toNat = d := by
  have hl : Ieee.double.leastPlace = -1074 := by decide
  rw [hl]; omega
 rw [e1]
 have hN1 : 2 ^ (54 + 54) ≤ m * 2 ^ k := by
  have h2 : 2 ^ m.log2 * 2 ^ k ≤ m * 2 ^ k := Nat.mul_le_mul_right _ (Nat.log2_self_le hm)
  rw [← Nat.pow_add] at h2
  exact Nat.le_trans (Nat.pow_le_pow_right dc om) h2
 have hXN : Fp.mag Ieee.double (Fp.rg Ieee.double a) * 2 ^ qE = m * 2 ^ k * (2 ^ d * 2 ^ d) := by
  have e : (i + 1074).toNat + qE = k + (d + d) := by omega
  rw [← va, ← Nat.pow_add 2 d, Nat.mul_assoc m, Nat.mul_assoc m, ← Nat.pow_add, ← Nat.pow_add, e]
 have hlike : Like (d + 1) (rtN (m * 2 ^ k * (2 ^ d * 2 ^ d))) (rtN (m * 2 ^ k) * 2 ^ d) := root_like (m * 2 ^ k) d
 obtain ⟨b1, b2⟩ := rtN_big (N := m * 2 ^ k * (2 ^ d * 2 ^ d)) (k := 54 + d) (by
  rw [pow_54]
  exact Nat.mul_le_mul_right _ hN1)
 have hg := hlike.grid b1 (lt_53 b2)
 rw [hXN]
 unfold Fp.rung
 rw [hg]
theorem root_mono {a b p q : Nat} (ha : Fi a) (hb : Fi b) (h0 : 0 < Fp.un Ieee.double a) (h : Fp.un Ieee.double a ≤ Fp.un Ieee.double b) (hp : Ieee.double.sqrt a = some p) (hq : Ieee.double.sqrt b = some q) :
 Sane p ∧ Sane q ∧ 0 ≤ Fp.un Ieee.double p ∧ Fp.un Ieee.double p ≤ Fp.un Ieee.double q := by
 rw [root_is ha h0] at hp
 rw [root_is hb om] at hq
 obtain rfl := Option.some.inj hp
 obtain rfl := Option.some.inj hq
 have bd : ∀ x, Fp.rung Ieee.double x ≤ 9218868437227405312 := fun x => by unfold Fp.rung; rw [Fp.dI]; omega
 have w1 := word_sane false (bd (rtN (Fp.mag Ieee.double (Fp.rg Ieee.double a) * 2 ^ qE)))
 have w2 := word_sane false (bd (rtN (Fp.mag Ieee.double (Fp.rg Ieee.double b) * 2 ^ qE)))
 refine ⟨w1.1, w2.1, by rw [w1.2]; exact Int.natCast_nonneg _, ?_⟩
 rw [w1.2, w2.2]
 have hm : Fp.mag Ieee.double (Fp.rg Ieee.double a) ≤ Fp.mag Ieee.double (Fp.rg Ieee.double b) := by
  rw [un_val a, un_val b] at h
  rw [un_val a] at h0
  unfold Fp.val at h h0
  split at h <;> split at h <;> simp_all <;> omega
 have := Fp.mag_mono Ieee.double (Fp.rung_mono Ieee.double Fp.dF (rtN_mono (Nat.mul_le_mul_right (2 ^ qE) hm)))
 unfold Fp.val
 rw [if_neg Bool.false_ne_true, if_neg Bool.false_ne_true]
 exact_mod_cast this
end Go.Proofs.YtgkcpnidmfejeaaGreatDoor
end
namespace Go.Proofs.YtgkcpnidmfejeaaGreatDoor
open Go.RowKit
theorem mul_lt_iff {x q b : Rat} (hb : 0 < b) : x * b < q * b ↔ x < q := by
 constructor
 ·intro h
  rcases rat_or x q with g | g
  ·exact g
  ·have := rmul_le g (Rat.le_of_lt hb); grind
 ·intro h
  rcases rat_or (x * b) (q * b) with g | g
  ·exact g
  ·have := le_of_mul hb g; grind
theorem quo_sign {a q b : Rat} (hb : 0 < b) : (a < q * b ↔ a / b < q) ∧ (q * b < a ↔ q < a / b) := by
 have e := div_mul (a := a) hb
 have h1 := mul_lt_iff (x := a / b) (q := q) hb
 have h2 := mul_lt_iff (x := q) (q := a / b) hb
 rw [e] at h1 h2
 exact ⟨h1, h2⟩
theorem quo_sign_neg {a q b : Rat} (hb : b < 0) : (a < q * b ↔ q < a / b) ∧ (q * b < a ↔ a / b < q) := by
 have hc : 0 < -b := by grind
 have e : a / b = -a / -b := by grind
 have k := quo_sign (a := -a) (q := q) hc
 rw [e]
 constructor
 ·rw [← k.2]; constructor <;> intro h <;> grind
 ·rw [← k.1]; constructor <;> intro h <;> grind
def LeftP (W : World) (a b c : Rat) (r : Ending) (w' : World) : Prop := ∃ l, r = .returned (.float .f64 l) ∧ Sane l ∧ (Fp.un Ieee.double l < 0 ↔ a < b * c) ∧ (0 < Fp.un Ieee.double l ↔ b * c < a) ∧ Within W w'
theorem un_ones : Fp.un Ieee.double 13830554455654793216 < 0 ∧ 0 < Fp.un Ieee.double 4607182418800017408 := by decide +kernel
theorem sane_ones : Sane 13830554455654793216 ∧ Sane 0 ∧ Sane 4607182418800017408 := by unfold Sane; decide
theorem cmpQ_cases (a b : Rat) : (cmpQ a b = -1 ∧ a < b) ∨ (cmpQ a b = 0 ∧ a = b) ∨ (cmpQ a b = 1 ∧ b < a) := by
 unfold cmpQ
 by_cases g : a < b
 ·exact .inl ⟨if_pos g, g⟩
 ·rw [if_neg g]
  by_cases g2 : a = b
  ·exact .inr (.inl ⟨if_pos g2, g2⟩)
  ·exact .inr (.inr ⟨if_neg g2, by grind⟩)
theorem inf_un : (0 < Fp.un Ieee.double 9218868437227405312) ∧ ¬ 0 < Fp.un Ieee.double 18442240474082181120 := by decide +kernel
theorem ileft (a b c : Nat) (ha : Fi a) (hb : Fi b) (hc : Fi c) (w : World) (hT : Tab w) : Calls Tryz.prog 222 #[.float .f64 a, .float .f64 b, .float .f64 c] w (LeftP w (rvD a) (rvD b) (rvD c)) := by
 have O1 := Hh (fun w hT => iof b hb w hT); have O2 := Hh (fun w hT => iof c hc w hT); have O3 := Hh (fun w hT => iof a ha w hT)
 have HT := Hh hT; clear hT ha hb hc
 have hb0 := Within.refl w
 go_enter Tryz.func222, Tryz.ntmps222
 go_wp2_with fail
 refine (O1.out _ (HT.out.of hb0)).mono ?_; rintro r4 w4 ⟨v1, n1, e1, rfl, d1, ho1, q1, k1, E1, F1, hb4⟩
 have hc4 := hb0.trans hb4
 go_wp2_with fail
 refine (O2.out _ (HT.out.of hc4)).mono ?_; rintro r5 w5 ⟨v2, n2, e2, rfl, d2, ho2, q2, k2, E2, F2, hb5⟩
 have hc5 := hc4.trans hb5
 go_wp2_with fail
 refine (Dmul n1 e1 n2 e2 v1 v2 53 1153 ho1 ho2 k1 k2 dc ⟨E1, F1⟩ ⟨E2, F2⟩ dc _ (HT.out.of hc5) (d1.of hb5) d2).mono ?_; rintro r6 w6 ⟨v3, n3, e3, rfl, ⟨A3, c3, rfl, hc3, hr3⟩, ho3, q3, k3, E3, F3, hb6⟩
 have hc6 := hc5.trans hb6
 have V3 := (⟨A3, c3, rfl, hc3, hr3⟩ : DyV w6 (.agg #[.bool (decide (n3 < 0)), .slice A3 (dg n3.natAbs).length c3, .int .i64 e3]) n3 e3)
 have HX := Hh (And.intro ho3 (And.intro (q3.trans (by rw [q1, q2]) : dyR n3 e3 = rvD b * rvD c) (And.intro k3 (And.intro E3 F3))))
 clear d1 d2 ho1 ho2 ho3 q1 q2 q3 k1 k2 k3 E1 E2 E3 F1 F2 F3 hc3 hr3
 go_upto_region 2 with fail
 have a7 : Within w6 (w6.alloc (.cells #[.bool (decide (n3 < 0)), .slice A3 (dg n3.natAbs).length c3, .int .i64 e3] 150)) := (Within.refl _).alloc _
 have hN := heap_alloc_new w6 (.cells #[.bool (decide (n3 < 0)), .slice A3 (dg n3.natAbs).length c3, .int .i64 e3] 150)
 have hs7 : w6.heap.size < (w6.alloc (.cells #[.bool (decide (n3 < 0)), .slice A3 (dg n3.natAbs).length c3, .int .i64 e3] 150)).heap.size := by simp
 have V7 := DyV.of V3 a7
 have hc7 := hc6.trans a7
 clear V3 hb0
 generalize w6.alloc (.cells #[.bool (decide (n3 < 0)), .slice A3 (dg n3.natAbs).length c3, .int .i64 e3] 150) = W7 at *
 obtain ⟨b7, hb7⟩ : ∃ b, b = w6.heap.size := ⟨_, rfl⟩
 rw [← hb7] at hN hs7 ⊢
 clear hb7
 obtain ⟨x0, x1, x2⟩ := tri_cells hN
 clear hN
 refine wp_region_schG (fun W => W.cell? ⟨b7, 0, none⟩ = some (.bool (decide (n3 < 0))) ∧ W.cell? ⟨b7, 1, none⟩ = some (.slice A3 (dg n3.natAbs).length c3) ∧ W.cell? ⟨b7, 2, none⟩ = some (.int .i64 e3) ∧ b7 < W.heap.size ∧ Within w W ∧ DyV W (.agg #[.bool (decide (n3 < 0)), .slice A3 (dg n3.natAbs).length c3, .int .i64 e3]) n3 e3) 8 (.firm 0 (.firm 2 (.one 1 (.one 3 (.firm 4 (.firm 5 (.firm 6 (.firm 7 (.one 8 .nil))))))))) kr kr ⟨x0, x1, x2, hs7, hc7, V7⟩ ?_
 rintro w0 ⟨p0, p1, p2_, pl, hw0, pV⟩
 try simp only [pu]
 iterate 2
  apply sch_firm rfl rfl wi
  ·intro wq hq
   have hcq := hq.cells
   clear hq
   go_simp
   rfl
  try simp only [pu]
 refine sch_one rfl rfl (fun K hK => ?_)
 go_simp
 refine (O3.out _ (HT.out.of hw0.drew)).mono ?_; rintro r8 w8 ⟨v4, n4, e4, rfl, d4, ho4, q4, k4, E4, F4, hb8⟩
 have hc8 := hw0.drew.trans hb8
 have hv8 : Within w0 w8 := (Within.refl _).drew.trans hb8
 refine hK _ _ (fun _ => wi) ?_
 clear hK K
 try simp only [pu]
 refine sch_one rfl rfl (fun K hK => ?_)
 go_simp
 refine (Dcompare n4 e4 n3 e3 v4 (.agg #[.bool (decide (n3 < 0)), .slice A3 (dg n3.natAbs).length c3, .int .i64 e3]) (53 + 53) (1153 + 1153 + (53 + 53)) ho4 HX.out.1 (Nat.lt_of_lt_of_le k4 (Nat.pow_le_pow_right dc dc)) HX.out.2.2.1 dc ⟨by omega, by omega⟩ HX.out.2.2.2 dc _ (HT.out.of hc8) d4 (pV.of ((Within.refl _).drew.trans hb8))).mono ?_; rintro r9 w9 ⟨rfl, hb9⟩
 have hc9 := hc8.trans hb9
 have hv9 : Within w0 w9 := hv8.trans hb9
 rw [q4, HX.out.2.1]
 refine hK _ _ (fun _ => wi) ?_
 clear hK K
 try simp only [pu]
 iterate 4
  apply sch_firm rfl rfl wi
  ·intro wq hq
   have hcq := hq.cells
   clear hq
   go_simp
   rfl
  try simp only [pu]
 refine sch_one rfl rfl (fun K hK => ?_)
 go_simp
 refine hK _ _ ab ?_
 clear hK K
 try simp only [pu]
 refine sch_nil ?_
 have hcv := fun (k : Int) (w : World) => run_convert_int_float (P := Tryz.prog) w 3 28 .i64 .f64 k kr kr
 have c0 := hcv (-1); have c1 := hcv 0; have c2 := hcv 1
 rw [show floatOfInt .f64 (-1) = 13830554455654793216 by decide +kernel] at c0
 rw [show floatOfInt .f64 0 = 0 by decide +kernel] at c1
 rw [show floatOfInt .f64 1 = 4607182418800017408 by decide +kernel] at c2
 clear hcv d4 ho4 q4 k4 E4 F4
 have HC := Hh (cmpQ_cases (rvD a) (rvD b * rvD c))
 generalize cmpQ (rvD a) (rvD b * rvD c) = k at *
 rcases HC.out with ⟨hk, g⟩ | ⟨hk, g⟩ | ⟨hk, g⟩ <;> subst hk <;> have G := Hh g <;> clear g
 ·go_wp2
  go_ret
  have g := G.out
  exact ⟨_, rfl, sane_ones.1, ⟨fun _ => g, fun _ => un_ones.1⟩, ⟨fun h => by have := un_ones.1; omega, fun h => by grind⟩, hc9⟩
 ·go_wp2
  go_ret
  have g := G.out
  exact ⟨_, rfl, sane_ones.2.1, ⟨fun h => by rw [un_zero] at h; omega, fun h => by grind⟩, ⟨fun h => by rw [un_zero] at h; omega, fun h => by grind⟩, hc9⟩
 ·go_wp2
  go_ret
  have g := G.out
  exact ⟨_, rfl, sane_ones.2.2, ⟨fun h => by have := un_ones.2; omega, fun h => by grind⟩, ⟨fun _ => g, fun _ => un_ones.2⟩, hc9⟩
theorem cps_or0 (a : Nat) (ha : a < 9223372036854775808) : bits .or .u64 (a : Int) 0 = (a : Int) := by
 rw [show (0 : Int) = ((0 : Nat) : Int) from rfl, u64_or_nat a 0 om dc, Nat.or_zero]
theorem cps_or1 (a : Nat) (ha : a < 9223372036854775808) : bits .or .u64 (a : Int) 9223372036854775808 = ((a + 9223372036854775808 : Nat) : Int) := by
 rw [show (9223372036854775808 : Int) = ((9223372036854775808 : Nat) : Int) from rfl, u64_or_nat a 9223372036854775808 om dc]
 congr 1
 have h := Nat.two_pow_add_eq_or_of_lt (i := 63) (b := a) (by simpa using ha) 1
 rw [Nat.or_comm]
 simp at h
 omega
theorem m_cps_lo (x y : Nat) (hx : x < 9223372036854775808) (hy : y < 9223372036854775808) (w : World) : Calls Tryz.prog 250 #[.float .f64 x, .float .f64 y] w fun e w' => e = .returned (.float .f64 x) ∧ w = w' := by
 have h1 := u64_unsign x om
 rw [Nat.mod_eq_of_lt hx] at h1
 have h2 : bits .and .u64 (y : Int) 9223372036854775808 = 0 := by rw [u64_sign y om, show y / 9223372036854775808 = 0 by omega]; rfl
 have h3 := cps_or0 x hx
 clear hy
 clear hx
 go_enter Tryz.func250, Tryz.ntmps250
 go_wp2
 go_ret
 exact ⟨rfl, rfl⟩
theorem m_cps_hi (x y : Nat) (hx : x < 9223372036854775808) (h0 : 9223372036854775808 ≤ y) (hy : y < 18446744073709551616) (w : World) : Calls Tryz.prog 250 #[.float .f64 x, .float .f64 y] w fun e w' => e = .returned (.float .f64 (x + 9223372036854775808)) ∧ w = w' := by
 have h1 := u64_unsign x om
 rw [Nat.mod_eq_of_lt hx] at h1
 have h2 : bits .and .u64 (y : Int) 9223372036854775808 = 9223372036854775808 := by rw [u64_sign y om, show y / 9223372036854775808 = 1 by omega]; rfl
 have h3 := cps_or1 x hx
 clear hy h0
 generalize hs : x + 9223372036854775808 = s at *
 clear hs
 clear hx
 go_enter Tryz.func250, Tryz.ntmps250
 go_wp2
 go_ret
 exact ⟨rfl, rfl⟩
theorem zz87 {p : Prop} (h : p := by
 clear hn hr ha hb h0
 go_enter Tryz.func336, Tryz.ntmps336
 go_wp2_with fail
 refine (FQ.out _).mono ?_; rintro r1 w1 ⟨rfl, hb1⟩
 go_wp2
 go_ret
 exact ⟨_, rfl, HE.out, hb1⟩) : p := h
theorem idiv_inf_up (a b : Nat) (q : Nat) (ha : Fi a) (hb : Fi b) (h0 : Fp.un Ieee.double b ≠ 0) (hs : floatBits .quo .f64 a b = some q) (hr : RnO q (rvD a / rvD b)) (hn : ¬ Fi q) (hinf : q = 9218868437227405312) (w : World) (hT : Tab w) : Calls Tryz.prog 336 #[.float .f64 a, .float .f64 b, .int .i64 3] w (EndF w true (rvD a / rvD b)) := by
 have FQ := Hh (fun w => ifinite_any q w)
 have h1 := fun (t : TypeId) w => run_float_arith (P := Tryz.prog) w .quo t .f64 a b q hs
 have HT := Hh hT
 clear hs hT
 subst hinf
 rw [decide_eq_false dc] at FQ
 have CP := Hh (fun w => m_cps_lo 9218868437227405311 9218868437227405312 dc dc w)
 have HE := Hh (show EndOk true 9218868437227405312 (rvD a / rvD b) from by have k := inf_end (up := true) hr hn; have u := inf_un.1; rw [decide_eq_true u, if_pos u] at k; simpa using k)
 exact zz87
theorem zz73 {p : Prop} (h : p := by
 clear hn hr ha hb h0
 go_enter Tryz.func336, Tryz.ntmps336
 go_wp2_with fail
 refine (FQ.out _).mono ?_; rintro r1 w1 ⟨rfl, hb1⟩
 go_wp2_with fail
 refine (CP.out _).mono ?_; rintro r2 w2 ⟨rfl, rfl⟩
 go_wp2
 go_ret
 exact ⟨_, rfl, HE.out, hb1⟩) : p := h
theorem idiv_inf_un (a b : Nat) (q : Nat) (ha : Fi a) (hb : Fi b) (h0 : Fp.un Ieee.double b ≠ 0) (hs : floatBits .quo .f64 a b = some q) (hr : RnO q (rvD a / rvD b)) (hn : ¬ Fi q) (hinf : q = 18442240474082181120) (w : World) (hT : Tab w) : Calls Tryz.prog 336 #[.float .f64 a, .float .f64 b, .int .i64 3] w (EndF w true (rvD a / rvD b)) := by
 have FQ := Hh (fun w => ifinite_any q w)
 have h1 := fun (t : TypeId) w => run_float_arith (P := Tryz.prog) w .quo t .f64 a b q hs
 have HT := Hh hT
 clear hs hT
 subst hinf
 rw [decide_eq_false dc] at FQ
 have CP := Hh (fun w => m_cps_hi 9218868437227405311 18442240474082181120 dc dc dc w)
 have HE := Hh (show EndOk true 18442240474082181119 (rvD a / rvD b) from by have k := inf_end (up := true) hr hn; have u := inf_un.2; rw [decide_eq_false u, if_neg u] at k; simpa using k)
 exact zz73
theorem idiv_inf_dp (a b : Nat) (q : Nat) (ha : Fi a) (hb : Fi b) (h0 : Fp.un Ieee.double b ≠ 0) (hs : floatBits .quo .f64 a b = some q) (hr : RnO q (rvD a / rvD b)) (hn : ¬ Fi q) (hinf : q = 9218868437227405312) (w : World) (hT : Tab w) : Calls Tryz.prog 336 #[.float .f64 a, .float .f64 b, .int .i64 4] w (EndF w false (rvD a / rvD b)) := by
 have FQ := Hh (fun w => ifinite_any q w)
 have h1 := fun (t : TypeId) w => run_float_arith (P := Tryz.prog) w .quo t .f64 a b q hs
 have HT := Hh hT
 clear hs hT
 subst hinf
 rw [decide_eq_false dc] at FQ
 have CP := Hh (fun w => m_cps_lo 9218868437227405311 9218868437227405312 dc dc w)
 have HE := Hh (show EndOk false 9218868437227405311 (rvD a / rvD b) from by have k := inf_end (up := false) hr hn; have u := inf_un.1; rw [decide_eq_true u, if_pos u] at k; simpa using k)
 exact zz73
theorem idiv_inf_dn (a b : Nat) (q : Nat) (ha : Fi a) (hb : Fi b) (h0 : Fp.un Ieee.double b ≠ 0) (hs : floatBits .quo .f64 a b = some q) (hr : RnO q (rvD a / rvD b)) (hn : ¬ Fi q) (hinf : q = 18442240474082181120) (w : World) (hT : Tab w) : Calls Tryz.prog 336 #[.float .f64 a, .float .f64 b, .int .i64 4] w (EndF w false (rvD a / rvD b)) := by
 have FQ := Hh (fun w => ifinite_any q w)
 have h1 := fun (t : TypeId) w => run_float_arith (P := Tryz.prog) w .quo t .f64 a b q hs
 have HT := Hh hT
 clear hs hT
 subst hinf
 rw [decide_eq_false dc] at FQ
 have CP := Hh (fun w => m_cps_hi 9218868437227405311 18442240474082181120 dc dc dc w)
 have HE := Hh (show EndOk false 18442240474082181120 (rvD a / rvD b) from by have k := inf_end (up := false) hr hn; have u := inf_un.2; rw [decide_eq_false u, if_neg u] at k; simpa using k)
 exact zz87
theorem zz91 {p : Prop} (h : p := by
 go_wp2_with fail
 refine (ST.out _ N1.out _).mono ?_; rintro r3 w3 ⟨rfl, hb3⟩
 rw [E1.out, E2.out]
 go_wp2
 go_ret
 exact ⟨_, rfl, HS.out, hb1.trans (hb2.trans hb3)⟩) : p := h
theorem idiv_pos (up : Bool) (a b : Nat) (q : Nat) (ha : Fi a) (hb : Fi b) (h0 : Fp.un Ieee.double b ≠ 0) (hs : floatBits .quo .f64 a b = some q) (hr : RnO q (rvD a / rvD b)) (hf : Fi q) (hg : ¬ Fp.un Ieee.double b < 0) (w : World) (hT : Tab w) : Calls Tryz.prog 336 #[.float .f64 a, .float .f64 b, .int .i64 (upM up)] w (EndF w up (rvD a / rvD b)) := by
 have FQ := Hh (fun w => ifinite q hf.sane w)
 rw [decide_eq_true hf] at FQ
 have LF := Hh (fun w hT => ileft a q b ha hf hb w hT)
 have ST := Hh (fun l hl w => istep up q l hf hl w)
 have HS := Hh (step_sign (up := up) hf hr)
 have c1 := c_lt (x := b) (y := 0) hb.sane.2 dc
 rw [un_zero] at c1
 have hbr : 0 < rvD b := rv_pos_iff.2 om
 rw [decide_eq_false hg] at c1
 have HQ := Hh (quo_sign (a := rvD a) (q := rvD q) hbr)
 have h1 := fun (t : TypeId) w => run_float_arith (P := Tryz.prog) w .quo t .f64 a b q hs
 have HT := Hh hT
 clear hs hT
 clear ha hb h0 hr hf hg hbr
 go_enter Tryz.func336, Tryz.ntmps336
 go_wp2_with fail
 refine (FQ.out _).mono ?_; rintro r1 w1 ⟨rfl, hb1⟩
 go_wp2_with fail
 refine (LF.out _ (HT.out.of hb1)).mono ?_; rintro r2 w2 ⟨l, rfl, sl, l1, l2, hb2⟩
 have HL := Hh (And.intro sl (And.intro l1 l2))
 clear sl l1 l2
 have N1 := Hh HL.out.1.2
 have E1 := Hh (show decide (Fp.un Ieee.double l < 0) = decide (rvD a / rvD b < rvD q) from decide_eq_decide.2 (by rw [← HQ.out.1, ← HL.out.2.1]))
 have E2 := Hh (show decide (0 < Fp.un Ieee.double l) = decide (rvD q < rvD a / rvD b) from decide_eq_decide.2 (by rw [← HQ.out.2, ← HL.out.2.2]))
 exact zz91
theorem idiv_neg (up : Bool) (a b : Nat) (q : Nat) (ha : Fi a) (hb : Fi b) (h0 : Fp.un Ieee.double b ≠ 0) (hs : floatBits .quo .f64 a b = some q) (hr : RnO q (rvD a / rvD b)) (hf : Fi q) (hg : Fp.un Ieee.double b < 0) (w : World) (hT : Tab w) : Calls Tryz.prog 336 #[.float .f64 a, .float .f64 b, .int .i64 (upM up)] w (EndF w up (rvD a / rvD b)) := by
 have FQ := Hh (fun w => ifinite q hf.sane w)
 rw [decide_eq_true hf] at FQ
 have LF := Hh (fun w hT => ileft a q b ha hf hb w hT)
 have ST := Hh (fun l hl w => istep up q l hf hl w)
 have HS := Hh (step_sign (up := up) hf hr)
 have c1 := c_lt (x := b) (y := 0) hb.sane.2 dc
 rw [un_zero] at c1
 have hbr : rvD b < 0 := rv_neg_iff.2 hg
 rw [decide_eq_true hg] at c1
 have HQ := Hh (quo_sign_neg (a := rvD a) (q := rvD q) hbr)
 have h1 := fun (t : TypeId) w => run_float_arith (P := Tryz.prog) w .quo t .f64 a b q hs
 have HT := Hh hT
 clear hs hT
 clear ha hb h0 hr hf hg hbr
 go_enter Tryz.func336, Tryz.ntmps336
 go_wp2_with fail
 refine (FQ.out _).mono ?_; rintro r1 w1 ⟨rfl, hb1⟩
 go_wp2_with fail
 refine (LF.out _ (HT.out.of hb1)).mono ?_; rintro r2 w2 ⟨l, rfl, sl, l1, l2, hb2⟩
 have HL := Hh (And.intro sl (And.intro l1 l2))
 clear sl l1 l2
 obtain ⟨n1, n2⟩ := neg_sane HL.out.1
 have N1 := Hh n1.2
 have E1 := Hh (show decide (Fp.un Ieee.double (Go.Op.negFloat .f64 l) < 0) = decide (rvD a / rvD b < rvD q) from decide_eq_decide.2 (by rw [n2, ← HQ.out.2, ← HL.out.2.2]; omega))
 have E2 := Hh (show decide (0 < Fp.un Ieee.double (Go.Op.negFloat .f64 l)) = decide (rvD q < rvD a / rvD b) from decide_eq_decide.2 (by rw [n2, ← HQ.out.1, ← HL.out.2.1]; omega))
 clear n1 n2
 exact zz91
theorem idiv (up : Bool) (a b : Nat) (ha : Fi a) (hb : Fi b) (h0 : Fp.un Ieee.double b ≠ 0) (w : World) (hT : Tab w) : Calls Tryz.prog 336 #[.float .f64 a, .float .f64 b, .int .i64 (upM up)] w (EndF w up (rvD a / rvD b)) := by
 obtain ⟨q, hs, hr⟩ := div_rno ha hb h0
 by_cases hf : Fi q
 ·by_cases hg : Fp.un Ieee.double b < 0
  ·exact idiv_neg up a b q ha hb h0 hs hr hf hg w hT
  ·exact idiv_pos up a b q ha hb h0 hs hr hf hg w hT
 ·rcases not_fi hr.1 hf with h | h <;> cases up
  ·exact idiv_inf_dp a b q ha hb h0 hs hr hf h w hT
  ·exact idiv_inf_up a b q ha hb h0 hs hr hf h w hT
  ·exact idiv_inf_dn a b q ha hb h0 hs hr hf h w hT
  ·exact idiv_inf_un a b q ha hb h0 hs hr hf h w hT
def maxF (x y : Nat) : Nat := if FloatKind.f64.format.order x y == some .lt then y else if FloatKind.f64.format.order x y == some .gt then x else if (FloatKind.f64.decode x).neg then y else x
def minF (x y : Nat) : Nat := if FloatKind.f64.format.order x y == some .lt then x else if FloatKind.f64.format.order x y == some .gt then y else if (FloatKind.f64.decode x).neg then x else y
theorem order_some {x y : Nat} (hx : Sane x) (hy : Sane y) : FloatKind.f64.format.order x y ≠ none := by
 have c1 := c_lt hx.2 hy.2; have c2 := c_gt hx.2 hy.2; have c3 := c_eq hx.2 hy.2
 intro h
 rw [h] at c1 c2 c3
 have k1 := of_decide_eq_false c1.symm; have k2 := of_decide_eq_false c2.symm; have k3 := of_decide_eq_false c3.symm
 omega
theorem run_max_fl {x y : Nat} (hx : Sane x) (hy : Sane y) (P : Program) (ts : Array TypeId) (t : TypeId) (w : World) : (Builtin.max_ ts t #[.float .f64 x, .float .f64 y]).run P w = .ok (.float .f64 (maxF x y)) w := by
 have h := order_some hx hy
 unfold maxF
 simp only [Builtin.max_, Builtin.max2]
 cases ho : FloatKind.f64.format.order x y with
 | none => exact absurd ho h
 | some o => cases o <;> simp [Builtin.max2, ho]
theorem run_min_fl {x y : Nat} (hx : Sane x) (hy : Sane y) (P : Program) (ts : Array TypeId) (t : TypeId) (w : World) : (Builtin.min_ ts t #[.float .f64 x, .float .f64 y]).run P w = .ok (.float .f64 (minF x y)) w := by
 have h := order_some hx hy
 unfold minF
 simp only [Builtin.min_, Builtin.min2]
 cases ho : FloatKind.f64.format.order x y with
 | none => exact absurd ho h
 | some o => cases o <;> simp [Builtin.min2, ho]
theorem max_un2 {x y : Nat} (hx : Sane x) (hy : Sane y) : Sane (maxF x y) ∧ Fp.un Ieee.double x ≤ Fp.un Ieee.double (maxF x y) ∧ Fp.un Ieee.double y ≤ Fp.un Ieee.double (maxF x y) ∧ (maxF x y = x ∨ maxF x y = y) := by
 have c1 := c_lt hx.2 hy.2; have c2 := c_gt hx.2 hy.2
 unfold maxF
 rw [c1, c2]
 by_cases g1 : Fp.un Ieee.double x < Fp.un Ieee.double y
 ·rw [decide_eq_true g1, if_pos rfl]; exact ⟨hy, by omega, by omega, .inr rfl⟩
 ·rw [decide_eq_false g1, if_neg dc]
  by_cases g2 : Fp.un Ieee.double y < Fp.un Ieee.double x
  ·rw [decide_eq_true g2, if_pos rfl]; exact ⟨hx, by omega, by omega, .inl rfl⟩
  ·rw [decide_eq_false g2, if_neg dc]
   split
   ·exact ⟨hy, by omega, by omega, .inr rfl⟩
   ·exact ⟨hx, by omega, by omega, .inl rfl⟩
theorem min_un2 {x y : Nat} (hx : Sane x) (hy : Sane y) : Sane (minF x y) ∧ Fp.un Ieee.double (minF x y) ≤ Fp.un Ieee.double x ∧ Fp.un Ieee.double (minF x y) ≤ Fp.un Ieee.double y ∧ (minF x y = x ∨ minF x y = y) := by
 have c1 := c_lt hx.2 hy.2; have c2 := c_gt hx.2 hy.2
 unfold minF
 rw [c1, c2]
 by_cases g1 : Fp.un Ieee.double x < Fp.un Ieee.double y
 ·rw [decide_eq_true g1, if_pos rfl]; exact ⟨hx, by omega, by omega, .inl rfl⟩
 ·rw [decide_eq_false g1, if_neg dc]
  by_cases g2 : Fp.un Ieee.double y < Fp.un Ieee.double x
  ·rw [decide_eq_true g2, if_pos rfl]; exact ⟨hy, by omega, by omega, .inr rfl⟩
  ·rw [decide_eq_false g2, if_neg dc]
   split
   ·exact ⟨hx, by omega, by omega, .inl rfl⟩
   ·exact ⟨hy, by omega, by omega, .inr rfl⟩
theorem Iv.sane {l h : Nat} (k : Iv l h) : Sane l ∧ Sane h := by
 rcases k with k | ⟨rfl, rfl⟩
 ·exact ⟨k.1, k.2.1⟩
 ·exact sane_inf
def IvH (W : World) (S : Rat → Prop) (r : Ending) (w' : World) : Prop := ∃ l h, r = .returned (.agg #[.float .f64 l, .float .f64 h]) ∧ Iv l h ∧ (∀ e, S e → Holds l h e) ∧ Within W w'
theorem IvH.weak {W w' : World} {S S' : Rat → Prop} {r : Ending} (h : IvH W S r w') (k : ∀ e, S' e → S e) : IvH W S' r w' := by
 obtain ⟨l, hh, h1, h2, h3, h4⟩ := h
 exact ⟨l, hh, h1, h2, fun e g => h3 e (k e g), h4⟩
def SumE (up : Bool) (a b x : Nat) : Prop := Sane x ∧ (¬ Fi a → x = a) ∧ (Fi a → ¬ Fi b → x = b) ∧ (Fi a → Fi b → EndOk up x (rvD a + rvD b))
theorem holds_un {l h a b : Nat} {e : Rat} (k : Holds l h e) (sa : Sane a) (sb : Sane b) (ua : Fp.un Ieee.double a = Fp.un Ieee.double l) (ub : Fp.un Ieee.double b = Fp.un Ieee.double h) : Holds a b e := ⟨k.1.un sa ua, k.2.un sb ub⟩
theorem sum_holds {l1 h1 l2 h2 x1 x2 : Nat} (e1 : SumE false l1 l2 x1) (e2 : SumE true h1 h2 x2) {p q : Rat} (hp : Holds l1 h1 p) (hq : Holds l2 h2 q) : Holds x1 x2 (p + q) :=
 ⟨sum_lo hp.1 hq.1 e1.2, sum_hi hp.2 hq.2 e2.2⟩
def AddS (l1 h1 l2 h2 : Nat) (e : Rat) : Prop := ∃ p q, Holds l1 h1 p ∧ Holds l2 h2 q ∧ e = p + q
def SubS (l1 h1 l2 h2 : Nat) (e : Rat) : Prop := ∃ p q, Holds l1 h1 p ∧ Holds l2 h2 q ∧ e = p - q
def NegP (W : World) (l h : Nat) (r : Ending) (w' : World) : Prop := ∃ a b, r = .returned (.agg #[.float .f64 a, .float .f64 b]) ∧ Sane a ∧ Sane b ∧ Fp.un Ieee.double a = -Fp.un Ieee.double h ∧ Fp.un Ieee.double b = -Fp.un Ieee.double l ∧ Within W w'
def NegS (l h : Nat) (e : Rat) : Prop := ∃ p, Holds l h p ∧ e = -p
theorem neg_holds {l h x y : Nat} {p : Rat} (k : Holds l h p) (sx : Sane x) (sy : Sane y) (ux : Fp.un Ieee.double x = -Fp.un Ieee.double h) (uy : Fp.un Ieee.double y = -Fp.un Ieee.double l) : Holds x y (-p) := ⟨k.2.neg sx ux, k.1.neg sy uy⟩
theorem iEmpty (w : World) : Calls Tryz.prog 52 #[] w fun e w' => e = .returned (.agg #[.float .f64 9218868437227405312, .float .f64 18442240474082181120]) ∧ Within w w' := by
 have C1 := Hh im_inf_one; have C2 := Hh im_inf_neg
 go_enter Tryz.func52, Tryz.ntmps52
 go_upto_region 1 with fail
 have hz := heap_alloc_new w (.cells #[.float .f64 0, .float .f64 0] 30)
 have hw1 : Within w (w.alloc (.cells #[.float .f64 0, .float .f64 0] 30)) := (Within.refl w).alloc _
 have hsz : w.heap.size ≤ w.heap.size := Nat.le_refl _
 generalize hW1 : w.alloc (.cells #[.float .f64 0, .float .f64 0] 30) = W1 at *
 clear hW1
 obtain ⟨z, hz0⟩ : ∃ z, z = w.heap.size := ⟨_, rfl⟩
 rw [← hz0] at hz ⊢
 replace hsz : w.heap.size ≤ z := by omega
 clear hz0
 go_wp2_with fail
 refine (C1.out _).mono ?_; rintro r1 w1 ⟨rfl, rfl⟩
 go_wp2_with fail
 refine (C2.out _).mono ?_; rintro r2 w2 ⟨rfl, rfl⟩
 obtain ⟨k0, k1, kf, kg, k2, r0, r1⟩ := iv_block hz (.float .f64 9218868437227405312) (.float .f64 18442240474082181120)
 have kf0 := kf 0; have kf1 := kf 1; have kg1 := kg 1
 go_wp2
 (try simp only [Exit.inBlock, Exit.then]); refine bodyPost_ret (v := .agg #[.float .f64 9218868437227405312, .float .f64 18442240474082181120]) (by simp [results, Tryz.results52, go_sem, r0, r1]) rfl ?_
 exact ⟨rfl, (hw1.setCell (p := ⟨z, 0, none⟩) hsz _).setCell (p := ⟨z, 1, none⟩) hsz _⟩
theorem iAll (w : World) : Calls Tryz.prog 125 #[] w fun e w' => e = .returned (.agg #[.float .f64 18442240474082181120, .float .f64 9218868437227405312]) ∧ Within w w' := by
 have C1 := Hh im_inf_one; have C2 := Hh im_inf_neg
 go_enter Tryz.func125, Tryz.ntmps125
 go_upto_region 1 with fail
 have hz := heap_alloc_new w (.cells #[.float .f64 0, .float .f64 0] 30)
 have hw1 : Within w (w.alloc (.cells #[.float .f64 0, .float .f64 0] 30)) := (Within.refl w).alloc _
 have hsz : w.heap.size ≤ w.heap.size := Nat.le_refl _
 generalize hW1 : w.alloc (.cells #[.float .f64 0, .float .f64 0] 30) = W1 at *
 clear hW1
 obtain ⟨z, hz0⟩ : ∃ z, z = w.heap.size := ⟨_, rfl⟩
 rw [← hz0] at hz ⊢
 replace hsz : w.heap.size ≤ z := by omega
 clear hz0
 go_wp2_with fail
 refine (C2.out _).mono ?_; rintro r1 w1 ⟨rfl, rfl⟩
 go_wp2_with fail
 refine (C1.out _).mono ?_; rintro r2 w2 ⟨rfl, rfl⟩
 obtain ⟨k0, k1, kf, kg, k2, r0, r1⟩ := iv_block hz (.float .f64 18442240474082181120) (.float .f64 9218868437227405312)
 have kf0 := kf 0; have kf1 := kf 1; have kg1 := kg 1
 go_wp2
 (try simp only [Exit.inBlock, Exit.then]); refine bodyPost_ret (v := .agg #[.float .f64 18442240474082181120, .float .f64 9218868437227405312]) (by simp [results, Tryz.results125, go_sem, r0, r1]) rfl ?_
 exact ⟨rfl, (hw1.setCell (p := ⟨z, 0, none⟩) hsz _).setCell (p := ⟨z, 1, none⟩) hsz _⟩
theorem isum_n (up : Bool) (a b : Nat) (ha : Sane a) (hb : Sane b) (fa : ¬ Fi a) (w : World) (hT : Tab w) : Calls Tryz.prog 110 #[.float .f64 a, .float .f64 b, .int .i64 (upM up)] w (fun r w' => ∃ x, r = .returned (.float .f64 x) ∧ SumE up a b x ∧ Within w w') := by
 have FA := Hh (fun w => ifinite a ha w); have FB := Hh (fun w => ifinite b hb w)
 rw [decide_eq_false fa] at FA
 have HT := Hh hT; have HF := Hh fa; have HA := Hh (And.intro ha hb)
 clear hT fa ha hb
 go_enter Tryz.func110, Tryz.ntmps110
 go_wp2_with fail
 refine (FA.out _).mono ?_; rintro r1 w1 ⟨rfl, hb1⟩
 go_wp2
 go_ret
 exact ⟨a, rfl, ⟨HA.out.1, fun _ => rfl, fun g => absurd g HF.out, fun g => absurd g HF.out⟩, hb1⟩
theorem isum_yn (up : Bool) (a b : Nat) (ha : Sane a) (hb : Sane b) (fa : Fi a) (fb : ¬ Fi b) (w : World) (hT : Tab w) : Calls Tryz.prog 110 #[.float .f64 a, .float .f64 b, .int .i64 (upM up)] w (fun r w' => ∃ x, r = .returned (.float .f64 x) ∧ SumE up a b x ∧ Within w w') := by
 have FA := Hh (fun w => ifinite a ha w); have FB := Hh (fun w => ifinite b hb w)
 rw [decide_eq_true fa] at FA
 rw [decide_eq_false fb] at FB
 have HT := Hh hT; have HF := Hh (And.intro fa fb); have HA := Hh (And.intro ha hb)
 clear hT fa ha hb fb
 go_enter Tryz.func110, Tryz.ntmps110
 go_wp2_with fail
 refine (FA.out _).mono ?_; rintro r1 w1 ⟨rfl, hb1⟩
 go_wp2_with fail
 refine (FB.out _).mono ?_; rintro r2 w2 ⟨rfl, hb2⟩
 go_wp2
 go_ret
 exact ⟨b, rfl, ⟨HA.out.2, fun g => absurd HF.out.1 g, fun _ _ => rfl, fun _ g => absurd g HF.out.2⟩, hb1.trans hb2⟩
theorem isum_yy (up : Bool) (a b : Nat) (ha : Sane a) (hb : Sane b) (fa : Fi a) (fb : Fi b) (w : World) (hT : Tab w) : Calls Tryz.prog 110 #[.float .f64 a, .float .f64 b, .int .i64 (upM up)] w (fun r w' => ∃ x, r = .returned (.float .f64 x) ∧ SumE up a b x ∧ Within w w') := by
 have FA := Hh (fun w => ifinite a ha w); have FB := Hh (fun w => ifinite b hb w)
 rw [decide_eq_true fa] at FA
 rw [decide_eq_true fb] at FB
 have AD := Hh (fun w hT => iadd up a b fa fb w hT)
 have HT := Hh hT; have HF := Hh (And.intro fa fb); have HA := Hh (And.intro ha hb)
 clear hT fa ha hb fb
 go_enter Tryz.func110, Tryz.ntmps110
 go_wp2_with fail
 refine (FA.out _).mono ?_; rintro r1 w1 ⟨rfl, hb1⟩
 go_wp2_with fail
 refine (FB.out _).mono ?_; rintro r2 w2 ⟨rfl, hb2⟩
 go_wp2_with fail
 refine (AD.out _ (HT.out.of (hb1.trans hb2))).mono ?_; rintro r3 w3 ⟨x, rfl, hx, hb3⟩
 go_wp2
 go_ret
 exact ⟨x, rfl, ⟨hx.sane, fun g => absurd HF.out.1 g, fun _ g => absurd HF.out.2 g, fun _ _ => hx⟩, hb1.trans (hb2.trans hb3)⟩
theorem isum (up : Bool) (a b : Nat) (ha : Sane a) (hb : Sane b) (w : World) (hT : Tab w) : Calls Tryz.prog 110 #[.float .f64 a, .float .f64 b, .int .i64 (upM up)] w (fun r w' => ∃ x, r = .returned (.float .f64 x) ∧ SumE up a b x ∧ Within w w') := by
 by_cases fa : Fi a
 ·by_cases fb : Fi b
  ·exact isum_yy up a b ha hb fa fb w hT
  ·exact isum_yn up a b ha hb fa fb w hT
 ·exact isum_n up a b ha hb fa w hT
theorem zz23 {p : Prop} (h : p := by
 exact ⟨_, _, rfl, .inr ⟨rfl, rfl⟩, fun e h => absurd h (HN.out e), (hww.setCell (p := ⟨b0 + 2, 0, none⟩) (by have := HS.out; show w.heap.size ≤ b0 + 2; omega) _).setCell (p := ⟨b0 + 2, 1, none⟩) (by have := HS.out; show w.heap.size ≤ b0 + 2; omega) _⟩) : p := h
theorem zz120 {p : Prop} (h : p := by
 have hBr := (hcz.block (b0 + 2) (by have := HS.out; omega)).trans hB2
 obtain ⟨k0, k1, kf, kg, k2, r0, r1⟩ := iv_block hBr (.float .f64 9218868437227405312) (.float .f64 18442240474082181120)
 have kf0 := kf 0; have kf1 := kf 1; have kg1 := kg 1
 have hww := hwN.trans hcz
 go_wp2
 (try simp only [Exit.inBlock, Exit.then]); refine bodyPost_ret (v := .agg #[.float .f64 9218868437227405312, .float .f64 18442240474082181120]) (by simp [results, Tryz.results32, go_sem, r0, r1]) rfl ?_
 exact zz23) : p := h
theorem iAdd_n (l1 h1 l2 h2 : Nat) (i1 : Iv l1 h1) (i2 : Iv l2 h2) (k1 : ¬ Full l1 h1) (w : World) (hT : Tab w) : Calls Tryz.prog 32 #[.agg #[.float .f64 l1, .float .f64 h1], .agg #[.float .f64 l2, .float .f64 h2]] w (IvH w (AddS l1 h1 l2 h2)) := by
 have F1 := Hh (fun w => ifull l1 h1 i1.sane.1 i1.sane.2 w); have F2 := Hh (fun w => ifull l2 h2 i2.sane.1 i2.sane.2 w)
 rw [decide_eq_false k1] at F1
 have EM := Hh iEmpty
 have HN := Hh (show ∀ e, ¬ AddS l1 h1 l2 h2 e from fun e ⟨p, q, hp, hq, _⟩ => k1 hp.full)
 have HT := Hh hT
 clear hT i1 i2 k1
 obtain ⟨hwN, hB0, hB1, hB2⟩ := box3 w #[.float .f64 l1, .float .f64 h1] #[.float .f64 l2, .float .f64 h2] #[.float .f64 0, .float .f64 0] 30 30 30
 go_enter Tryz.func32, Tryz.ntmps32
 go_upto_region 1 with fail
 obtain ⟨W3, hW3⟩ : ∃ W3, W3 = (((w.alloc (.cells #[.float .f64 l1, .float .f64 h1] 30)).alloc (.cells #[.float .f64 l2, .float .f64 h2] 30)).alloc (.cells #[.float .f64 0, .float .f64 0] 30)) := ⟨_, rfl⟩
 have hs3 : W3.heap.size = w.heap.size + 3 := by rw [hW3]; simp
 rw [← hW3] at hwN hB0 hB1 hB2 ⊢
 clear hW3
 obtain ⟨b0, hb0⟩ : ∃ b, b = w.heap.size := ⟨_, rfl⟩
 have HS := Hh (And.intro hs3 hb0)
 rw [← hb0] at hB0 hB1 hB2 ⊢
 clear hb0 hs3
 obtain ⟨x00, x01⟩ := pair_cells hB0
 obtain ⟨x10, x11⟩ := pair_cells hB1
 have l0 : b0 + 2 < W3.heap.size := by have := HS.out; omega
 go_wp2_with fail
 refine (F1.out _).mono ?_; rintro r1 w1 ⟨rfl, hb1⟩
 go_wp2_with fail
 refine (EM.out _).mono ?_; rintro rz wz ⟨rfl, hbz⟩
 have hcz := hb1.trans hbz
 exact zz120
theorem iAdd_yn (l1 h1 l2 h2 : Nat) (i1 : Iv l1 h1) (i2 : Iv l2 h2) (k1 : Full l1 h1) (k2 : ¬ Full l2 h2) (w : World) (hT : Tab w) : Calls Tryz.prog 32 #[.agg #[.float .f64 l1, .float .f64 h1], .agg #[.float .f64 l2, .float .f64 h2]] w (IvH w (AddS l1 h1 l2 h2)) := by
 have F1 := Hh (fun w => ifull l1 h1 i1.sane.1 i1.sane.2 w); have F2 := Hh (fun w => ifull l2 h2 i2.sane.1 i2.sane.2 w)
 rw [decide_eq_true k1] at F1
 rw [decide_eq_false k2] at F2
 have EM := Hh iEmpty
 have HN := Hh (show ∀ e, ¬ AddS l1 h1 l2 h2 e from fun e ⟨p, q, hp, hq, _⟩ => k2 hq.full)
 have HT := Hh hT
 clear hT i1 i2 k1 k2
 obtain ⟨hwN, hB0, hB1, hB2⟩ := box3 w #[.float .f64 l1, .float .f64 h1] #[.float .f64 l2, .float .f64 h2] #[.float .f64 0, .float .f64 0] 30 30 30
 go_enter Tryz.func32, Tryz.ntmps32
 go_upto_region 1 with fail
 obtain ⟨W3, hW3⟩ : ∃ W3, W3 = (((w.alloc (.cells #[.float .f64 l1, .float .f64 h1] 30)).alloc (.cells #[.float .f64 l2, .float .f64 h2] 30)).alloc (.cells #[.float .f64 0, .float .f64 0] 30)) := ⟨_, rfl⟩
 have hs3 : W3.heap.size = w.heap.size + 3 := by rw [hW3]; simp
 rw [← hW3] at hwN hB0 hB1 hB2 ⊢
 clear hW3
 obtain ⟨b0, hb0⟩ : ∃ b, b = w.heap.size := ⟨_, rfl⟩
 have HS := Hh (And.intro hs3 hb0)
 rw [← hb0] at hB0 hB1 hB2 ⊢
 clear hb0 hs3
 obtain ⟨x00, x01⟩ := pair_cells hB0
 obtain ⟨x10, x11⟩ := pair_cells hB1
 have l0 : b0 + 2 < W3.heap.size := by have := HS.out; omega
 go_wp2_with fail
 refine (F1.out _).mono ?_; rintro r1 w1 ⟨rfl, hb1⟩
 replace x00 := (hb1.cells _ _ (show b0 < _ from by have := l0; omega)).trans x00
 replace x01 := (hb1.cells _ _ (show b0 < _ from by have := l0; omega)).trans x01
 replace x10 := (hb1.cells _ _ (show b0 + 1 < _ from by have := l0; omega)).trans x10
 replace x11 := (hb1.cells _ _ (show b0 + 1 < _ from by have := l0; omega)).trans x11
 replace l0 := Nat.lt_of_lt_of_le l0 hb1.size
 go_wp2_with fail
 refine (F2.out _).mono ?_; rintro r2 w2 ⟨rfl, hb2⟩
 have hc2 := hb1.trans hb2
 go_wp2_with fail
 refine (EM.out _).mono ?_; rintro rz wz ⟨rfl, hbz⟩
 have hcz := hc2.trans hbz
 exact zz120
theorem zz118 {p : Prop} (h : p := by
 obtain ⟨e0, he0⟩ := HX.out
 exact ⟨a, b, rfl, .inl (key e0 he0).full, key, (hww.setCell (p := ⟨b0 + 2, 0, none⟩) (by have := HS.out; show w.heap.size ≤ b0 + 2; omega) _).setCell (p := ⟨b0 + 2, 1, none⟩) (by have := HS.out; show w.heap.size ≤ b0 + 2; omega) _⟩) : p := h
theorem iAdd_yy (l1 h1 l2 h2 : Nat) (i1 : Iv l1 h1) (i2 : Iv l2 h2) (k1 : Full l1 h1) (k2 : Full l2 h2) (w : World) (hT : Tab w) : Calls Tryz.prog 32 #[.agg #[.float .f64 l1, .float .f64 h1], .agg #[.float .f64 l2, .float .f64 h2]] w (IvH w (AddS l1 h1 l2 h2)) := by
 have F1 := Hh (fun w => ifull l1 h1 i1.sane.1 i1.sane.2 w); have F2 := Hh (fun w => ifull l2 h2 i2.sane.1 i2.sane.2 w)
 rw [decide_eq_true k1] at F1
 rw [decide_eq_true k2] at F2
 have S1 := Hh (fun w hT => isum false l1 l2 i1.sane.1 i2.sane.1 w hT); have S2 := Hh (fun w hT => isum true h1 h2 i1.sane.2 i2.sane.2 w hT)
 have HX := Hh (show ∃ e, AddS l1 h1 l2 h2 e from by obtain ⟨p, hp⟩ := k1.point; obtain ⟨q, hq⟩ := k2.point; exact ⟨_, p, q, hp, hq, rfl⟩)
 have MK := Hh (fun (x y : Nat) hx hy w => imake x y hx hy w)
 have HT := Hh hT
 clear hT i1 i2 k1 k2
 obtain ⟨hwN, hB0, hB1, hB2⟩ := box3 w #[.float .f64 l1, .float .f64 h1] #[.float .f64 l2, .float .f64 h2] #[.float .f64 0, .float .f64 0] 30 30 30
 go_enter Tryz.func32, Tryz.ntmps32
 go_upto_region 1 with fail
 obtain ⟨W3, hW3⟩ : ∃ W3, W3 = (((w.alloc (.cells #[.float .f64 l1, .float .f64 h1] 30)).alloc (.cells #[.float .f64 l2, .float .f64 h2] 30)).alloc (.cells #[.float .f64 0, .float .f64 0] 30)) := ⟨_, rfl⟩
 have hs3 : W3.heap.size = w.heap.size + 3 := by rw [hW3]; simp
 rw [← hW3] at hwN hB0 hB1 hB2 ⊢
 clear hW3
 obtain ⟨b0, hb0⟩ : ∃ b, b = w.heap.size := ⟨_, rfl⟩
 have HS := Hh (And.intro hs3 hb0)
 rw [← hb0] at hB0 hB1 hB2 ⊢
 clear hb0 hs3
 obtain ⟨x00, x01⟩ := pair_cells hB0
 obtain ⟨x10, x11⟩ := pair_cells hB1
 have l0 : b0 + 2 < W3.heap.size := by have := HS.out; omega
 go_wp2_with fail
 refine (F1.out _).mono ?_; rintro r1 w1 ⟨rfl, hb1⟩
 replace x00 := (hb1.cells _ _ (show b0 < _ from by have := l0; omega)).trans x00
 replace x01 := (hb1.cells _ _ (show b0 < _ from by have := l0; omega)).trans x01
 replace x10 := (hb1.cells _ _ (show b0 + 1 < _ from by have := l0; omega)).trans x10
 replace x11 := (hb1.cells _ _ (show b0 + 1 < _ from by have := l0; omega)).trans x11
 replace l0 := Nat.lt_of_lt_of_le l0 hb1.size
 go_wp2_with fail
 refine (F2.out _).mono ?_; rintro r2 w2 ⟨rfl, hb2⟩
 have hc2 := hb1.trans hb2
 replace x00 := (hb2.cells _ _ (show b0 < _ from by have := l0; omega)).trans x00
 replace x01 := (hb2.cells _ _ (show b0 < _ from by have := l0; omega)).trans x01
 replace x10 := (hb2.cells _ _ (show b0 + 1 < _ from by have := l0; omega)).trans x10
 replace x11 := (hb2.cells _ _ (show b0 + 1 < _ from by have := l0; omega)).trans x11
 replace l0 := Nat.lt_of_lt_of_le l0 hb2.size
 go_upto_region 3 with fail
 refine wp_region_schG (fun W => W.cell? ⟨b0, 0, none⟩ = some (.float .f64 l1) ∧ W.cell? ⟨b0, 1, none⟩ = some (.float .f64 h1) ∧ W.cell? ⟨b0 + 1, 0, none⟩ = some (.float .f64 l2) ∧ W.cell? ⟨b0 + 1, 1, none⟩ = some (.float .f64 h2) ∧ b0 < W.heap.size ∧ b0 + 1 < W.heap.size ∧ Within W3 W) 11 (.firm 0 (.firm 1 (.firm 2 (.firm 3 (.firm 5 (.firm 6 (.firm 7 (.firm 8 (.one 4 (.one 9 (.one 10 (.one 11 .nil)))))))))))) kr kr ⟨x00, x01, x10, x11, by omega, by omega, hc2⟩ ?_
 rintro w0 ⟨p0, p1, s0, s1, pl, sl, hw0⟩
 try simp only [pu]
 iterate 8
  apply sch_firm rfl rfl wi
  ·intro wq hq
   have hcq := hq.cells
   clear hq
   go_simp
   rfl
  try simp only [pu]
 refine sch_one rfl rfl (fun K hK => ?_)
 go_simp
 refine (S1.out _ (HT.out.of (hwN.trans hw0.drew))).mono ?_; rintro r3 w3 ⟨x1, rfl, e1, hb3⟩
 have hv3 : Within w0 w3 := (Within.refl _).drew.trans hb3
 refine hK _ _ (fun _ => wi) ?_
 clear hK K
 try simp only [pu]
 refine sch_one rfl rfl (fun K hK => ?_)
 go_simp
 refine (S2.out _ (HT.out.of ((hwN.trans hw0).trans hv3))).mono ?_; rintro r4 w4 ⟨x2, rfl, e2, hb4⟩
 have hv4 : Within w0 w4 := hv3.trans hb4
 refine hK _ _ (fun _ => wi) ?_
 clear hK K
 try simp only [pu]
 refine sch_one rfl rfl (fun K hK => ?_)
 go_simp
 refine (MK.out x1 x2 e1.1 e2.1 _).mono ?_; rintro r5 w5 ⟨a, b, rfl, sa, sb, ua, ub, hb5⟩
 have hv5 : Within w0 w5 := hv4.trans hb5
 have hc5 := hw0.trans hv5
 have HE := Hh (And.intro e1 (And.intro e2 (And.intro sa (And.intro sb (And.intro ua ub)))))
 clear e1 e2 sa sb ua ub
 have hBr := (hc5.block (b0 + 2) (by have := HS.out; omega)).trans hB2
 obtain ⟨k0, k1, kf, kg, k2, r0, r1⟩ := iv_block hBr (.float .f64 a) (.float .f64 b)
 have kf0 := kf 0; have kf1 := kf 1; have kg1 := kg 1
 have hww := hwN.trans hc5
 refine hK _ _ (fun _ => wi) ?_
 clear hK K
 try simp only [pu]
 refine sch_one rfl rfl (fun K hK => ?_)
 go_simp
 refine hK _ _ ab ?_
 clear hK K
 try simp only [pu]
 refine sch_nil ?_
 go_wp2
 (try simp only [Exit.inBlock, Exit.then]); refine bodyPost_ret (v := .agg #[.float .f64 a, .float .f64 b]) (by simp [results, Tryz.results32, go_sem, r0, r1]) rfl ?_
 have key : ∀ e, AddS l1 h1 l2 h2 e → Holds a b e := by
  rintro _ ⟨p, q, hp, hq, rfl⟩
  exact holds_un (sum_holds HE.out.1 HE.out.2.1 hp hq) HE.out.2.2.1 HE.out.2.2.2.1 HE.out.2.2.2.2.1 HE.out.2.2.2.2.2
 exact zz118
theorem iAdd (l1 h1 l2 h2 : Nat) (i1 : Iv l1 h1) (i2 : Iv l2 h2) (w : World) (hT : Tab w) : Calls Tryz.prog 32 #[.agg #[.float .f64 l1, .float .f64 h1], .agg #[.float .f64 l2, .float .f64 h2]] w (IvH w (AddS l1 h1 l2 h2)) := by
 by_cases k1 : Full l1 h1
 ·by_cases k2 : Full l2 h2
  ·exact iAdd_yy l1 h1 l2 h2 i1 i2 k1 k2 w hT
  ·exact iAdd_yn l1 h1 l2 h2 i1 i2 k1 k2 w hT
 ·exact iAdd_n l1 h1 l2 h2 i1 i2 k1 w hT
theorem zz119 {p : Prop} (h : p := by
 exact ⟨_, _, rfl, .inr ⟨rfl, rfl⟩, fun e h => absurd h (HN.out e), (hww.setCell (p := ⟨b0 + 1, 0, none⟩) (by have := HS.out; show w.heap.size ≤ b0 + 1; omega) _).setCell (p := ⟨b0 + 1, 1, none⟩) (by have := HS.out; show w.heap.size ≤ b0 + 1; omega) _⟩) : p := h
theorem iNeg_n (l h : Nat) (i : Iv l h) (k : ¬ Full l h) (w : World) : Calls Tryz.prog 120 #[.agg #[.float .f64 l, .float .f64 h]] w (IvH w (NegS l h)) := by
 have F1 := Hh (fun w => ifull l h i.sane.1 i.sane.2 w)
 rw [decide_eq_false k] at F1
 have EM := Hh iEmpty
 have HN := Hh (show ∀ e, ¬ NegS l h e from fun e ⟨p, hp, _⟩ => k hp.full)
 clear i k
 obtain ⟨hwN, hB0, hB1⟩ := box2 w #[.float .f64 l, .float .f64 h] #[.float .f64 0, .float .f64 0] 30 30
 go_enter Tryz.func120, Tryz.ntmps120
 go_upto_region 1 with fail
 obtain ⟨W3, hW3⟩ : ∃ W3, W3 = ((w.alloc (.cells #[.float .f64 l, .float .f64 h] 30)).alloc (.cells #[.float .f64 0, .float .f64 0] 30)) := ⟨_, rfl⟩
 have hs3 : W3.heap.size = w.heap.size + 2 := by rw [hW3]; simp
 rw [← hW3] at hwN hB0 hB1 ⊢
 clear hW3
 obtain ⟨b0, hb0⟩ : ∃ b, b = w.heap.size := ⟨_, rfl⟩
 have HS := Hh (And.intro hs3 hb0)
 rw [← hb0] at hB0 hB1 ⊢
 clear hb0 hs3
 obtain ⟨x00, x01⟩ := pair_cells hB0
 have l0 : b0 + 1 < W3.heap.size := by have := HS.out; omega
 go_wp2_with fail
 refine (F1.out _).mono ?_; rintro r1 w1 ⟨rfl, hb1⟩
 go_wp2_with fail
 refine (EM.out _).mono ?_; rintro rz wz ⟨rfl, hbz⟩
 have hcz := hb1.trans hbz
 have hBr := (hcz.block (b0 + 1) (by have := HS.out; omega)).trans hB1
 obtain ⟨k0, k1, kf, kg, k2, r0, r1⟩ := iv_block hBr (.float .f64 9218868437227405312) (.float .f64 18442240474082181120)
 have kf0 := kf 0; have kf1 := kf 1; have kg1 := kg 1
 have hww := hwN.trans hcz
 go_wp2
 (try simp only [Exit.inBlock, Exit.then]); refine bodyPost_ret (v := .agg #[.float .f64 9218868437227405312, .float .f64 18442240474082181120]) (by simp [results, Tryz.results120, go_sem, r0, r1]) rfl ?_
 exact zz119
theorem iNeg_y (l h : Nat) (i : Iv l h) (k : Full l h) (w : World) : Calls Tryz.prog 120 #[.agg #[.float .f64 l, .float .f64 h]] w (NegP w l h) := by
 have F1 := Hh (fun w => ifull l h i.sane.1 i.sane.2 w)
 rw [decide_eq_true k] at F1
 obtain ⟨n1, u1_⟩ := neg_sane i.sane.1; obtain ⟨n2, u2_⟩ := neg_sane i.sane.2
 have MK := Hh (fun w => imake _ _ n2 n1 w)
 have HU := Hh (And.intro u1_ u2_)
 clear n1 n2 u1_ u2_
 clear i k
 obtain ⟨hwN, hB0, hB1⟩ := box2 w #[.float .f64 l, .float .f64 h] #[.float .f64 0, .float .f64 0] 30 30
 go_enter Tryz.func120, Tryz.ntmps120
 go_upto_region 1 with fail
 obtain ⟨W3, hW3⟩ : ∃ W3, W3 = ((w.alloc (.cells #[.float .f64 l, .float .f64 h] 30)).alloc (.cells #[.float .f64 0, .float .f64 0] 30)) := ⟨_, rfl⟩
 have hs3 : W3.heap.size = w.heap.size + 2 := by rw [hW3]; simp
 rw [← hW3] at hwN hB0 hB1 ⊢
 clear hW3
 obtain ⟨b0, hb0⟩ : ∃ b, b = w.heap.size := ⟨_, rfl⟩
 have HS := Hh (And.intro hs3 hb0)
 rw [← hb0] at hB0 hB1 ⊢
 clear hb0 hs3
 obtain ⟨x00, x01⟩ := pair_cells hB0
 have l0 : b0 + 1 < W3.heap.size := by have := HS.out; omega
 go_wp2_with fail
 refine (F1.out _).mono ?_; rintro r1 w1 ⟨rfl, hb1⟩
 replace x00 := (hb1.cells _ _ (show b0 < _ from by have := l0; omega)).trans x00
 replace x01 := (hb1.cells _ _ (show b0 < _ from by have := l0; omega)).trans x01
 replace l0 := Nat.lt_of_lt_of_le l0 hb1.size
 go_wp2_with fail
 refine (MK.out _).mono ?_; rintro r2 w2 ⟨a, b, rfl, sa, sb, ua, ub, hb2⟩
 have hc2 := hb1.trans hb2
 have HE := Hh (And.intro sa (And.intro sb (And.intro ua ub)))
 clear sa sb ua ub
 have hBr := (hc2.block (b0 + 1) (by have := HS.out; omega)).trans hB1
 obtain ⟨k0, k1, kf, kg, k2, r0, r1⟩ := iv_block hBr (.float .f64 a) (.float .f64 b)
 have kf0 := kf 0; have kf1 := kf 1; have kg1 := kg 1
 have hww := hwN.trans hc2
 go_wp2
 (try simp only [Exit.inBlock, Exit.then]); refine bodyPost_ret (v := .agg #[.float .f64 a, .float .f64 b]) (by simp [results, Tryz.results120, go_sem, r0, r1]) rfl ?_
 exact ⟨a, b, rfl, HE.out.1, HE.out.2.1, HE.out.2.2.1.trans HU.out.2, HE.out.2.2.2.trans HU.out.1, (hww.setCell (p := ⟨b0 + 1, 0, none⟩) (by have := HS.out; show w.heap.size ≤ b0 + 1; omega) _).setCell (p := ⟨b0 + 1, 1, none⟩) (by have := HS.out; show w.heap.size ≤ b0 + 1; omega) _⟩
theorem iNeg (l h : Nat) (i : Iv l h) (w : World) : Calls Tryz.prog 120 #[.agg #[.float .f64 l, .float .f64 h]] w (IvH w (NegS l h)) := by
 by_cases k : Full l h
 ·refine (iNeg_y l h i k w).mono ?_
  rintro r w' ⟨a, b, rfl, sa, sb, ua, ub, hb⟩
  have key : ∀ e, NegS l h e → Holds a b e := by
   rintro _ ⟨p, hp, rfl⟩
   exact neg_holds hp sa sb ua ub
  obtain ⟨p, hp⟩ := k.point
  exact ⟨a, b, rfl, .inl (key _ ⟨p, hp, rfl⟩).full, key, hb⟩
 ·exact iNeg_n l h i k w
theorem iSub (l1 h1 l2 h2 : Nat) (i1 : Iv l1 h1) (i2 : Iv l2 h2) (w : World) (hT : Tab w) : Calls Tryz.prog 38 #[.agg #[.float .f64 l1, .float .f64 h1], .agg #[.float .f64 l2, .float .f64 h2]] w (IvH w (SubS l1 h1 l2 h2)) := by
 have N2 := Hh (fun w => iNeg l2 h2 i2 w)
 have AD := Hh (fun l h i w hT => iAdd l1 h1 l h i1 i w hT)
 have HT := Hh hT
 clear hT i1 i2
 obtain ⟨hwN, hB0, hB1, hB2⟩ := box3 w #[.float .f64 l1, .float .f64 h1] #[.float .f64 l2, .float .f64 h2] #[.float .f64 0, .float .f64 0] 30 30 30
 go_enter Tryz.func38, Tryz.ntmps38
 go_upto_region 1 with fail
 obtain ⟨W3, hW3⟩ : ∃ W3, W3 = (((w.alloc (.cells #[.float .f64 l1, .float .f64 h1] 30)).alloc (.cells #[.float .f64 l2, .float .f64 h2] 30)).alloc (.cells #[.float .f64 0, .float .f64 0] 30)) := ⟨_, rfl⟩
 have hs3 : W3.heap.size = w.heap.size + 3 := by rw [hW3]; simp
 rw [← hW3] at hwN hB0 hB1 hB2 ⊢
 clear hW3
 obtain ⟨b0, hb0⟩ : ∃ b, b = w.heap.size := ⟨_, rfl⟩
 have HS := Hh (And.intro hs3 hb0)
 rw [← hb0] at hB0 hB1 hB2 ⊢
 clear hb0 hs3
 obtain ⟨x00, x01⟩ := pair_cells hB0
 obtain ⟨x10, x11⟩ := pair_cells hB1
 have l0 : b0 + 2 < W3.heap.size := by have := HS.out; omega
 refine wp_region_schG (fun W => W.cell? ⟨b0, 0, none⟩ = some (.float .f64 l1) ∧ W.cell? ⟨b0, 1, none⟩ = some (.float .f64 h1) ∧ W.cell? ⟨b0 + 1, 0, none⟩ = some (.float .f64 l2) ∧ W.cell? ⟨b0 + 1, 1, none⟩ = some (.float .f64 h2) ∧ b0 < W.heap.size ∧ b0 + 1 < W.heap.size ∧ Within W3 W) 4 (.firm 0 (.firm 1 (.one 2 (.one 3 (.one 4 .nil))))) kr kr ⟨x00, x01, x10, x11, by omega, by omega, Within.refl _⟩ ?_
 rintro w0 ⟨p0, p1, s0, s1, pl, sl, hw0⟩
 try simp only [pu]
 iterate 2
  apply sch_firm rfl rfl wi
  ·intro wq hq
   have hcq := hq.cells
   clear hq
   go_simp
   rfl
  try simp only [pu]
 refine sch_one rfl rfl (fun K hK => ?_)
 go_simp
 refine (N2.out _).mono ?_; rintro r3 w3 ⟨l3, h3, rfl, i3, e3, hb3⟩
 have hv3 : Within w0 w3 := (Within.refl _).drew.trans hb3
 refine hK _ _ (fun _ => wi) ?_
 clear hK K
 try simp only [pu]
 refine sch_one rfl rfl (fun K hK => ?_)
 go_simp
 refine (AD.out l3 h3 i3 _ (HT.out.of ((hwN.trans hw0).trans hv3))).mono ?_; rintro r4 w4 ⟨a, b, rfl, i4, e4, hb4⟩
 have hv4 : Within w0 w4 := hv3.trans hb4
 have hc4 := hw0.trans hv4
 have HE := Hh (And.intro e3 (And.intro i4 e4))
 clear e3 i4 e4
 have hBr := (hc4.block (b0 + 2) (by have := HS.out; omega)).trans hB2
 obtain ⟨k0, k1, kf, kg, k2, r0, r1⟩ := iv_block hBr (.float .f64 a) (.float .f64 b)
 have kf0 := kf 0; have kf1 := kf 1; have kg1 := kg 1
 have hww := hwN.trans hc4
 refine hK _ _ (fun _ => wi) ?_
 clear hK K
 try simp only [pu]
 refine sch_one rfl rfl (fun K hK => ?_)
 go_simp
 refine hK _ _ ab ?_
 clear hK K
 try simp only [pu]
 refine sch_nil ?_
 go_wp2
 (try simp only [Exit.inBlock, Exit.then]); refine bodyPost_ret (v := .agg #[.float .f64 a, .float .f64 b]) (by simp [results, Tryz.results38, go_sem, r0, r1]) rfl ?_
 refine ⟨a, b, rfl, HE.out.2.1, ?_, (hww.setCell (p := ⟨b0 + 2, 0, none⟩) (by have := HS.out; show w.heap.size ≤ b0 + 2; omega) _).setCell (p := ⟨b0 + 2, 1, none⟩) (by have := HS.out; show w.heap.size ≤ b0 + 2; omega) _⟩
 rintro _ ⟨p, q, hp, hq, rfl⟩
 exact HE.out.2.2 _ ⟨p, -q, hp, HE.out.1 _ ⟨q, hq, rfl⟩, by grind⟩
theorem zero_words {x : Nat} (hx : x < 18446744073709551616) (h : Fp.un Ieee.double x = 0) : x = 0 ∨ x = 9223372036854775808 := by
 have h1 := un_mod x
 rw [h] at h1
 have h2 : x % 9223372036854775808 = 0 := by
  rcases Nat.eq_zero_or_pos (x % 9223372036854775808) with g | g
  ·exact g
  ·exfalso
   have k := (Fp.mag_mono Ieee.double g : Fp.mag Ieee.double 1 ≤ Fp.mag Ieee.double (x % 9223372036854775808))
   have k1 : Fp.mag Ieee.double 1 = 1 := by decide +kernel
   rw [un_val] at h1
   unfold Fp.val at h1
   have e : Fp.rg Ieee.double (x % 9223372036854775808) = x % 9223372036854775808 := by rw [Fp.rg64]; omega
   rw [e] at h1
   split at h1 <;> simp at h1 <;> omega
 omega
theorem sq_zero : Ieee.double.sqrt 0 = some 0 ∧ Ieee.double.sqrt 9223372036854775808 = some 9223372036854775808 := by decide +kernel
def sqM : Nat := 6913025428013711359
theorem sq_max : Ieee.double.sqrt 9218868437227405311 = some sqM ∧ Fi sqM := by unfold Fi; decide +kernel
theorem max_top {a : Nat} (ha : Fi a) : Fp.un Ieee.double a ≤ Fp.un Ieee.double 9218868437227405311 := by
 rcases Int.lt_or_le (Fp.un Ieee.double 9218868437227405311) (Fp.un Ieee.double a) with g | g
 ·exfalso
  rw [max_un] at g
  rw [un_val] at g
  unfold Fp.val at g
  have hm := Fp.mag_mono Ieee.double (show Fp.rg Ieee.double a ≤ 9218868437227405311 by rw [Fp.rg64]; have := ha.2; omega)
  have e : Fp.mag Ieee.double 9218868437227405311 = mxU := by decide +kernel
  rw [e] at hm
  split at g <;> omega
 ·exact g
theorem sq_ok {a : Nat} (ha : Fi a) (h0 : 0 ≤ Fp.un Ieee.double a) : ∃ q, Ieee.double.sqrt a = some q ∧ Fi q ∧ 0 ≤ Fp.un Ieee.double q := by
 rcases Int.lt_or_eq_of_le h0 with h | h
 ·have hq := root_is ha h
  obtain ⟨s1, _, p1, p2⟩ := root_mono ha fi_max.1 h (max_top ha) hq sq_max.1
  refine ⟨_, hq, ⟨s1.1, ?_⟩, p1⟩
  have := un_fi sq_max.2
  rcases sane_cases s1 with ⟨f, _⟩ | ⟨_, u⟩ | ⟨_, u⟩
  ·exact f.2
  ·omega
  ·omega
 ·rcases zero_words ha.1 h.symm with g | g
  ·subst g; exact ⟨0, sq_zero.1, fi_zero, by rw [un_zero]; omega⟩
  ·subst g; exact ⟨_, sq_zero.2, ha, h0⟩
theorem sq_mono {a b p q : Nat} (ha : Fi a) (hb : Fi b) (h0 : 0 ≤ Fp.un Ieee.double a) (h : Fp.un Ieee.double a ≤ Fp.un Ieee.double b) (hp : Ieee.double.sqrt a = some p) (hq : Ieee.double.sqrt b = some q) : Fp.un Ieee.double p ≤ Fp.un Ieee.double q := by
 rcases Int.lt_or_eq_of_le h0 with g | g
 ·exact (root_mono ha hb g h hp hq).2.2.2
 ·obtain ⟨q', e, _, k⟩ := sq_ok hb om
  rw [hq] at e
  obtain rfl := Option.some.inj e
  have : Fp.un Ieee.double p = 0 := by
   rcases zero_words ha.1 g.symm with g | g
   ·subst g; rw [sq_zero.1] at hp; obtain rfl := Option.some.inj hp; exact un_zero
   ·subst g; rw [sq_zero.2] at hp; obtain rfl := Option.some.inj hp; exact g.symm
  omega
theorem sqrt_run (w : World) (x : Nat) : (callFunc 127 #[.float .f64 x]).run Tryz.prog w = (Go.Extern.MathSqrt.sqrt #[.float .f64 x] >>= fun v => pure (Next.value v)).run Tryz.prog w := by kernel_rfl
theorem sqrt_ext (x r : Nat) (h : FloatKind.f64.format.sqrt x = some r) : Go.Extern.MathSqrt.sqrt #[.float .f64 x] = pure (.float .f64 r) := by
 conv => lhs; whnf
 rw [h]
theorem sqrt_any (x r : Nat) (h : Ieee.double.sqrt x = some r) (w : World) : (callFunc 127 #[.float .f64 x]).run Tryz.prog w = .ok (.value (.float .f64 r)) w := by
 rw [sqrt_run, sqrt_ext x r h]; rfl
theorem en_un {x y : Nat} (hx : Fi x) (hy : Fi y) : rvD x ≤ rvD y ↔ Fp.un Ieee.double x ≤ Fp.un Ieee.double y := by
 rw [← en_le hx.sane hy.sane, enW_fi hx, enW_fi hy, En.le_fn]
theorem lo_of_un {a x : Nat} (ha : Sane a) (hx : Fi x) (h : Fp.un Ieee.double a ≤ Fp.un Ieee.double x) : LoOk a (rvD x) := ⟨ha, by rw [← enW_fi hx]; exact (en_le ha hx.sane).2 h⟩
theorem hi_of_un {a x : Nat} (ha : Sane a) (hx : Fi x) (h : Fp.un Ieee.double x ≤ Fp.un Ieee.double a) : HiOk a (rvD x) := ⟨ha, by rw [← enW_fi hx]; exact (en_le hx.sane ha).2 h⟩
theorem un_of_lo {a x : Nat} (hx : Fi x) (h : LoOk a (rvD x)) : Fp.un Ieee.double a ≤ Fp.un Ieee.double x := by
 have k := h.2; rw [← enW_fi hx] at k; exact (en_le h.1 hx.sane).1 k
theorem un_of_hi {a x : Nat} (hx : Fi x) (h : HiOk a (rvD x)) : Fp.un Ieee.double x ≤ Fp.un Ieee.double a := by
 have k := h.2; rw [← enW_fi hx] at k; exact (en_le hx.sane h.1).1 k
def SqS (l h : Nat) (e : Rat) : Prop := ∃ x r, Fi x ∧ 0 ≤ Fp.un Ieee.double x ∧ Holds l h (rvD x) ∧ Ieee.double.sqrt x = some r ∧ e = rvD r
def absQ (p : Rat) : Rat := if p < 0 then -p else p
def AbsS (l h : Nat) (e : Rat) : Prop := ∃ p, Holds l h p ∧ e = absQ p
theorem rno_self {q : Nat} (h : Fi q) : RnO q (rvD q) := ⟨h.sane, fun y hy => ⟨fun g => (en_un hy h).1 g, fun g => (en_un h hy).1 g⟩⟩
theorem m_sqrt (x r : Nat) (h : Ieee.double.sqrt x = some r) (w : World) : Calls Tryz.prog 45 #[.float .f64 x] w fun e w' => e = .returned (.float .f64 r) ∧ w = w' := by
 have hs := fun w => sqrt_any x r h w
 clear h
 go_enter Tryz.func45, Tryz.ntmps45
 go_wp2
 go_ret
 exact ⟨rfl, rfl⟩
theorem iroot (up : Bool) (a q : Nat) (ha : Fi a) (hq : Ieee.double.sqrt a = some q) (hf : Fi q) (w : World) (hT : Tab w) : Calls Tryz.prog 128 #[.float .f64 a, .int .i64 (upM up)] w (EndF w up (rvD q)) := by
 have SQ := Hh (fun w => m_sqrt a q hq w)
 have LF := Hh (fun w hT => ileft a q q ha hf hf w hT)
 have ST := Hh (fun l hl w => istep up q l hf hl w)
 have HS := Hh (fun b c => step_end (up := up) (neg := b) (pos := c) hf (rno_self hf) (fun _ => Rat.le_refl) (fun _ => Rat.le_refl))
 have HT := Hh hT
 clear ha hf hq hT
 go_enter Tryz.func128, Tryz.ntmps128
 go_wp2_with fail
 refine (SQ.out _).mono ?_; rintro r1 w1 ⟨rfl, rfl⟩
 go_wp2_with fail
 refine (LF.out _ HT.out).mono ?_; rintro r2 w2 ⟨l, rfl, sl, _, _, hb2⟩
 have N1 := Hh sl.2
 clear sl
 go_wp2_with fail
 refine (ST.out _ N1.out _).mono ?_; rintro r3 w3 ⟨rfl, hb3⟩
 go_wp2
 go_ret
 exact ⟨_, rfl, HS.out _ _, hb2.trans hb3⟩
theorem lo_neg {a : Nat} {p : Rat} (h : LoOk a p) (g : 0 ≤ Fp.un Ieee.double a) : 0 ≤ p := by
 have k := (en_le fi_zero.sane h.1).2 (by rw [un_zero]; exact g)
 have k2 := En.trans k h.2
 rw [enW_fi fi_zero, rv_zero] at k2
 exact (En.le_fn _ _).1 k2
theorem hi_neg {a : Nat} {p : Rat} (h : HiOk a p) (g : Fp.un Ieee.double a ≤ 0) : p ≤ 0 := by
 have k := (en_le h.1 fi_zero.sane).2 (by rw [un_zero]; exact g)
 have k2 := En.trans h.2 k
 rw [enW_fi fi_zero, rv_zero] at k2
 exact (En.le_fn _ _).1 k2
theorem abs_pos {l h a b : Nat} {p : Rat} (k : Holds l h p) (g : 0 ≤ Fp.un Ieee.double l) (sa : Sane a) (sb : Sane b) (ua : Fp.un Ieee.double a = Fp.un Ieee.double l) (ub : Fp.un Ieee.double b = Fp.un Ieee.double h) : Holds a b (absQ p) := by
 have := lo_neg k.1 g
 unfold absQ
 rw [if_neg (by grind)]
 exact holds_un k sa sb ua ub
theorem abs_neg {l h a b : Nat} {p : Rat} (k : Holds l h p) (g : Fp.un Ieee.double h ≤ 0) (sa : Sane a) (sb : Sane b) (ua : Fp.un Ieee.double a = -Fp.un Ieee.double h) (ub : Fp.un Ieee.double b = -Fp.un Ieee.double l) : Holds a b (absQ p) := by
 have h0 := hi_neg k.2 g
 have e : absQ p = -p := by unfold absQ; split <;> grind
 rw [e]
 exact neg_holds k sa sb ua ub
theorem abs_both {l h a b n : Nat} {p : Rat} (k : Holds l h p) (sa : Sane a) (sb : Sane b) (ua : Fp.un Ieee.double a = 0) (sn : Sane n) (un : Fp.un Ieee.double n = -Fp.un Ieee.double l) (b1 : Fp.un Ieee.double n ≤ Fp.un Ieee.double b) (b2 : Fp.un Ieee.double h ≤ Fp.un Ieee.double b) : Holds a b (absQ p) := by
 have e0 : enW a = .fn 0 := (en_zero sa ua).2
 refine ⟨⟨sa, ?_⟩, ⟨sb, ?_⟩⟩
 ·rw [e0, En.le_fn]; unfold absQ; split <;> grind
 ·unfold absQ
  split
  ·exact En.trans (k.1.neg sn un).2 ((en_le sn sb).2 b1)
  ·exact En.trans k.2.2 ((en_le k.2.1 sb).2 b2)
theorem iAbs_n (l h : Nat) (i : Iv l h) (k : ¬ Full l h) (w : World) : Calls Tryz.prog 48 #[.agg #[.float .f64 l, .float .f64 h]] w (IvH w (AbsS l h)) := by
 have F1 := Hh (fun w => ifull l h i.sane.1 i.sane.2 w)
 rw [decide_eq_false k] at F1
 have EM := Hh iEmpty
 have HN := Hh (show ∀ e, ¬ AbsS l h e from fun e ⟨p, hp, _⟩ => k hp.full)
 clear i k
 obtain ⟨hwN, hB0, hB1⟩ := box2 w #[.float .f64 l, .float .f64 h] #[.float .f64 0, .float .f64 0] 30 30
 go_enter Tryz.func48, Tryz.ntmps48
 go_upto_region 1 with fail
 obtain ⟨W3, hW3⟩ : ∃ W3, W3 = ((w.alloc (.cells #[.float .f64 l, .float .f64 h] 30)).alloc (.cells #[.float .f64 0, .float .f64 0] 30)) := ⟨_, rfl⟩
 have hs3 : W3.heap.size = w.heap.size + 2 := by rw [hW3]; simp
 rw [← hW3] at hwN hB0 hB1 ⊢
 clear hW3
 obtain ⟨b0, hb0⟩ : ∃ b, b = w.heap.size := ⟨_, rfl⟩
 have HS := Hh (And.intro hs3 hb0)
 rw [← hb0] at hB0 hB1 ⊢
 clear hb0 hs3
 obtain ⟨x00, x01⟩ := pair_cells hB0
 have l0 : b0 + 1 < W3.heap.size := by have := HS.out; omega
 go_wp2_with fail
 refine (F1.out _).mono ?_; rintro r1 w1 ⟨rfl, hb1⟩
 go_wp2_with fail
 refine (EM.out _).mono ?_; rintro rz wz ⟨rfl, hbz⟩
 have hcz := hb1.trans hbz
 have hBr := (hcz.block (b0 + 1) (by have := HS.out; omega)).trans hB1
 obtain ⟨k0, k1, kf, kg, k2, r0, r1⟩ := iv_block hBr (.float .f64 9218868437227405312) (.float .f64 18442240474082181120)
 have kf0 := kf 0; have kf1 := kf 1; have kg1 := kg 1
 have hww := hwN.trans hcz
 go_wp2
 (try simp only [Exit.inBlock, Exit.then]); refine bodyPost_ret (v := .agg #[.float .f64 9218868437227405312, .float .f64 18442240474082181120]) (by simp [results, Tryz.results48, go_sem, r0, r1]) rfl ?_
 exact zz119
theorem zz31 {p : Prop} (h : p := by
 obtain ⟨e0, he0⟩ := HX.out
 exact ⟨a, b, rfl, .inl (key e0 he0).full, key, (hww.setCell (p := ⟨b0 + 1, 0, none⟩) (by have := HS.out; show w.heap.size ≤ b0 + 1; omega) _).setCell (p := ⟨b0 + 1, 1, none⟩) (by have := HS.out; show w.heap.size ≤ b0 + 1; omega) _⟩) : p := h
theorem iAbs_pos (l h : Nat) (i : Iv l h) (k : Full l h) (g : 0 ≤ Fp.un Ieee.double l) (w : World) : Calls Tryz.prog 48 #[.agg #[.float .f64 l, .float .f64 h]] w (IvH w (AbsS l h)) := by
 have F1 := Hh (fun w => ifull l h i.sane.1 i.sane.2 w)
 rw [decide_eq_true k] at F1
 have HX := Hh (show ∃ e, AbsS l h e from by obtain ⟨p, hp⟩ := k.point; exact ⟨_, p, hp, rfl⟩)
 have c1 := c_ge (x := l) (y := 0) i.sane.1.2 dc
 rw [un_zero, decide_eq_true g] at c1
 have MK := Hh (fun w => imake l h i.sane.1 i.sane.2 w)
 have HG := Hh g
 clear i k g
 obtain ⟨hwN, hB0, hB1⟩ := box2 w #[.float .f64 l, .float .f64 h] #[.float .f64 0, .float .f64 0] 30 30
 go_enter Tryz.func48, Tryz.ntmps48
 go_upto_region 1 with fail
 obtain ⟨W3, hW3⟩ : ∃ W3, W3 = ((w.alloc (.cells #[.float .f64 l, .float .f64 h] 30)).alloc (.cells #[.float .f64 0, .float .f64 0] 30)) := ⟨_, rfl⟩
 have hs3 : W3.heap.size = w.heap.size + 2 := by rw [hW3]; simp
 rw [← hW3] at hwN hB0 hB1 ⊢
 clear hW3
 obtain ⟨b0, hb0⟩ : ∃ b, b = w.heap.size := ⟨_, rfl⟩
 have HS := Hh (And.intro hs3 hb0)
 rw [← hb0] at hB0 hB1 ⊢
 clear hb0 hs3
 obtain ⟨x00, x01⟩ := pair_cells hB0
 have l0 : b0 + 1 < W3.heap.size := by have := HS.out; omega
 go_wp2_with fail
 refine (F1.out _).mono ?_; rintro r1 w1 ⟨rfl, hb1⟩
 replace x00 := (hb1.cells _ _ (show b0 < _ from by have := l0; omega)).trans x00
 replace x01 := (hb1.cells _ _ (show b0 < _ from by have := l0; omega)).trans x01
 replace l0 := Nat.lt_of_lt_of_le l0 hb1.size
 go_wp2_with fail
 refine (MK.out _).mono ?_; rintro r2 w2 ⟨a, b, rfl, sa, sb, ua, ub, hb2⟩
 have hc2 := hb1.trans hb2
 have HE := Hh (And.intro sa (And.intro sb (And.intro ua ub)))
 clear sa sb ua ub
 have hBr := (hc2.block (b0 + 1) (by have := HS.out; omega)).trans hB1
 obtain ⟨k0, k1, kf, kg, k2, r0, r1⟩ := iv_block hBr (.float .f64 a) (.float .f64 b)
 have kf0 := kf 0; have kf1 := kf 1; have kg1 := kg 1
 have hww := hwN.trans hc2
 go_wp2
 (try simp only [Exit.inBlock, Exit.then]); refine bodyPost_ret (v := .agg #[.float .f64 a, .float .f64 b]) (by simp [results, Tryz.results48, go_sem, r0, r1]) rfl ?_
 have key : ∀ e, AbsS l h e → Holds a b e := by
  rintro _ ⟨p, hp, rfl⟩
  exact abs_pos hp HG.out HE.out.1 HE.out.2.1 HE.out.2.2.1 HE.out.2.2.2
 exact zz31
theorem iAbs_neg (l h : Nat) (i : Iv l h) (k : Full l h) (g : ¬ 0 ≤ Fp.un Ieee.double l) (g2 : Fp.un Ieee.double h ≤ 0) (w : World) : Calls Tryz.prog 48 #[.agg #[.float .f64 l, .float .f64 h]] w (IvH w (AbsS l h)) := by
 have F1 := Hh (fun w => ifull l h i.sane.1 i.sane.2 w)
 rw [decide_eq_true k] at F1
 have HX := Hh (show ∃ e, AbsS l h e from by obtain ⟨p, hp⟩ := k.point; exact ⟨_, p, hp, rfl⟩)
 have c1 := c_ge (x := l) (y := 0) i.sane.1.2 dc
 rw [un_zero, decide_eq_false g] at c1
 have c2 := c_le (x := h) (y := 0) i.sane.2.2 dc
 rw [un_zero, decide_eq_true g2] at c2
 obtain ⟨n1, u1_⟩ := neg_sane i.sane.1
 obtain ⟨n2, u2_⟩ := neg_sane i.sane.2
 have MK := Hh (fun w => imake _ _ n2 n1 w)
 have HU := Hh (And.intro u1_ u2_)
 have HG := Hh g2
 clear n1 n2 u1_ u2_ i k g g2
 obtain ⟨hwN, hB0, hB1⟩ := box2 w #[.float .f64 l, .float .f64 h] #[.float .f64 0, .float .f64 0] 30 30
 go_enter Tryz.func48, Tryz.ntmps48
 go_upto_region 1 with fail
 obtain ⟨W3, hW3⟩ : ∃ W3, W3 = ((w.alloc (.cells #[.float .f64 l, .float .f64 h] 30)).alloc (.cells #[.float .f64 0, .float .f64 0] 30)) := ⟨_, rfl⟩
 have hs3 : W3.heap.size = w.heap.size + 2 := by rw [hW3]; simp
 rw [← hW3] at hwN hB0 hB1 ⊢
 clear hW3
 obtain ⟨b0, hb0⟩ : ∃ b, b = w.heap.size := ⟨_, rfl⟩
 have HS := Hh (And.intro hs3 hb0)
 rw [← hb0] at hB0 hB1 ⊢
 clear hb0 hs3
 obtain ⟨x00, x01⟩ := pair_cells hB0
 have l0 : b0 + 1 < W3.heap.size := by have := HS.out; omega
 go_wp2_with fail
 refine (F1.out _).mono ?_; rintro r1 w1 ⟨rfl, hb1⟩
 replace x00 := (hb1.cells _ _ (show b0 < _ from by have := l0; omega)).trans x00
 replace x01 := (hb1.cells _ _ (show b0 < _ from by have := l0; omega)).trans x01
 replace l0 := Nat.lt_of_lt_of_le l0 hb1.size
 go_wp2_with fail
 refine (MK.out _).mono ?_; rintro r2 w2 ⟨a, b, rfl, sa, sb, ua, ub, hb2⟩
 have hc2 := hb1.trans hb2
 have HE := Hh (And.intro sa (And.intro sb (And.intro ua ub)))
 clear sa sb ua ub
 have hBr := (hc2.block (b0 + 1) (by have := HS.out; omega)).trans hB1
 obtain ⟨k0, k1, kf, kg, k2, r0, r1⟩ := iv_block hBr (.float .f64 a) (.float .f64 b)
 have kf0 := kf 0; have kf1 := kf 1; have kg1 := kg 1
 have hww := hwN.trans hc2
 go_wp2
 (try simp only [Exit.inBlock, Exit.then]); refine bodyPost_ret (v := .agg #[.float .f64 a, .float .f64 b]) (by simp [results, Tryz.results48, go_sem, r0, r1]) rfl ?_
 have key : ∀ e, AbsS l h e → Holds a b e := by
  rintro _ ⟨p, hp, rfl⟩
  exact abs_neg hp HG.out HE.out.1 HE.out.2.1 (HE.out.2.2.1.trans HU.out.2) (HE.out.2.2.2.trans HU.out.1)
 exact zz31
theorem iAbs_both (l h : Nat) (i : Iv l h) (k : Full l h) (g : ¬ 0 ≤ Fp.un Ieee.double l) (g2 : ¬ Fp.un Ieee.double h ≤ 0) (w : World) : Calls Tryz.prog 48 #[.agg #[.float .f64 l, .float .f64 h]] w (IvH w (AbsS l h)) := by
 have F1 := Hh (fun w => ifull l h i.sane.1 i.sane.2 w)
 rw [decide_eq_true k] at F1
 have HX := Hh (show ∃ e, AbsS l h e from by obtain ⟨p, hp⟩ := k.point; exact ⟨_, p, hp, rfl⟩)
 have c1 := c_ge (x := l) (y := 0) i.sane.1.2 dc
 rw [un_zero, decide_eq_false g] at c1
 have c2 := c_le (x := h) (y := 0) i.sane.2.2 dc
 rw [un_zero, decide_eq_false g2] at c2
 obtain ⟨n1, u1_⟩ := neg_sane i.sane.1
 have hmx := fun ts t w => run_max_fl n1 i.sane.2 Tryz.prog ts t w
 obtain ⟨m1, m2, m3, _⟩ := max_un2 n1 i.sane.2
 have MK := Hh (fun w => imake 0 _ fi_zero.sane m1 w)
 have HU := Hh (And.intro n1 (And.intro u1_ (And.intro m2 m3)))
 clear n1 u1_ m1 m2 m3 i k g g2
 obtain ⟨hwN, hB0, hB1⟩ := box2 w #[.float .f64 l, .float .f64 h] #[.float .f64 0, .float .f64 0] 30 30
 go_enter Tryz.func48, Tryz.ntmps48
 go_upto_region 1 with fail
 obtain ⟨W3, hW3⟩ : ∃ W3, W3 = ((w.alloc (.cells #[.float .f64 l, .float .f64 h] 30)).alloc (.cells #[.float .f64 0, .float .f64 0] 30)) := ⟨_, rfl⟩
 have hs3 : W3.heap.size = w.heap.size + 2 := by rw [hW3]; simp
 rw [← hW3] at hwN hB0 hB1 ⊢
 clear hW3
 obtain ⟨b0, hb0⟩ : ∃ b, b = w.heap.size := ⟨_, rfl⟩
 have HS := Hh (And.intro hs3 hb0)
 rw [← hb0] at hB0 hB1 ⊢
 clear hb0 hs3
 obtain ⟨x00, x01⟩ := pair_cells hB0
 have l0 : b0 + 1 < W3.heap.size := by have := HS.out; omega
 go_wp2_with fail
 refine (F1.out _).mono ?_; rintro r1 w1 ⟨rfl, hb1⟩
 replace x00 := (hb1.cells _ _ (show b0 < _ from by have := l0; omega)).trans x00
 replace x01 := (hb1.cells _ _ (show b0 < _ from by have := l0; omega)).trans x01
 replace l0 := Nat.lt_of_lt_of_le l0 hb1.size
 go_wp2_with fail
 refine (MK.out _).mono ?_; rintro r2 w2 ⟨a, b, rfl, sa, sb, ua, ub, hb2⟩
 have hc2 := hb1.trans hb2
 have HE := Hh (And.intro sa (And.intro sb (And.intro ua ub)))
 clear sa sb ua ub
 have hBr := (hc2.block (b0 + 1) (by have := HS.out; omega)).trans hB1
 obtain ⟨k0, k1, kf, kg, k2, r0, r1⟩ := iv_block hBr (.float .f64 a) (.float .f64 b)
 have kf0 := kf 0; have kf1 := kf 1; have kg1 := kg 1
 have hww := hwN.trans hc2
 go_wp2
 (try simp only [Exit.inBlock, Exit.then]); refine bodyPost_ret (v := .agg #[.float .f64 a, .float .f64 b]) (by simp [results, Tryz.results48, go_sem, r0, r1]) rfl ?_
 have key : ∀ e, AbsS l h e → Holds a b e := by
  rintro _ ⟨p, hp, rfl⟩
  exact abs_both hp HE.out.1 HE.out.2.1 (HE.out.2.2.1.trans un_zero) HU.out.1 HU.out.2.1 (by rw [HE.out.2.2.2]; exact HU.out.2.2.1) (by rw [HE.out.2.2.2]; exact HU.out.2.2.2)
 exact zz31
theorem iAbs (l h : Nat) (i : Iv l h) (w : World) : Calls Tryz.prog 48 #[.agg #[.float .f64 l, .float .f64 h]] w (IvH w (AbsS l h)) := by
 by_cases k : Full l h
 ·by_cases g : 0 ≤ Fp.un Ieee.double l
  ·exact iAbs_pos l h i k g w
  ·by_cases g2 : Fp.un Ieee.double h ≤ 0
   ·exact iAbs_neg l h i k g g2 w
   ·exact iAbs_both l h i k g g2 w
 ·exact iAbs_n l h i k w
theorem sq_start {l h : Nat} (k : Full l h) (g : 0 ≤ Fp.un Ieee.double h) : Fi (maxF l 0) ∧ 0 ≤ Fp.un Ieee.double (maxF l 0) ∧ Fp.un Ieee.double l ≤ Fp.un Ieee.double (maxF l 0) ∧ (∀ x, Fi x → 0 ≤ Fp.un Ieee.double x → Fp.un Ieee.double l ≤ Fp.un Ieee.double x → Fp.un Ieee.double (maxF l 0) ≤ Fp.un Ieee.double x) ∧ Holds l h (rvD (maxF l 0)) := by
 obtain ⟨s1, m1, m2, m3⟩ := max_un2 k.1 fi_zero.sane
 rw [un_zero] at m2
 have hle := (en_le k.1 k.2.1).1 k.2.2.1
 have T : 0 < 2 ^ Fp.dtop := Nat.two_pow_pos _
 have hf : Fi (maxF l 0) := by
  rcases sane_cases s1 with ⟨f, _⟩ | ⟨e, u⟩ | ⟨_, u⟩
  ·exact f
  ·rcases m3 with m3 | m3
   ·rw [m3] at e; exact absurd e k.2.2.2.1
   ·rw [m3]; exact fi_zero
  ·omega
 have hh : Fp.un Ieee.double (maxF l 0) ≤ Fp.un Ieee.double h := by
  rcases m3 with m3 | m3
  ·rw [m3]; exact hle
  ·rw [m3, un_zero]; exact g
 refine ⟨hf, m2, m1, fun x _ h0 hx => ?_, lo_of_un k.1 hf m1, hi_of_un k.2.1 hf hh⟩
 rcases m3 with m3 | m3
 ·rw [m3]; exact hx
 ·rw [m3, un_zero]; exact h0
theorem sq_lo {l h x1 a q1 : Nat} (k : Full l h) (g : 0 ≤ Fp.un Ieee.double h) (hq1 : Ieee.double.sqrt (maxF l 0) = some q1) (f1 : Fi q1) (e1 : EndOk false x1 (rvD q1)) (sa : Sane a) (ua : Fp.un Ieee.double a = Fp.un Ieee.double x1) {x r : Nat} (fx : Fi x) (x0 : 0 ≤ Fp.un Ieee.double x) (hx : Holds l h (rvD x)) (hr : Ieee.double.sqrt x = some r) (fr : Fi r) : LoOk a (rvD r) := by
 obtain ⟨a1, a2, a3, a4, _⟩ := sq_start k g
 have m := sq_mono a1 fx a2 (a4 x fx x0 (un_of_lo fx hx.1)) hq1 hr
 exact LoOk.un (LoOk.weak e1 ((en_un f1 fr).2 m)) sa ua
theorem sq_hi {l h x2 b q2 : Nat} (fh : Fi h) (hq2 : Ieee.double.sqrt h = some q2) (f2 : Fi q2) (e2 : EndOk true x2 (rvD q2)) (sb : Sane b) (ub : Fp.un Ieee.double b = Fp.un Ieee.double x2) {x r : Nat} (fx : Fi x) (x0 : 0 ≤ Fp.un Ieee.double x) (hx : Holds l h (rvD x)) (hr : Ieee.double.sqrt x = some r) (fr : Fi r) : HiOk b (rvD r) := by
 have m := sq_mono fx fh x0 (un_of_hi fx hx.2) hr hq2
 exact HiOk.un (HiOk.weak e2 ((en_un fr f2).2 m)) sb ub
theorem SqS.fi {l h : Nat} {e : Rat} (k : SqS l h e) : ∃ x r, Fi x ∧ 0 ≤ Fp.un Ieee.double x ∧ Holds l h (rvD x) ∧ Ieee.double.sqrt x = some r ∧ Fi r ∧ e = rvD r := by
 obtain ⟨x, r, h1, h2, h3, h4, h5⟩ := k
 obtain ⟨q, e, f, _⟩ := sq_ok h1 h2
 rw [h4] at e
 obtain rfl := Option.some.inj e
 exact ⟨x, r, h1, h2, h3, h4, f, h5⟩
theorem zz37 {p : Prop} (h : p := by
 go_wp2_with fail
 refine (EM.out _).mono ?_; rintro rz wz ⟨rfl, hbz⟩
 have hcz := hb1.trans hbz
 have hBr := (hcz.block (b0 + 1) (by have := HS.out; omega)).trans hB1
 obtain ⟨k0, k1, kf, kg, k2, r0, r1⟩ := iv_block hBr (.float .f64 9218868437227405312) (.float .f64 18442240474082181120)
 have kf0 := kf 0; have kf1 := kf 1; have kg1 := kg 1
 have hww := hwN.trans hcz
 go_wp2
 (try simp only [Exit.inBlock, Exit.then]); refine bodyPost_ret (v := .agg #[.float .f64 9218868437227405312, .float .f64 18442240474082181120]) (by simp [results, Tryz.results46, go_sem, r0, r1]) rfl ?_
 exact zz119) : p := h
theorem iSqrt_n (l h : Nat) (i : Iv l h) (k : ¬ Full l h) (w : World) (hT : Tab w) : Calls Tryz.prog 46 #[.agg #[.float .f64 l, .float .f64 h]] w (IvH w (SqS l h)) := by
 have F1 := Hh (fun w => ifull l h i.sane.1 i.sane.2 w)
 rw [decide_eq_false k] at F1
 have EM := Hh iEmpty
 have HN := Hh (show ∀ e, ¬ SqS l h e from fun e ⟨_, _, _, _, hp, _⟩ => k hp.full)
 clear i k
 obtain ⟨hwN, hB0, hB1⟩ := box2 w #[.float .f64 l, .float .f64 h] #[.float .f64 0, .float .f64 0] 30 30
 go_enter Tryz.func46, Tryz.ntmps46
 go_upto_region 1 with fail
 obtain ⟨W3, hW3⟩ : ∃ W3, W3 = ((w.alloc (.cells #[.float .f64 l, .float .f64 h] 30)).alloc (.cells #[.float .f64 0, .float .f64 0] 30)) := ⟨_, rfl⟩
 have hs3 : W3.heap.size = w.heap.size + 2 := by rw [hW3]; simp
 rw [← hW3] at hwN hB0 hB1 ⊢
 clear hW3
 obtain ⟨b0, hb0⟩ : ∃ b, b = w.heap.size := ⟨_, rfl⟩
 have HS := Hh (And.intro hs3 hb0)
 rw [← hb0] at hB0 hB1 ⊢
 clear hb0 hs3
 obtain ⟨x00, x01⟩ := pair_cells hB0
 have l0 : b0 + 1 < W3.heap.size := by have := HS.out; omega
 go_wp2_with fail
 refine (F1.out _).mono ?_; rintro r1 w1 ⟨rfl, hb1⟩
 exact zz37
theorem iSqrt_low (l h : Nat) (i : Iv l h) (k : Full l h) (g : ¬ 0 ≤ Fp.un Ieee.double h) (w : World) (hT : Tab w) : Calls Tryz.prog 46 #[.agg #[.float .f64 l, .float .f64 h]] w (IvH w (SqS l h)) := by
 have F1 := Hh (fun w => ifull l h i.sane.1 i.sane.2 w)
 rw [decide_eq_true k] at F1
 have c1 := c_lt (x := h) (y := 0) i.sane.2.2 dc
 rw [un_zero, decide_eq_true om] at c1
 have EM := Hh iEmpty
 have HN := Hh (show ∀ e, ¬ SqS l h e from fun e ⟨x, _, fx, x0, hp, _⟩ => g (by have := un_of_hi fx hp.2; omega))
 clear i k g
 obtain ⟨hwN, hB0, hB1⟩ := box2 w #[.float .f64 l, .float .f64 h] #[.float .f64 0, .float .f64 0] 30 30
 go_enter Tryz.func46, Tryz.ntmps46
 go_upto_region 1 with fail
 obtain ⟨W3, hW3⟩ : ∃ W3, W3 = ((w.alloc (.cells #[.float .f64 l, .float .f64 h] 30)).alloc (.cells #[.float .f64 0, .float .f64 0] 30)) := ⟨_, rfl⟩
 have hs3 : W3.heap.size = w.heap.size + 2 := by rw [hW3]; simp
 rw [← hW3] at hwN hB0 hB1 ⊢
 clear hW3
 obtain ⟨b0, hb0⟩ : ∃ b, b = w.heap.size := ⟨_, rfl⟩
 have HS := Hh (And.intro hs3 hb0)
 rw [← hb0] at hB0 hB1 ⊢
 clear hb0 hs3
 obtain ⟨x00, x01⟩ := pair_cells hB0
 have l0 : b0 + 1 < W3.heap.size := by have := HS.out; omega
 go_wp2_with fail
 refine (F1.out _).mono ?_; rintro r1 w1 ⟨rfl, hb1⟩
 replace x00 := (hb1.cells _ _ (show b0 < _ from by have := l0; omega)).trans x00
 replace x01 := (hb1.cells _ _ (show b0 < _ from by have := l0; omega)).trans x01
 replace l0 := Nat.lt_of_lt_of_le l0 hb1.size
 exact zz37
theorem iSqrt_fin (l h : Nat) (i : Iv l h) (k : Full l h) (g : 0 ≤ Fp.un Ieee.double h) (fh : Fi h) (w : World) (hT : Tab w) : Calls Tryz.prog 46 #[.agg #[.float .f64 l, .float .f64 h]] w (IvH w (SqS l h)) := by
 have F1 := Hh (fun w => ifull l h i.sane.1 i.sane.2 w)
 rw [decide_eq_true k] at F1
 have c1 := c_lt (x := h) (y := 0) i.sane.2.2 dc
 rw [un_zero, decide_eq_false om] at c1
 obtain ⟨a1, a2, a3, a4, a5⟩ := sq_start k g
 obtain ⟨q1, hq1, f1, p1⟩ := sq_ok a1 a2
 have R1 := Hh (fun w hT => iroot false (maxF l 0) q1 a1 hq1 f1 w hT)
 have hmx := fun ts t w => run_max_fl i.sane.1 fi_zero.sane Tryz.prog ts t w
 have HX := Hh (show ∃ e, SqS l h e from ⟨_, _, q1, a1, a2, a5, hq1, rfl⟩)
 have FH := Hh (fun w => ifinite h i.sane.2 w)
 rw [decide_eq_true fh] at FH
 have HK := Hh (And.intro k (And.intro g (And.intro hq1 f1)))
 have MK := Hh (fun (x y : Nat) hx hy w => imake x y hx hy w)
 obtain ⟨q2, hq2, f2, p2_⟩ := sq_ok fh g
 have R2 := Hh (fun w hT => iroot true h q2 fh hq2 f2 w hT)
 have HK2 := Hh (And.intro fh (And.intro hq2 f2))
 clear hq2 f2 p2_
 generalize hm : maxF l 0 = m at *
 have HM := Hh hm
 have HT := Hh hT
 clear hm hT i k g fh a1 a2 a3 a4 a5 hq1 f1 p1
 obtain ⟨hwN, hB0, hB1⟩ := box2 w #[.float .f64 l, .float .f64 h] #[.float .f64 0, .float .f64 0] 30 30
 go_enter Tryz.func46, Tryz.ntmps46
 go_upto_region 1 with fail
 obtain ⟨W3, hW3⟩ : ∃ W3, W3 = ((w.alloc (.cells #[.float .f64 l, .float .f64 h] 30)).alloc (.cells #[.float .f64 0, .float .f64 0] 30)) := ⟨_, rfl⟩
 have hs3 : W3.heap.size = w.heap.size + 2 := by rw [hW3]; simp
 rw [← hW3] at hwN hB0 hB1 ⊢
 clear hW3
 obtain ⟨b0, hb0⟩ : ∃ b, b = w.heap.size := ⟨_, rfl⟩
 have HS := Hh (And.intro hs3 hb0)
 rw [← hb0] at hB0 hB1 ⊢
 clear hb0 hs3
 obtain ⟨x00, x01⟩ := pair_cells hB0
 have l0 : b0 + 1 < W3.heap.size := by have := HS.out; omega
 go_wp2_with fail
 refine (F1.out _).mono ?_; rintro r1 w1 ⟨rfl, hb1⟩
 replace x00 := (hb1.cells _ _ (show b0 < _ from by have := l0; omega)).trans x00
 replace x01 := (hb1.cells _ _ (show b0 < _ from by have := l0; omega)).trans x01
 replace l0 := Nat.lt_of_lt_of_le l0 hb1.size
 go_upto_region 3 with fail
 refine wp_region_schG (fun W => W.cell? ⟨b0, 0, none⟩ = some (.float .f64 l) ∧ W.cell? ⟨b0, 1, none⟩ = some (.float .f64 h) ∧ b0 < W.heap.size ∧ Within W3 W) 6 (.firm 0 (.firm 1 (.firm 3 (.firm 4 (.one 2 (.firm 5 (.one 6 .nil))))))) kr kr ⟨x00, x01, by omega, hb1⟩ ?_
 rintro w0 ⟨p0, p1, pl, hw0⟩
 try simp only [pu]
 iterate 4
  apply sch_firm rfl rfl wi
  ·intro wq hq
   have hcq := hq.cells
   clear hq
   go_simp
   rfl
  try simp only [pu]
 refine sch_one rfl rfl (fun K hK => ?_)
 go_simp
 refine hK _ _ (fun _ => wi) ?_
 clear hK K
 try simp only [pu]
 apply sch_firm rfl rfl wi
 ·intro wq hq
  have hcq := hq.cells
  clear hq
  go_simp
  rfl
 try simp only [pu]
 refine sch_one rfl rfl (fun K hK => ?_)
 go_simp
 refine hK _ _ ab ?_
 clear hK K
 try simp only [pu]
 refine sch_nil ?_
 have hc1 := hw0.drew
 go_wp2_with fail
 refine (FH.out _).mono ?_; rintro r3 w3 ⟨rfl, hb3⟩
 replace hc1 := hc1.trans hb3
 go_wp2_with fail
 refine (R2.out _ (HT.out.of (hwN.trans hc1))).mono ?_; rintro r4 w4 ⟨x2, rfl, e2, hb4⟩
 replace hc1 := hc1.trans hb4
 go_wp2_with fail
 refine (R1.out _ (HT.out.of (hwN.trans hc1))).mono ?_; rintro r5 w5 ⟨x1, rfl, e1, hb5⟩
 replace hc1 := hc1.trans hb5
 go_wp2_with fail
 refine (MK.out x1 x2 e1.sane e2.sane _).mono ?_; rintro r6 w6 ⟨a, b, rfl, sa, sb, ua, ub, hb6⟩
 replace hc1 := hc1.trans hb6
 have HE := Hh (And.intro e1 (And.intro sa (And.intro sb (And.intro ua ub))))
 have HE2 := Hh e2
 clear e2
 clear e1 sa sb ua ub
 have hBr := (hc1.block (b0 + 1) (by have := HS.out; omega)).trans hB1
 obtain ⟨k0, k1, kf, kg, k2, r0, r1⟩ := iv_block hBr (.float .f64 a) (.float .f64 b)
 have kf0 := kf 0; have kf1 := kf 1; have kg1 := kg 1
 have hww := hwN.trans hc1
 go_wp2
 (try simp only [Exit.inBlock, Exit.then]); refine bodyPost_ret (v := .agg #[.float .f64 a, .float .f64 b]) (by simp [results, Tryz.results46, go_sem, r0, r1]) rfl ?_
 have key : ∀ e, SqS l h e → Holds a b e := by
  intro e hS
  obtain ⟨x, r, fx, x0, hx, hr, fr, rfl⟩ := hS.fi
  refine ⟨sq_lo HK.out.1 HK.out.2.1 (HM.out ▸ HK.out.2.2.1) HK.out.2.2.2 HE.out.1 HE.out.2.1 HE.out.2.2.2.1 fx x0 hx hr fr, ?_⟩
  exact sq_hi HK2.out.1 HK2.out.2.1 HK2.out.2.2 HE2.out HE.out.2.2.1 HE.out.2.2.2.2 fx x0 hx hr fr
 exact zz31
theorem iSqrt_inf (l h : Nat) (i : Iv l h) (k : Full l h) (g : 0 ≤ Fp.un Ieee.double h) (fh : ¬ Fi h) (w : World) (hT : Tab w) : Calls Tryz.prog 46 #[.agg #[.float .f64 l, .float .f64 h]] w (IvH w (SqS l h)) := by
 have F1 := Hh (fun w => ifull l h i.sane.1 i.sane.2 w)
 rw [decide_eq_true k] at F1
 have c1 := c_lt (x := h) (y := 0) i.sane.2.2 dc
 rw [un_zero, decide_eq_false om] at c1
 obtain ⟨a1, a2, a3, a4, a5⟩ := sq_start k g
 obtain ⟨q1, hq1, f1, p1⟩ := sq_ok a1 a2
 have R1 := Hh (fun w hT => iroot false (maxF l 0) q1 a1 hq1 f1 w hT)
 have hmx := fun ts t w => run_max_fl i.sane.1 fi_zero.sane Tryz.prog ts t w
 have HX := Hh (show ∃ e, SqS l h e from ⟨_, _, q1, a1, a2, a5, hq1, rfl⟩)
 have FH := Hh (fun w => ifinite h i.sane.2 w)
 rw [decide_eq_false fh] at FH
 have HK := Hh (And.intro k (And.intro g (And.intro hq1 f1)))
 have MK := Hh (fun (x y : Nat) hx hy w => imake x y hx hy w)
 have HK2 := Hh (And.intro fh i.sane.2)
 generalize hm : maxF l 0 = m at *
 have HM := Hh hm
 have HT := Hh hT
 clear hm hT i k g fh a1 a2 a3 a4 a5 hq1 f1 p1
 obtain ⟨hwN, hB0, hB1⟩ := box2 w #[.float .f64 l, .float .f64 h] #[.float .f64 0, .float .f64 0] 30 30
 go_enter Tryz.func46, Tryz.ntmps46
 go_upto_region 1 with fail
 obtain ⟨W3, hW3⟩ : ∃ W3, W3 = ((w.alloc (.cells #[.float .f64 l, .float .f64 h] 30)).alloc (.cells #[.float .f64 0, .float .f64 0] 30)) := ⟨_, rfl⟩
 have hs3 : W3.heap.size = w.heap.size + 2 := by rw [hW3]; simp
 rw [← hW3] at hwN hB0 hB1 ⊢
 clear hW3
 obtain ⟨b0, hb0⟩ : ∃ b, b = w.heap.size := ⟨_, rfl⟩
 have HS := Hh (And.intro hs3 hb0)
 rw [← hb0] at hB0 hB1 ⊢
 clear hb0 hs3
 obtain ⟨x00, x01⟩ := pair_cells hB0
 have l0 : b0 + 1 < W3.heap.size := by have := HS.out; omega
 go_wp2_with fail
 refine (F1.out _).mono ?_; rintro r1 w1 ⟨rfl, hb1⟩
 replace x00 := (hb1.cells _ _ (show b0 < _ from by have := l0; omega)).trans x00
 replace x01 := (hb1.cells _ _ (show b0 < _ from by have := l0; omega)).trans x01
 replace l0 := Nat.lt_of_lt_of_le l0 hb1.size
 go_upto_region 3 with fail
 refine wp_region_schG (fun W => W.cell? ⟨b0, 0, none⟩ = some (.float .f64 l) ∧ W.cell? ⟨b0, 1, none⟩ = some (.float .f64 h) ∧ b0 < W.heap.size ∧ Within W3 W) 6 (.firm 0 (.firm 1 (.firm 3 (.firm 4 (.one 2 (.firm 5 (.one 6 .nil))))))) kr kr ⟨x00, x01, by omega, hb1⟩ ?_
 rintro w0 ⟨p0, p1, pl, hw0⟩
 try simp only [pu]
 iterate 4
  apply sch_firm rfl rfl wi
  ·intro wq hq
   have hcq := hq.cells
   clear hq
   go_simp
   rfl
  try simp only [pu]
 refine sch_one rfl rfl (fun K hK => ?_)
 go_simp
 refine hK _ _ (fun _ => wi) ?_
 clear hK K
 try simp only [pu]
 apply sch_firm rfl rfl wi
 ·intro wq hq
  have hcq := hq.cells
  clear hq
  go_simp
  rfl
 try simp only [pu]
 refine sch_one rfl rfl (fun K hK => ?_)
 go_simp
 refine hK _ _ ab ?_
 clear hK K
 try simp only [pu]
 refine sch_nil ?_
 have hc1 := hw0.drew
 go_wp2_with fail
 refine (FH.out _).mono ?_; rintro r3 w3 ⟨rfl, hb3⟩
 replace hc1 := hc1.trans hb3
 go_wp2_with fail
 refine (R1.out _ (HT.out.of (hwN.trans hc1))).mono ?_; rintro r5 w5 ⟨x1, rfl, e1, hb5⟩
 replace hc1 := hc1.trans hb5
 go_wp2_with fail
 refine (MK.out x1 h e1.sane HK2.out.2 _).mono ?_; rintro r6 w6 ⟨a, b, rfl, sa, sb, ua, ub, hb6⟩
 replace hc1 := hc1.trans hb6
 have HE := Hh (And.intro e1 (And.intro sa (And.intro sb (And.intro ua ub))))
 clear e1 sa sb ua ub
 have hBr := (hc1.block (b0 + 1) (by have := HS.out; omega)).trans hB1
 obtain ⟨k0, k1, kf, kg, k2, r0, r1⟩ := iv_block hBr (.float .f64 a) (.float .f64 b)
 have kf0 := kf 0; have kf1 := kf 1; have kg1 := kg 1
 have hww := hwN.trans hc1
 go_wp2
 (try simp only [Exit.inBlock, Exit.then]); refine bodyPost_ret (v := .agg #[.float .f64 a, .float .f64 b]) (by simp [results, Tryz.results46, go_sem, r0, r1]) rfl ?_
 have key : ∀ e, SqS l h e → Holds a b e := by
  intro e hS
  obtain ⟨x, r, fx, x0, hx, hr, fr, rfl⟩ := hS.fi
  refine ⟨sq_lo HK.out.1 HK.out.2.1 (HM.out ▸ HK.out.2.2.1) HK.out.2.2.2 HE.out.1 HE.out.2.1 HE.out.2.2.2.1 fx x0 hx hr fr, ?_⟩
  exact HiOk.un ⟨HK2.out.2, by rw [hx.2.not HK2.out.1]; exact le_hi _⟩ HE.out.2.2.1 HE.out.2.2.2.2
 exact zz31
theorem iSqrt (l h : Nat) (i : Iv l h) (w : World) (hT : Tab w) : Calls Tryz.prog 46 #[.agg #[.float .f64 l, .float .f64 h]] w (IvH w (SqS l h)) := by
 by_cases k : Full l h
 ·by_cases g : 0 ≤ Fp.un Ieee.double h
  ·by_cases fh : Fi h
   ·exact iSqrt_fin l h i k g fh w hT
   ·exact iSqrt_inf l h i k g fh w hT
  ·exact iSqrt_low l h i k g w hT
 ·exact iSqrt_n l h i k w hT
def infC (s : Bool) : Nat := if s then 18442240474082181120 else 9218868437227405312
theorem infC_en (s : Bool) : Sane (infC s) ∧ enW (infC s) = if s then .lo else .hi := by cases s; exact ⟨sane_inf.1, en_inf.1⟩; exact ⟨sane_inf.2, en_inf.2⟩
theorem read_infC (s : Bool) : Ieee.double.read (infC s) = .infinity s := by cases s <;> rfl
theorem write_infC (s : Bool) : Ieee.double.write (.infinity s) = infC s := by cases s <;> decide +kernel
theorem read_sg {b : Nat} (h : Fi b) (h0 : Fp.un Ieee.double b ≠ 0) : ∃ m e, Ieee.double.read b = .number (decide (Fp.un Ieee.double b < 0)) m e ∧ m ≠ 0 := by
 obtain ⟨m, e, r, _, _, _, v⟩ := is_parts2 h
 have hu := un_val b
 have hm : m ≠ 0 := by
  intro g
  rw [g, Nat.zero_mul] at v
  apply h0
  rw [hu, ← v]
  unfold Fp.val; split <;> rfl
 have hp : 0 < Fp.mag Ieee.double (Fp.rg Ieee.double b) := by rw [← v]; exact Nat.mul_pos om (Nat.two_pow_pos _)
 refine ⟨m, e, ?_, hm⟩
 rw [r]
 congr 1
 unfold Fp.val at hu
 cases hs : Fp.sg Ieee.double b
 ·rw [hs, if_neg Bool.false_ne_true] at hu; rw [decide_eq_false om]
 ·rw [hs, if_pos rfl] at hu; rw [decide_eq_true om]
theorem zz74 {p : Prop} (h : p := by
 obtain ⟨m, e, r, hm⟩ := read_sg h h0
 unfold Ieee.Format.mul
 rw [read_infC, r]
 show (if m = 0 then none else some (Ieee.Datum.infinity (s ^^ decide (Fp.un Ieee.double b < 0)))).map Ieee.double.write = _
 rw [if_neg hm, ← write_infC]; rfl) : p := h
theorem mul_infC_l (s : Bool) {b : Nat} (h : Fi b) (h0 : Fp.un Ieee.double b ≠ 0) : Ieee.double.mul (infC s) b = some (infC (s ^^ decide (Fp.un Ieee.double b < 0))) := by
 exact zz74
theorem mul_infC_r (s : Bool) {b : Nat} (h : Fi b) (h0 : Fp.un Ieee.double b ≠ 0) : Ieee.double.mul b (infC s) = some (infC (s ^^ decide (Fp.un Ieee.double b < 0))) := by
 exact zz74
theorem mul_infC_2 (s t : Bool) : Ieee.double.mul (infC s) (infC t) = some (infC (s ^^ t)) := by cases s <;> cases t <;> decide +kernel
theorem div_infC (s : Bool) {b : Nat} (h : Fi b) (h0 : 0 < Fp.un Ieee.double b) : Ieee.double.div (infC s) b = some (infC s) := by
 obtain ⟨m, e, r, hm⟩ := read_sg h om
 rw [decide_eq_false om] at r
 unfold Ieee.Format.div
 rw [read_infC, r]
 show (some (Ieee.Datum.infinity (s ^^ false))).map Ieee.double.write = _
 rw [Bool.xor_false, ← write_infC]; rfl
theorem infC_of {a : Nat} (h : Sane a) (n : ¬ Fi a) : a = infC (decide (Fp.un Ieee.double a < 0)) := by
 have T : 0 < 2 ^ Fp.dtop := Nat.two_pow_pos _
 rcases not_fi h n with g | g
 ·have := inf_un.1
  rw [decide_eq_false (by rw [g]; omega), g]; rfl
 ·have := inf_un.2
  have k : Fp.un Ieee.double 18442240474082181120 < 0 := by decide +kernel
  rw [decide_eq_true (by rw [g]; exact k), g]; rfl
theorem en_mul_inf {s : Bool} {b : Nat} (h : Fi b) (h0 : Fp.un Ieee.double b ≠ 0) : enW (infC (s ^^ decide (Fp.un Ieee.double b < 0))) = (enW (infC s)).mul (enW b) := by
 have hz : rvD b ≠ 0 := fun g => h0 (rv_zero_iff.1 g)
 rw [(infC_en _).2, (infC_en _).2, enW_fi h]
 by_cases g : Fp.un Ieee.double b < 0
 ·have g2 : ¬ 0 < rvD b := by have := rv_neg_iff.2 g; grind
  cases s <;> simp [decide_eq_true g, En.mul, hz, g2]
 ·have g2 : 0 < rvD b := rv_pos_iff.2 om
  cases s <;> simp [decide_eq_false g, En.mul, hz, g2]
theorem prod_inf {a b : Nat} (sa : Sane a) (sb : Sane b) (a0 : Fp.un Ieee.double a ≠ 0) (b0 : Fp.un Ieee.double b ≠ 0) (nf : ¬ Fi a ∨ ¬ Fi b) : ∃ r, Ieee.double.mul a b = some r ∧ Sane r ∧ enW r = (enW a).mul (enW b) := by
 by_cases fa : Fi a
 ·have fb : ¬ Fi b := nf.resolve_left (fun g => g fa)
  rw [infC_of sb fb]
  generalize decide (Fp.un Ieee.double b < 0) = s
  exact ⟨_, mul_infC_r s fa a0, (infC_en _).1, by rw [En.mul_comm]; exact en_mul_inf fa a0⟩
 ·rw [infC_of sa fa]
  generalize decide (Fp.un Ieee.double a < 0) = s
  by_cases fb : Fi b
  ·exact ⟨_, mul_infC_l s fb b0, (infC_en _).1, en_mul_inf fb b0⟩
  ·rw [infC_of sb fb]
   generalize decide (Fp.un Ieee.double b < 0) = t
   refine ⟨_, mul_infC_2 s t, (infC_en _).1, ?_⟩
   rw [(infC_en _).2, (infC_en _).2, (infC_en _).2]
   cases s <;> cases t <;> rfl
theorem en_mul_zero (z : En) : (En.fn 0).mul z = .fn 0 := by cases z <;> simp [En.mul]
theorem en_zero_word : enW 0 = .fn 0 := by rw [enW_fi fi_zero, rv_zero]
theorem prod_zero_l {up : Bool} {a b : Nat} (sa : Sane a) (h : Fp.un Ieee.double a = 0) : EndEn up 0 ((enW a).mul (enW b)) := by
 rw [(en_zero sa h).2, en_mul_zero]; exact EndEn.same fi_zero.sane en_zero_word
theorem prod_zero_r {up : Bool} {a b : Nat} (sb : Sane b) (h : Fp.un Ieee.double b = 0) : EndEn up 0 ((enW a).mul (enW b)) := by
 rw [(en_zero sb h).2, En.mul_comm, en_mul_zero]; exact EndEn.same fi_zero.sane en_zero_word
theorem prod_fin {up : Bool} {a b x : Nat} (fa : Fi a) (fb : Fi b) (h : EndOk up x (rvD a * rvD b)) : EndEn up x ((enW a).mul (enW b)) := by
 rw [enW_fi fa, enW_fi fb]; exact h.en
def Good (x y lo hi : Nat) : Prop := ∃ c d, EndEn false c ((enW x).mul (enW y)) ∧ Fp.un Ieee.double lo ≤ Fp.un Ieee.double c ∧ EndEn true d ((enW x).mul (enW y)) ∧ Fp.un Ieee.double d ≤ Fp.un Ieee.double hi
def pk (k a b : Nat) : Nat := if k = 0 then a else b
def MulAcc (l1 h1 l2 h2 i j lo hi : Nat) : Prop := Sane lo ∧ Sane hi ∧ ∀ i' j', i' < 2 → j' < 2 → (i' < i ∨ (i' = i ∧ j' < j)) → Good (pk i' l1 h1) (pk j' l2 h2) lo hi
theorem MulAcc.start (l1 h1 l2 h2 : Nat) : MulAcc l1 h1 l2 h2 0 0 9218868437227405312 18442240474082181120 := ⟨sane_inf.1, sane_inf.2, fun i' j' _ _ h => by omega⟩
theorem MulAcc.turn {l1 h1 l2 h2 i lo hi : Nat} (h : MulAcc l1 h1 l2 h2 i 2 lo hi) : MulAcc l1 h1 l2 h2 (i + 1) 0 lo hi := ⟨h.1, h.2.1, fun i' j' a b c => h.2.2 i' j' a b om⟩
theorem MulAcc.step {l1 h1 l2 h2 i j lo hi c d : Nat} (h : MulAcc l1 h1 l2 h2 i j lo hi) (hc : EndEn false c ((enW (pk i l1 h1)).mul (enW (pk j l2 h2)))) (hd : EndEn true d ((enW (pk i l1 h1)).mul (enW (pk j l2 h2)))) : MulAcc l1 h1 l2 h2 i (j + 1) (minF lo c) (maxF hi d) := by
 obtain ⟨a1, a2, a3, _⟩ := min_un2 h.1 hc.sane
 obtain ⟨b1, b2, b3, _⟩ := max_un2 h.2.1 hd.sane
 refine ⟨a1, b1, fun i' j' g1 g2 g3 => ?_⟩
 by_cases e : i' = i ∧ j' = j
 ·obtain ⟨rfl, rfl⟩ := e
  exact ⟨c, d, hc, a3, hd, b3⟩
 ·obtain ⟨c', d', k1, k2, k3, k4⟩ := h.2.2 i' j' g1 g2 om
  exact ⟨c', d', k1, by omega, k3, by omega⟩
def MulS (l1 h1 l2 h2 : Nat) (e : Rat) : Prop := ∃ p q, Holds l1 h1 p ∧ Holds l2 h2 q ∧ e = p * q
theorem MulAcc.holds {l1 h1 l2 h2 lo hi : Nat} (h : MulAcc l1 h1 l2 h2 2 0 lo hi) {p q : Rat} (hp : Holds l1 h1 p) (hq : Holds l2 h2 q) : Holds lo hi (p * q) := by
 obtain ⟨s1, s2, k⟩ := h
 obtain ⟨c11, d11, a11, b11, e11, f11⟩ := k 0 0 om om om
 obtain ⟨c12, d12, a12, b12, e12, f12⟩ := k 0 1 om om om
 obtain ⟨c21, d21, a21, b21, e21, f21⟩ := k 1 0 om om om
 obtain ⟨c22, d22, a22, b22, e22, f22⟩ := k 1 1 om om om
 exact ⟨mul_lo_end hp hq a11 a12 a21 a22 s1 b11 b12 b21 b22, mul_hi_end hp hq e11 e12 e21 e22 s2 f11 f12 f21 f22⟩
theorem run_idx2 (a b i : Nat) (h : i < 2) (w : World) : (Instr.index 197 (.agg #[.float .f64 a, .float .f64 b]) (.int .i64 (i : Int))).run Tryz.prog w = .ok (.float .f64 (pk i a b)) w := by
 obtain rfl | rfl : i = 0 ∨ i = 1 := by omega
 ·kernel_rfl
 ·kernel_rfl
theorem iproduct_zl (up : Bool) (a b : Nat) (sa : Sane a) (sb : Sane b) (a0 : Fp.un Ieee.double a = 0) (w : World) (hT : Tab w) : Calls Tryz.prog 123 #[.float .f64 a, .float .f64 b, .int .i64 (upM up)] w (fun r w' => ∃ x, r = .returned (.float .f64 x) ∧ EndEn up x ((enW a).mul (enW b)) ∧ Within w w') := by
 have c1 := c_eq (x := a) (y := 0) sa.2 dc
 rw [un_zero, decide_eq_true a0] at c1
 have HE := Hh (prod_zero_l (up := up) (b := b) sa a0)
 have HT := Hh hT
 clear hT sa sb a0
 go_enter Tryz.func123, Tryz.ntmps123
 go_wp2
 go_ret
 exact ⟨0, rfl, HE.out, Within.refl w⟩
theorem iproduct_zr (up : Bool) (a b : Nat) (sa : Sane a) (sb : Sane b) (a0 : ¬ Fp.un Ieee.double a = 0) (b0 : Fp.un Ieee.double b = 0) (w : World) (hT : Tab w) : Calls Tryz.prog 123 #[.float .f64 a, .float .f64 b, .int .i64 (upM up)] w (fun r w' => ∃ x, r = .returned (.float .f64 x) ∧ EndEn up x ((enW a).mul (enW b)) ∧ Within w w') := by
 have c1 := c_eq (x := a) (y := 0) sa.2 dc
 rw [un_zero, decide_eq_false a0] at c1
 have c2 := c_eq (x := b) (y := 0) sb.2 dc
 rw [un_zero, decide_eq_true b0] at c2
 have HE := Hh (prod_zero_r (up := up) (a := a) sb b0)
 have HT := Hh hT
 clear hT sa sb a0 b0
 go_enter Tryz.func123, Tryz.ntmps123
 go_wp2
 go_ret
 exact ⟨0, rfl, HE.out, Within.refl w⟩
theorem iproduct_il (up : Bool) (a b : Nat) (sa : Sane a) (sb : Sane b) (a0 : ¬ Fp.un Ieee.double a = 0) (b0 : ¬ Fp.un Ieee.double b = 0) (fa : ¬ Fi a) (w : World) (hT : Tab w) : Calls Tryz.prog 123 #[.float .f64 a, .float .f64 b, .int .i64 (upM up)] w (fun r w' => ∃ x, r = .returned (.float .f64 x) ∧ EndEn up x ((enW a).mul (enW b)) ∧ Within w w') := by
 have c1 := c_eq (x := a) (y := 0) sa.2 dc
 rw [un_zero, decide_eq_false a0] at c1
 have c2 := c_eq (x := b) (y := 0) sb.2 dc
 rw [un_zero, decide_eq_false b0] at c2
 obtain ⟨r, hr, hs, he⟩ := prod_inf sa sb a0 b0 (.inl fa)
 have HE := Hh (EndEn.same (up := up) hs he)
 have h1 := fun (t : TypeId) w => run_float_arith (P := Tryz.prog) w .mul t .f64 a b r hr
 clear hr hs he
 have FA := Hh (fun w => ifinite a sa w); have FB := Hh (fun w => ifinite b sb w)
 rw [decide_eq_false fa] at FA
 have HT := Hh hT
 clear hT sa sb a0 b0 fa
 go_enter Tryz.func123, Tryz.ntmps123
 go_wp2_with fail
 refine (FA.out _).mono ?_; rintro r1 w1 ⟨rfl, hb1⟩
 go_wp2
 go_ret
 exact ⟨r, rfl, HE.out, hb1⟩
theorem iproduct_ir (up : Bool) (a b : Nat) (sa : Sane a) (sb : Sane b) (a0 : ¬ Fp.un Ieee.double a = 0) (b0 : ¬ Fp.un Ieee.double b = 0) (fa : Fi a) (fb : ¬ Fi b) (w : World) (hT : Tab w) : Calls Tryz.prog 123 #[.float .f64 a, .float .f64 b, .int .i64 (upM up)] w (fun r w' => ∃ x, r = .returned (.float .f64 x) ∧ EndEn up x ((enW a).mul (enW b)) ∧ Within w w') := by
 have c1 := c_eq (x := a) (y := 0) sa.2 dc
 rw [un_zero, decide_eq_false a0] at c1
 have c2 := c_eq (x := b) (y := 0) sb.2 dc
 rw [un_zero, decide_eq_false b0] at c2
 obtain ⟨r, hr, hs, he⟩ := prod_inf sa sb a0 b0 (.inr fb)
 have HE := Hh (EndEn.same (up := up) hs he)
 have h1 := fun (t : TypeId) w => run_float_arith (P := Tryz.prog) w .mul t .f64 a b r hr
 clear hr hs he
 have FA := Hh (fun w => ifinite a sa w); have FB := Hh (fun w => ifinite b sb w)
 rw [decide_eq_true fa] at FA
 rw [decide_eq_false fb] at FB
 have HT := Hh hT
 clear hT sa sb a0 b0 fa fb
 go_enter Tryz.func123, Tryz.ntmps123
 go_wp2_with fail
 refine (FA.out _).mono ?_; rintro r1 w1 ⟨rfl, hb1⟩
 go_wp2_with fail
 refine (FB.out _).mono ?_; rintro r2 w2 ⟨rfl, hb2⟩
 have hc2 := hb1.trans hb2
 go_wp2
 go_ret
 exact ⟨r, rfl, HE.out, hc2⟩
theorem iproduct_ff (up : Bool) (a b : Nat) (sa : Sane a) (sb : Sane b) (a0 : ¬ Fp.un Ieee.double a = 0) (b0 : ¬ Fp.un Ieee.double b = 0) (fa : Fi a) (fb : Fi b) (w : World) (hT : Tab w) : Calls Tryz.prog 123 #[.float .f64 a, .float .f64 b, .int .i64 (upM up)] w (fun r w' => ∃ x, r = .returned (.float .f64 x) ∧ EndEn up x ((enW a).mul (enW b)) ∧ Within w w') := by
 have c1 := c_eq (x := a) (y := 0) sa.2 dc
 rw [un_zero, decide_eq_false a0] at c1
 have c2 := c_eq (x := b) (y := 0) sb.2 dc
 rw [un_zero, decide_eq_false b0] at c2
 have FA := Hh (fun w => ifinite a sa w); have FB := Hh (fun w => ifinite b sb w)
 rw [decide_eq_true fa] at FA
 rw [decide_eq_true fb] at FB
 have ML := Hh (fun w hT => imul up a b fa fb w hT)
 have HE := Hh (fun x h => prod_fin (up := up) (x := x) fa fb h)
 have HT := Hh hT
 clear hT sa sb a0 b0 fa fb
 go_enter Tryz.func123, Tryz.ntmps123
 go_wp2_with fail
 refine (FA.out _).mono ?_; rintro r1 w1 ⟨rfl, hb1⟩
 go_wp2_with fail
 refine (FB.out _).mono ?_; rintro r2 w2 ⟨rfl, hb2⟩
 have hc2 := hb1.trans hb2
 go_wp2_with fail
 refine (ML.out _ (HT.out.of hc2)).mono ?_; rintro r3 w3 ⟨x, rfl, hx, hb3⟩
 go_wp2
 go_ret
 exact ⟨x, rfl, HE.out x hx, hc2.trans hb3⟩
theorem iproduct (up : Bool) (a b : Nat) (sa : Sane a) (sb : Sane b) (w : World) (hT : Tab w) : Calls Tryz.prog 123 #[.float .f64 a, .float .f64 b, .int .i64 (upM up)] w (fun r w' => ∃ x, r = .returned (.float .f64 x) ∧ EndEn up x ((enW a).mul (enW b)) ∧ Within w w') := by
 by_cases a0 : Fp.un Ieee.double a = 0
 ·exact iproduct_zl up a b sa sb a0 w hT
 ·by_cases b0 : Fp.un Ieee.double b = 0
  ·exact iproduct_zr up a b sa sb a0 b0 w hT
  ·by_cases fa : Fi a
   ·by_cases fb : Fi b
    ·exact iproduct_ff up a b sa sb a0 b0 fa fb w hT
    ·exact iproduct_ir up a b sa sb a0 b0 fa fb w hT
   ·exact iproduct_il up a b sa sb a0 b0 fa w hT
def MulO (W : World) (l1 h1 l2 h2 : Nat) (lv hv iv : Value) (wr : World) : Prop := ∃ i lo hi : Nat, i ≤ 2 ∧ lv = .float .f64 lo ∧ hv = .float .f64 hi ∧ iv = .int .i64 (i : Int) ∧ MulAcc l1 h1 l2 h2 i 0 lo hi ∧ Within W wr
def MulI (W : World) (l1 h1 l2 h2 i : Nat) (lv hv iv : Value) (wr : World) : Prop := ∃ j lo hi : Nat, j ≤ 2 ∧ lv = .float .f64 lo ∧ hv = .float .f64 hi ∧ iv = .int .i64 (j : Int) ∧ MulAcc l1 h1 l2 h2 i j lo hi ∧ Within W wr
theorem pk_sane {k a b : Nat} (ha : Sane a) (hb : Sane b) : Sane (pk k a b) := by unfold pk; split; exact ha; exact hb
theorem zz121 {p : Prop} (h : p := by
 have hBr := (hcz.block (b0 + 2) (by have := HS.out; omega)).trans hB2
 obtain ⟨k0, k1, kf, kg, k2, r0, r1⟩ := iv_block hBr (.float .f64 9218868437227405312) (.float .f64 18442240474082181120)
 have kf0 := kf 0; have kf1 := kf 1; have kg1 := kg 1
 have hww := hwN.trans hcz
 go_wp2
 (try simp only [Exit.inBlock, Exit.then]); refine bodyPost_ret (v := .agg #[.float .f64 9218868437227405312, .float .f64 18442240474082181120]) (by simp [results, Tryz.results40, go_sem, r0, r1]) rfl ?_
 exact zz23) : p := h
theorem iMul_n (l1 h1 l2 h2 : Nat) (i1 : Iv l1 h1) (i2 : Iv l2 h2) (k1 : ¬ Full l1 h1) (w : World) (hT : Tab w) : Calls Tryz.prog 40 #[.agg #[.float .f64 l1, .float .f64 h1], .agg #[.float .f64 l2, .float .f64 h2]] w (IvH w (MulS l1 h1 l2 h2)) := by
 have F1 := Hh (fun w => ifull l1 h1 i1.sane.1 i1.sane.2 w); have F2 := Hh (fun w => ifull l2 h2 i2.sane.1 i2.sane.2 w)
 rw [decide_eq_false k1] at F1
 have EM := Hh iEmpty
 have HN := Hh (show ∀ e, ¬ MulS l1 h1 l2 h2 e from fun e ⟨p, q, hp, hq, _⟩ => k1 hp.full)
 have HT := Hh hT
 clear hT i1 i2 k1
 obtain ⟨hwN, hB0, hB1, hB2⟩ := box3 w #[.float .f64 l1, .float .f64 h1] #[.float .f64 l2, .float .f64 h2] #[.float .f64 0, .float .f64 0] 30 30 30
 go_enter Tryz.func40, Tryz.ntmps40
 go_upto_region 1 with fail
 obtain ⟨W3, hW3⟩ : ∃ W3, W3 = (((w.alloc (.cells #[.float .f64 l1, .float .f64 h1] 30)).alloc (.cells #[.float .f64 l2, .float .f64 h2] 30)).alloc (.cells #[.float .f64 0, .float .f64 0] 30)) := ⟨_, rfl⟩
 have hs3 : W3.heap.size = w.heap.size + 3 := by rw [hW3]; simp
 rw [← hW3] at hwN hB0 hB1 hB2 ⊢
 clear hW3
 obtain ⟨b0, hb0⟩ : ∃ b, b = w.heap.size := ⟨_, rfl⟩
 have HS := Hh (And.intro hs3 hb0)
 rw [← hb0] at hB0 hB1 hB2 ⊢
 clear hb0 hs3
 obtain ⟨x00, x01⟩ := pair_cells hB0
 obtain ⟨x10, x11⟩ := pair_cells hB1
 have l0 : b0 + 2 < W3.heap.size := by have := HS.out; omega
 go_wp2_with fail
 refine (F1.out _).mono ?_; rintro r1 w1 ⟨rfl, hb1⟩
 go_wp2_with fail
 refine (EM.out _).mono ?_; rintro rz wz ⟨rfl, hbz⟩
 have hcz := hb1.trans hbz
 exact zz121
theorem iMul_yn (l1 h1 l2 h2 : Nat) (i1 : Iv l1 h1) (i2 : Iv l2 h2) (k1 : Full l1 h1) (k2 : ¬ Full l2 h2) (w : World) (hT : Tab w) : Calls Tryz.prog 40 #[.agg #[.float .f64 l1, .float .f64 h1], .agg #[.float .f64 l2, .float .f64 h2]] w (IvH w (MulS l1 h1 l2 h2)) := by
 have F1 := Hh (fun w => ifull l1 h1 i1.sane.1 i1.sane.2 w); have F2 := Hh (fun w => ifull l2 h2 i2.sane.1 i2.sane.2 w)
 rw [decide_eq_true k1] at F1
 rw [decide_eq_false k2] at F2
 have EM := Hh iEmpty
 have HN := Hh (show ∀ e, ¬ MulS l1 h1 l2 h2 e from fun e ⟨p, q, hp, hq, _⟩ => k2 hq.full)
 have HT := Hh hT
 clear hT i1 i2 k1 k2
 obtain ⟨hwN, hB0, hB1, hB2⟩ := box3 w #[.float .f64 l1, .float .f64 h1] #[.float .f64 l2, .float .f64 h2] #[.float .f64 0, .float .f64 0] 30 30 30
 go_enter Tryz.func40, Tryz.ntmps40
 go_upto_region 1 with fail
 obtain ⟨W3, hW3⟩ : ∃ W3, W3 = (((w.alloc (.cells #[.float .f64 l1, .float .f64 h1] 30)).alloc (.cells #[.float .f64 l2, .float .f64 h2] 30)).alloc (.cells #[.float .f64 0, .float .f64 0] 30)) := ⟨_, rfl⟩
 have hs3 : W3.heap.size = w.heap.size + 3 := by rw [hW3]; simp
 rw [← hW3] at hwN hB0 hB1 hB2 ⊢
 clear hW3
 obtain ⟨b0, hb0⟩ : ∃ b, b = w.heap.size := ⟨_, rfl⟩
 have HS := Hh (And.intro hs3 hb0)
 rw [← hb0] at hB0 hB1 hB2 ⊢
 clear hb0 hs3
 obtain ⟨x00, x01⟩ := pair_cells hB0
 obtain ⟨x10, x11⟩ := pair_cells hB1
 have l0 : b0 + 2 < W3.heap.size := by have := HS.out; omega
 go_wp2_with fail
 refine (F1.out _).mono ?_; rintro r1 w1 ⟨rfl, hb1⟩
 replace x00 := (hb1.cells _ _ (show b0 < _ from by have := l0; omega)).trans x00
 replace x01 := (hb1.cells _ _ (show b0 < _ from by have := l0; omega)).trans x01
 replace x10 := (hb1.cells _ _ (show b0 + 1 < _ from by have := l0; omega)).trans x10
 replace x11 := (hb1.cells _ _ (show b0 + 1 < _ from by have := l0; omega)).trans x11
 replace l0 := Nat.lt_of_lt_of_le l0 hb1.size
 go_wp2_with fail
 refine (F2.out _).mono ?_; rintro r2 w2 ⟨rfl, hb2⟩
 have hc2 := hb1.trans hb2
 go_wp2_with fail
 refine (EM.out _).mono ?_; rintro rz wz ⟨rfl, hbz⟩
 have hcz := hc2.trans hbz
 exact zz121
theorem iMul_yy (l1 h1 l2 h2 : Nat) (i1 : Iv l1 h1) (i2 : Iv l2 h2) (k1 : Full l1 h1) (k2 : Full l2 h2) (w : World) (hT : Tab w) : Calls Tryz.prog 40 #[.agg #[.float .f64 l1, .float .f64 h1], .agg #[.float .f64 l2, .float .f64 h2]] w (IvH w (MulS l1 h1 l2 h2)) := by
 have F1 := Hh (fun w => ifull l1 h1 i1.sane.1 i1.sane.2 w); have F2 := Hh (fun w => ifull l2 h2 i2.sane.1 i2.sane.2 w)
 rw [decide_eq_true k1] at F1
 rw [decide_eq_true k2] at F2
 have PR := Hh (fun (up : Bool) (i j : Nat) w hT => iproduct up (pk i l1 h1) (pk j l2 h2) (pk_sane i1.sane.1 i1.sane.2) (pk_sane i2.sane.1 i2.sane.2) w hT)
 have C1 := Hh im_inf_one; have C2 := Hh im_inf_neg
 have HX := Hh (show ∃ e, MulS l1 h1 l2 h2 e from by obtain ⟨p, hp⟩ := k1.point; obtain ⟨q, hq⟩ := k2.point; exact ⟨_, p, q, hp, hq, rfl⟩)
 have MK := Hh (fun (x y : Nat) hx hy w => imake x y hx hy w)
 have HT := Hh hT
 clear hT i1 i2 k1 k2
 obtain ⟨hwN, hB0, hB1, hB2⟩ := box3 w #[.float .f64 l1, .float .f64 h1] #[.float .f64 l2, .float .f64 h2] #[.float .f64 0, .float .f64 0] 30 30 30
 go_enter Tryz.func40, Tryz.ntmps40
 go_upto_region 1 with fail
 obtain ⟨W3, hW3⟩ : ∃ W3, W3 = (((w.alloc (.cells #[.float .f64 l1, .float .f64 h1] 30)).alloc (.cells #[.float .f64 l2, .float .f64 h2] 30)).alloc (.cells #[.float .f64 0, .float .f64 0] 30)) := ⟨_, rfl⟩
 have hs3 : W3.heap.size = w.heap.size + 3 := by rw [hW3]; simp
 rw [← hW3] at hwN hB0 hB1 hB2 ⊢
 clear hW3
 obtain ⟨b0, hb0⟩ : ∃ b, b = w.heap.size := ⟨_, rfl⟩
 have HS := Hh (And.intro hs3 hb0)
 rw [← hb0] at hB0 hB1 hB2 ⊢
 clear hb0 hs3
 obtain ⟨x00, x01⟩ := pair_cells hB0
 obtain ⟨x10, x11⟩ := pair_cells hB1
 have l0 : b0 + 2 < W3.heap.size := by have := HS.out; omega
 go_wp2_with fail
 refine (F1.out _).mono ?_; rintro r1 w1 ⟨rfl, hb1⟩
 replace x00 := (hb1.cells _ _ (show b0 < _ from by have := l0; omega)).trans x00
 replace x01 := (hb1.cells _ _ (show b0 < _ from by have := l0; omega)).trans x01
 replace x10 := (hb1.cells _ _ (show b0 + 1 < _ from by have := l0; omega)).trans x10
 replace x11 := (hb1.cells _ _ (show b0 + 1 < _ from by have := l0; omega)).trans x11
 replace l0 := Nat.lt_of_lt_of_le l0 hb1.size
 go_wp2_with fail
 refine (F2.out _).mono ?_; rintro r2 w2 ⟨rfl, hb2⟩
 have hc2 := hb1.trans hb2
 replace x00 := (hb2.cells _ _ (show b0 < _ from by have := l0; omega)).trans x00
 replace x01 := (hb2.cells _ _ (show b0 < _ from by have := l0; omega)).trans x01
 replace x10 := (hb2.cells _ _ (show b0 + 1 < _ from by have := l0; omega)).trans x10
 replace x11 := (hb2.cells _ _ (show b0 + 1 < _ from by have := l0; omega)).trans x11
 replace l0 := Nat.lt_of_lt_of_le l0 hb2.size
 clear hb1 hb2
 go_wp2_with fail
 refine (C1.out _).mono ?_; rintro r3 w3 ⟨rfl, rfl⟩
 go_wp2_with fail
 refine (C2.out _).mono ?_; rintro r4 w4 ⟨rfl, rfl⟩
 go_wp2
 go_loopw [5, 6, 27] (fun lv hv iv wr => MulO w2 l1 h1 l2 h2 lv hv iv wr) (fun _ _ iv _ => 2 - (intOf iv).toNat)
 case atStart => exact ⟨0, _, _, by decide, rfl, rfl, rfl, MulAcc.start l1 h1 l2 h2, Within.refl _⟩
 case round =>
  obtain ⟨i, lo, hi, hi2, rfl, rfl, rfl, hacc, hin⟩ := hrel
  have HA := Hh hacc; clear hacc
  by_cases hlt : i < 2
  ·have di : decide ((i : Int) < 2) = true := decide_eq_true om
   have hx := fun w => run_idx2 l1 h1 i hlt w
   have PI := Hh (fun up j => PR.out up i j)
   obtain ⟨x, hxx⟩ : ∃ x, x = pk i l1 h1 := ⟨_, rfl⟩
   rw [← hxx] at hx PI
   have HXX := Hh hxx; clear hxx
   have y10 := (hin.cells _ _ (show b0 + 1 < _ from by have := l0; omega)).trans x10; have y11 := (hin.cells _ _ (show b0 + 1 < _ from by have := l0; omega)).trans x11
   go_wp2
   go_loopw [5, 6, 35] (fun lv hv iv wr => MulI w2 l1 h1 l2 h2 i lv hv iv wr) (fun _ _ iv _ => 2 - (intOf iv).toNat)
   case atStart => exact ⟨0, _, _, by decide, rfl, rfl, rfl, HA.out, hin⟩
   case round =>
    obtain ⟨j, lo', hi', hj2, rfl, rfl, rfl, hacc2, hin2⟩ := hrel
    have HA2 := Hh hacc2
    by_cases hjt : j < 2
    ·have dj : decide ((j : Int) < 2) = true := decide_eq_true om
     have hy := fun w => run_idx2 l2 h2 j hjt w
     have PJ := Hh (fun up => PI.out up j)
     obtain ⟨y, hyy⟩ : ∃ y, y = pk j l2 h2 := ⟨_, rfl⟩
     rw [← hyy] at hy PJ
     have HYY := Hh hyy; clear hyy
     go_wp2_with fail
     refine (PJ.out false _ (HT.out.of (hwN.trans (hc2.trans hin2)))).mono ?_; rintro r5 w5 ⟨c, rfl, hc, hb5⟩
     have hmn := fun ts t w => run_min_fl hacc2.1 hc.sane Tryz.prog ts t w
     have HC := Hh hc; have hin5 := hin2.trans hb5
     go_wp2_with fail
     refine (PJ.out true _ (HT.out.of (hwN.trans (hc2.trans hin5)))).mono ?_; rintro r6 w6 ⟨d, rfl, hd, hb6⟩
     have hmx := fun ts t w => run_max_fl hacc2.2.1 hd.sane Tryz.prog ts t w
     have HD := Hh hd; have hin6 := hin5.trans hb6
     clear hc hd hacc2 hb5 hb6
     go_wp2
     go_roundw
     case rel => exact ⟨j + 1, _, _, hjt, rfl, rfl, by go_num, HA2.out.step (HXX.out ▸ HYY.out ▸ HC.out) (HXX.out ▸ HYY.out ▸ HD.out), hin6⟩
     case measure => simp [intOf]; omega
    ·obtain rfl : j = 2 := by omega
     clear hacc2
     go_wp2
     go_roundw
     case rel => exact ⟨i + 1, _, _, hlt, rfl, rfl, by go_num, HA2.out.turn, hin2⟩
     case measure => simp [intOf]; omega
  ·obtain rfl : i = 2 := by omega
   have HC2 := Hh (hc2.trans hin)
   go_wp2_with fail
   refine (MK.out lo hi HA.out.1 HA.out.2.1 _).mono ?_; rintro r7 w7 ⟨a, b, rfl, sa, sb, ua, ub, hb7⟩
   have hc7 := HC2.out.trans hb7
   have HE := Hh (And.intro sa (And.intro sb (And.intro ua ub)))
   clear sa sb ua ub
   have hBr := (hc7.block (b0 + 2) (by have := HS.out; omega)).trans hB2
   obtain ⟨k0, k1, kf, kg, k2, r0, r1⟩ := iv_block hBr (.float .f64 a) (.float .f64 b)
   have kf0 := kf 0; have kf1 := kf 1; have kg1 := kg 1
   have hww := hwN.trans hc7
   go_wp2
   (try simp only [Exit.inBlock, Exit.then]); refine bodyPost_ret (v := .agg #[.float .f64 a, .float .f64 b]) (by simp [results, Tryz.results40, go_sem, r0, r1]) rfl ?_
   have key : ∀ e, MulS l1 h1 l2 h2 e → Holds a b e := by
    rintro _ ⟨p, q, hp, hq, rfl⟩
    exact holds_un (HA.out.holds hp hq) HE.out.1 HE.out.2.1 HE.out.2.2.1 HE.out.2.2.2
   exact zz118
theorem iMul (l1 h1 l2 h2 : Nat) (i1 : Iv l1 h1) (i2 : Iv l2 h2) (w : World) (hT : Tab w) : Calls Tryz.prog 40 #[.agg #[.float .f64 l1, .float .f64 h1], .agg #[.float .f64 l2, .float .f64 h2]] w (IvH w (MulS l1 h1 l2 h2)) := by
 by_cases k1 : Full l1 h1
 ·by_cases k2 : Full l2 h2
  ·exact iMul_yy l1 h1 l2 h2 i1 i2 k1 k2 w hT
  ·exact iMul_yn l1 h1 l2 h2 i1 i2 k1 k2 w hT
 ·exact iMul_n l1 h1 l2 h2 i1 i2 k1 w hT
end Go.Proofs.YtgkcpnidmfejeaaGreatDoor
