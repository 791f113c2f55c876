/- What the law's walk rests on, part 3: contracts of functions and plain facts. -/
import Derived.Test.YtjmaggfddinbkaaGreatDoorRows
import Derived.WalkKit
import Derived.WalkSpells
import Derived.WalkLawsBesides
import Derived.BigQuiet
import Derived.Lib.Hide
import Derived.Deep.OwnRows
import Derived.OwnWalk
import Derived.LoopTactic
import Derived.Outline
import Derived.IntWalk
import Derived.OrdersHeld
import Derived.StillTail
import Derived.Deep.RegionHeld3
import Derived.Maps.AppendAt
import Derived.Deep.QuietTactic
import Derived.Deep.DeepCutAuto
import Derived.Shelf.Bits.Mul64
import Derived.Laws.Externs
import Derived.Deep.RegionWith
import Ieee.Arith
import Derived.Lib.TrailingZeros
import Derived.Lib.BitFns
import Derived.Lib.Strings
import Derived.Lib.Slices
import Derived.Lib.Small
import Derived.Lib.Walk
import Derived.Deep.AppendLies
import Derived.Deep.Draws
import Derived.Laws.OwnMore
import Derived.ProofKit
import Derived.OpenShut
import Derived.ShutString
import Derived.ChangeOld
import Derived.Below
import Derived.Deep.DeepHandedRow
import Derived.Lib.LaidTab
import Derived.Test.YtjmaggfddinbkaaGreatDoorZEPr2
set_option linter.unusedVariables false
set_option linter.unusedSimpArgs false
section
namespace Go.Proofs.YtjmaggfddinbkaaGreatDoor
def upl : Nat := 1074
theorem upl_is : upl = 1074 := rfl
def Fz (v : Option Nat) (z : Int) : Prop := ∃ x, v = some x ∧ x % 9223372036854775808 < 9218868437227405312 ∧ Fp.un Ieee.double x = z
theorem Fz.eq {v : Option Nat} {y z : Int} (h : Fz v y) (g : Fz v z) : y = z := by
  obtain ⟨x, rfl, _, hx⟩ := h
  obtain ⟨x', e, _, hx'⟩ := g
  obtain rfl := Option.some.inj e
  rw [← hx, ← hx']
theorem Fz.fv {x : Nat} {z : Int} (h : Fz (fv x) z) : x % 9223372036854775808 < 9218868437227405312 ∧ Fp.un Ieee.double x = z := by
  obtain ⟨y, e, h1, h2⟩ := h
  unfold Go.Proofs.YtjmaggfddinbkaaGreatDoor.fv at e
  split at e
  · cases e
  · obtain rfl := Option.some.inj e; exact ⟨h1, h2⟩
theorem fz_of {x : Nat} (h : x % 9223372036854775808 < 9218868437227405312) : Fz (fv x) (Fp.un Ieee.double x) := ⟨x, if_neg (by omega), h, rfl⟩
theorem read_number {a : Nat} (h : ∃ s m e, Ieee.double.read a = .number s m e) : a % 9223372036854775808 < 9218868437227405312 := by
  obtain ⟨s, m, e, h⟩ := h
  rcases Nat.lt_trichotomy (a % 9223372036854775808) 9218868437227405312 with g | g | g
  · exact g
  · have := Fp.read_inf Ieee.double a (by rw [Fp.rg64, Fp.dI]; exact g) Fp.dBI
    rw [this] at h; cases h
  · obtain ⟨_, _, this⟩ := read_nan g
    rw [this] at h; cases h
theorem sum_number {d e : Ieee.Datum} {s : Bool} {m : Nat} {k : Int} (h : d.sum e = some (.number s m k)) : (∃ s m k, d = .number s m k) ∧ ∃ s m k, e = .number s m k := by
  cases d <;> cases e <;> simp only [Ieee.Datum.sum] at h <;> first | exact ⟨⟨_, _, _, rfl⟩, ⟨_, _, _, rfl⟩⟩ | (cases h; done) | (split at h <;> cases h; done)
theorem prod_number {d e : Ieee.Datum} {s : Bool} {m : Nat} {k : Int} (h : d.product e = some (.number s m k)) : (∃ s m k, d = .number s m k) ∧ ∃ s m k, e = .number s m k := by
  cases d <;> cases e <;> simp only [Ieee.Datum.product] at h <;> first | exact ⟨⟨_, _, _, rfl⟩, ⟨_, _, _, rfl⟩⟩ | (cases h; done) | (split at h <;> cases h; done)
theorem write_number {d : Ieee.Datum} (hn : d.isNaN = false) (h : Ieee.double.write d % 9223372036854775808 < 9218868437227405312) : ∃ s m k, d = .number s m k := by
  cases d with
  | nan s t => simp [Ieee.Datum.isNaN] at hn
  | infinity s =>
    exfalso
    have e : Ieee.double.write (.infinity s) = Ieee.double.word s Ieee.double.infRung := rfl
    rw [e] at h
    have := Fp.rg_word Ieee.double s Ieee.double.infRung (Fp.inf_lt Ieee.double)
    rw [Fp.rg64] at this
    rw [this, Fp.dI] at h
    omega
  | number s m k => exact ⟨s, m, k, rfl⟩
theorem neg_number {d : Ieee.Datum} (h : ∃ s m k, d.opposite = .number s m k) : ∃ s m k, d = .number s m k := by
  obtain ⟨s, m, k, h⟩ := h
  cases d with
  | nan s t => cases h
  | infinity s => cases h
  | number s m k => exact ⟨_, _, _, rfl⟩
theorem fin_back {op : BinOp} (ho : op = .add ∨ op = .sub ∨ op = .mul) {x y r : Nat} (h : floatBits op .f64 x y = some r) (hr : r % 9223372036854775808 < 9218868437227405312) :
    x % 9223372036854775808 < 9218868437227405312 ∧ y % 9223372036854775808 < 9218868437227405312 := by
  have key : ∀ o : Option Ieee.Datum, (∀ d, o = some d → d.isNaN = false) → o.map Ieee.double.write = some r → ∃ s m k, o = some (.number s m k) := by
    intro o hs hm
    cases o with
    | none => cases hm
    | some d =>
      obtain rfl := Option.some.inj hm
      obtain ⟨s, m, k, rfl⟩ := write_number (hs d rfl) hr
      exact ⟨s, m, k, rfl⟩
  rcases ho with rfl | rfl | rfl
  · obtain ⟨s, m, k, hd⟩ := key ((Ieee.double.read x).sum (Ieee.double.read y)) (fun d hd => sum_sane hd) h
    obtain ⟨h1, h2⟩ := sum_number hd
    exact ⟨read_number h1, read_number h2⟩
  · obtain ⟨s, m, k, hd⟩ := key ((Ieee.double.read x).sum (Ieee.double.read y).opposite) (fun d hd => sum_sane hd) h
    obtain ⟨h1, h2⟩ := sum_number hd
    exact ⟨read_number h1, read_number (neg_number h2)⟩
  · obtain ⟨s, m, k, hd⟩ := key ((Ieee.double.read x).product (Ieee.double.read y)) (fun d hd => prod_sane hd) h
    obtain ⟨h1, h2⟩ := prod_number hd
    exact ⟨read_number h1, read_number h2⟩
theorem word_is (z : Int) (s : Bool) (hs : z ≠ 0 → s = decide (z < 0)) :
    (Ieee.double.word s (Fp.rung Ieee.double z.natAbs) % 9223372036854775808 < 9218868437227405312 ↔ (rn z).natAbs < 2 ^ Fp.dtop) ∧
    ((rn z).natAbs < 2 ^ Fp.dtop → Fp.un Ieee.double (Ieee.double.word s (Fp.rung Ieee.double z.natAbs)) = rn z) := by
  have hl : Fp.rung Ieee.double z.natAbs < Ieee.double.signWeight := Nat.lt_of_le_of_lt (Nat.min_le_right _ _) (Fp.inf_lt Ieee.double)
  have h1 := Fp.rg_word Ieee.double s _ hl
  have h2 := Fp.sg_word Ieee.double s _ hl
  have hg : (rn z).natAbs < 2 ^ Fp.dtop ↔ Fp.grid Ieee.double z.natAbs 0 < Ieee.double.infRung := by
    rw [rn_abs, ← Fp.mag_infD]; exact Fp.mag_lt_iff Ieee.double
  refine ⟨?_, fun h => ?_⟩
  · rw [← Fp.rg64, h1, hg, Fp.dI]
    unfold Fp.rung
    rw [Fp.dI]
    omega
  · have h3 := hg.1 h
    have h4 : Fp.rung Ieee.double z.natAbs = Fp.grid Ieee.double z.natAbs 0 := Nat.min_eq_left (Nat.le_of_lt h3)
    unfold Fp.un
    rw [h1, h2, h4]
    unfold rn
    by_cases h0 : z = 0
    · subst h0
      rw [Int.natAbs_zero, Fp.grid_zero, Fp.mag_zero]
      cases s <;> rfl
    · rw [hs h0]
      by_cases hn : z < 0
      · rw [decide_eq_true hn, if_pos rfl, if_pos hn]
      · rw [decide_eq_false hn, if_neg Bool.false_ne_true, if_neg hn]
theorem sub_iff {u v : Option Nat} {z : Int} : Fz (fop .sub u v) z ↔ ∃ A B, Fz u A ∧ Fz v B ∧ z = rn (A - B) ∧ z.natAbs < 2 ^ Fp.dtop := by
  constructor
  · rintro ⟨r, h, hr, hz⟩
    cases u with
    | none => cases h
    | some x =>
      cases v with
      | none => cases h
      | some y =>
        have hb : floatBits .sub .f64 x y = some r := h
        obtain ⟨hx, hy⟩ := fin_back (.inr (.inl rfl)) hb hr
        have ha := Fp.sub_fin Ieee.double x y (by rw [Fp.rg64, Fp.dI]; exact hx) (by rw [Fp.rg64, Fp.dI]; exact hy)
        have he : some r = Ieee.double.sub x y := hb.symm
        rw [ha] at he
        obtain rfl := Option.some.inj he
        obtain ⟨w1, w2⟩ := word_is (Fp.un Ieee.double x - Fp.un Ieee.double y) _ (fun h0 => if_neg h0)
        have hl := w1.1 hr
        have hv := w2 hl
        exact ⟨_, _, ⟨x, rfl, hx, rfl⟩, ⟨y, rfl, hy, rfl⟩, by rw [← hz, hv], by rw [← hz, hv]; exact hl⟩
  · rintro ⟨A, B, ⟨x, rfl, hx, rfl⟩, ⟨y, rfl, hy, rfl⟩, rfl, hl⟩
    have ha := Fp.sub_fin Ieee.double x y (by rw [Fp.rg64, Fp.dI]; exact hx) (by rw [Fp.rg64, Fp.dI]; exact hy)
    obtain ⟨w1, w2⟩ := word_is (Fp.un Ieee.double x - Fp.un Ieee.double y) _ (fun h0 => if_neg h0)
    exact ⟨_, ha, w1.2 hl, w2 hl⟩
theorem un_abs (x : Nat) : (Fp.un Ieee.double x).natAbs = Fp.mag Ieee.double (Fp.rg Ieee.double x) := by
  unfold Fp.un; split <;> omega
theorem un_sign {x : Nat} (h : Fp.un Ieee.double x ≠ 0) : Fp.sg Ieee.double x = decide (Fp.un Ieee.double x < 0) := by
  unfold Fp.un at h ⊢
  cases hs : Fp.sg Ieee.double x
  · rw [hs, if_neg Bool.false_ne_true] at h
    rw [if_neg Bool.false_ne_true, decide_eq_false (by omega)]
  · rw [hs, if_pos rfl] at h
    rw [if_pos rfl, decide_eq_true (by omega)]
theorem sign_mul {A B : Int} (hA : A ≠ 0) (hB : B ≠ 0) : (decide (A < 0) ^^ decide (B < 0)) = decide (A * B < 0) := by
  rcases Int.lt_or_le A 0 with a | a <;> rcases Int.lt_or_le B 0 with b | b
  · rw [decide_eq_true a, decide_eq_true b, decide_eq_false (Int.not_lt.2 (Int.le_of_lt (Int.mul_pos_of_neg_of_neg a b)))]; rfl
  · rw [decide_eq_true a, decide_eq_false (by omega), decide_eq_true (Int.mul_neg_of_neg_of_pos a (by omega))]; rfl
  · rw [decide_eq_false (by omega), decide_eq_true b, decide_eq_true (Int.mul_neg_of_pos_of_neg (by omega) b)]; rfl
  · rw [decide_eq_false (by omega), decide_eq_false (by omega), decide_eq_false (Int.not_lt.2 (Int.mul_nonneg a b))]; rfl
theorem mul_iff {u v : Option Nat} {z : Int} : Fz (fop .mul u v) z → ∃ A B, Fz u A ∧ Fz v B ∧ ∀ P, A * B = P * 2 ^ upl → z = rn P ∧ z.natAbs < 2 ^ Fp.dtop := by
  rintro ⟨r, h, hr, hz⟩
  cases u with
  | none => cases h
  | some x =>
    cases v with
    | none => cases h
    | some y =>
      have hb : floatBits .mul .f64 x y = some r := h
      obtain ⟨hx, hy⟩ := fin_back (.inr (.inr rfl)) hb hr
      refine ⟨_, _, ⟨x, rfl, hx, rfl⟩, ⟨y, rfl, hy, rfl⟩, fun P hP => ?_⟩
      have hm := Fp.mul_fin Ieee.double Fp.dL0 x y (by rw [Fp.rg64, Fp.dI]; exact hx) (by rw [Fp.rg64, Fp.dI]; exact hy)
      have he : some r = Ieee.double.mul x y := hb.symm
      rw [hm] at he
      obtain rfl := Option.some.inj he
      have ha : Fp.mag Ieee.double (Fp.rg Ieee.double x) * Fp.mag Ieee.double (Fp.rg Ieee.double y) = P.natAbs * 2 ^ upl := by
        rw [← un_abs, ← un_abs, ← Int.natAbs_mul, hP, natAbs_mul_pow]
      have hd : Fp.deep Ieee.double = 0 + upl := by rw [Fp.dD]; rfl
      rw [ha, hd, Fp.grid_shift] at hr hz
      have hsg : P ≠ 0 → (Fp.sg Ieee.double x ^^ Fp.sg Ieee.double y) = decide (P < 0) := by
        intro h0
        have hpow : (2 : Int) ^ upl ≠ 0 := Int.pow_ne_zero (by decide)
        have hpp : (0 : Int) < 2 ^ upl := Int.pow_pos (by decide)
        have hA : Fp.un Ieee.double x ≠ 0 := fun h => by rw [h, Int.zero_mul] at hP; exact (Int.mul_ne_zero h0 hpow) hP.symm
        have hB : Fp.un Ieee.double y ≠ 0 := fun h => by rw [h, Int.mul_zero] at hP; exact (Int.mul_ne_zero h0 hpow) hP.symm
        rw [un_sign hA, un_sign hB]
        have hneg : P < 0 ↔ P * 2 ^ upl < 0 := ⟨fun h => Int.mul_neg_of_neg_of_pos h hpp, fun h => by
          rcases Int.lt_or_le P 0 with g | g
          · exact g
          · exact absurd (Int.mul_nonneg g (Int.le_of_lt hpp)) (Int.not_le.2 h)⟩
        have hneg' : P < 0 ↔ Fp.un Ieee.double x * Fp.un Ieee.double y < 0 := by rw [hP]; exact hneg
        rw [decide_eq_decide.2 hneg']
        exact sign_mul hA hB
      obtain ⟨w1, w2⟩ := word_is P _ hsg
      have hl := w1.1 hr
      have hv := w2 hl
      have hv' : Fp.un Ieee.double (Ieee.double.word (Fp.sg Ieee.double x ^^ Fp.sg Ieee.double y) (min (Fp.grid Ieee.double P.natAbs 0) Ieee.double.infRung)) = rn P := hv
      exact ⟨by rw [← hz]; exact hv', by rw [← hz, hv']; exact hl⟩
theorem mul_fz {u v : Option Nat} {A B P : Int} (hu : Fz u A) (hv : Fz v B) (hP : A * B = P * 2 ^ upl) (hl : (rn P).natAbs < 2 ^ Fp.dtop) : Fz (fop .mul u v) (rn P) := by
  obtain ⟨x, rfl, hx, rfl⟩ := hu
  obtain ⟨y, rfl, hy, rfl⟩ := hv
  have hm := Fp.mul_fin Ieee.double Fp.dL0 x y (by rw [Fp.rg64, Fp.dI]; exact hx) (by rw [Fp.rg64, Fp.dI]; exact hy)
  have ha : Fp.mag Ieee.double (Fp.rg Ieee.double x) * Fp.mag Ieee.double (Fp.rg Ieee.double y) = P.natAbs * 2 ^ upl := by
    rw [← un_abs, ← un_abs, ← Int.natAbs_mul, hP, natAbs_mul_pow]
  have hd : Fp.deep Ieee.double = 0 + upl := by rw [Fp.dD]; rfl
  rw [ha, hd, Fp.grid_shift] at hm
  have hg : (rn P).natAbs < 2 ^ Fp.dtop ↔ Fp.grid Ieee.double P.natAbs 0 < Ieee.double.infRung := by
    rw [rn_abs, ← Fp.mag_infD]; exact Fp.mag_lt_iff Ieee.double
  have hfin : Ieee.double.word (Fp.sg Ieee.double x ^^ Fp.sg Ieee.double y) (min (Fp.grid Ieee.double P.natAbs 0) Ieee.double.infRung) % 9223372036854775808 < 9218868437227405312 := by
    have h1 := Fp.rg_word Ieee.double (Fp.sg Ieee.double x ^^ Fp.sg Ieee.double y) (min (Fp.grid Ieee.double P.natAbs 0) Ieee.double.infRung) (Nat.lt_of_le_of_lt (Nat.min_le_right _ _) (Fp.inf_lt Ieee.double))
    rw [← Fp.rg64, h1]
    have h3 := hg.1 hl
    have h4 := Nat.lt_of_le_of_lt (Nat.min_le_left (Fp.grid Ieee.double P.natAbs 0) Ieee.double.infRung) h3
    rwa [show Ieee.double.infRung = 9218868437227405312 from Fp.dI] at h4 ⊢
  have hF : Fz (fop .mul (some x) (some y)) (Fp.un Ieee.double (Ieee.double.word (Fp.sg Ieee.double x ^^ Fp.sg Ieee.double y) (min (Fp.grid Ieee.double P.natAbs 0) Ieee.double.infRung))) := ⟨_, hm, hfin, rfl⟩
  obtain ⟨A', B', hA', hB', h⟩ := mul_iff hF
  have e1 : A' = Fp.un Ieee.double x := hA'.eq ⟨x, rfl, hx, rfl⟩
  have e2 : B' = Fp.un Ieee.double y := hB'.eq ⟨y, rfl, hy, rfl⟩
  rw [← (h P (by rw [e1, e2]; exact hP)).1]
  exact hF
theorem Fz.rep {v : Option Nat} {z : Int} (h : Fz v z) : RepZ z := by
  obtain ⟨x, _, hx, rfl⟩ := h
  have hR := Fp.rep_mag Ieee.double Fp.dF (r := Fp.rg Ieee.double x) (by rw [Fp.rg64, Fp.dI]; exact hx)
  have e : rn (Fp.mag Ieee.double (Fp.rg Ieee.double x) : Int) = Fp.mag Ieee.double (Fp.rg Ieee.double x) := by
    unfold rn
    rw [if_neg (by omega), Int.natAbs_natCast, hR.2]
  have h1 : RepZ (Fp.mag Ieee.double (Fp.rg Ieee.double x) : Int) := by rw [← e]; exact rn_repz _
  unfold Fp.un
  split
  · exact h1.neg
  · exact h1
end Go.Proofs.YtjmaggfddinbkaaGreatDoor
end

section
namespace Go.Proofs.YtjmaggfddinbkaaGreatDoor
def twoS (u v : Option Nat) : Option Nat := fop .add u v
def twoL (u v : Option Nat) : Option Nat := fop .add (fop .sub u (fop .sub (twoS u v) (fop .sub (twoS u v) u))) (fop .sub v (fop .sub (twoS u v) u))
def quiL (u v : Option Nat) : Option Nat := fop .sub v (fop .sub (twoS u v) u)
def halC (u : Option Nat) : Option Nat := fop .mul (some 4728779608772575232) u
def halH (u : Option Nat) : Option Nat := fop .sub (halC u) (fop .sub (halC u) u)
def halL (u : Option Nat) : Option Nat := fop .sub u (halH u)
def proP (u v : Option Nat) : Option Nat := fop .mul u v
def proE (u v : Option Nat) : Option Nat :=
  fop .sub (fop .mul (halL u) (halL v)) (fop .sub (fop .sub (fop .sub (proP u v) (fop .mul (halH u) (halH v))) (fop .mul (halL u) (halH v))) (fop .mul (halH u) (halL v)))
theorem splitter_fz : Fz (some 4728779608772575232) (134217729 * 2 ^ upl) := by
  refine ⟨_, rfl, by decide, ?_⟩
  have e : Fp.mag Ieee.double 4728779608772575232 = 134217729 * 2 ^ upl := by decide +kernel
  have h1 : Fp.sg Ieee.double 4728779608772575232 = false := by decide
  have h2 : Fp.rg Ieee.double 4728779608772575232 = 4728779608772575232 := by decide
  unfold Fp.un
  rw [h1, h2, if_neg Bool.false_ne_true, e, Int.natCast_mul, cast_pow]
  rfl
theorem mu_prod {i j : Nat} {x y : Int} (hx : Mu i x) (hy : Mu j y) (h : upl ≤ i + j) : ∃ N : Int, x * y = N * 2 ^ upl := by
  obtain ⟨a, rfl⟩ := hx
  obtain ⟨b, rfl⟩ := hy
  refine ⟨a * b * 2 ^ (i + j - upl), ?_⟩
  have e : (2 : Int) ^ i * 2 ^ j = 2 ^ (i + j - upl) * 2 ^ upl := by rw [← Int.pow_add, ← Int.pow_add, Nat.sub_add_cancel h]
  have e1 : a * 2 ^ i * (b * 2 ^ j) = a * b * (2 ^ i * 2 ^ j) := by ac_rfl
  rw [e1, e, Int.mul_assoc (a * b)]
end Go.Proofs.YtjmaggfddinbkaaGreatDoor
end

section
namespace Go.Proofs.YtjmaggfddinbkaaGreatDoor
open Go.RowKit
def Pr (S L : Option Nat) (W : World) (e : Ending) (w' : World) : Prop := ∃ s l, e = .returned (.tuple #[.float .f64 s, .float .f64 l]) ∧ s < 18446744073709551616 ∧ l < 18446744073709551616 ∧ fv s = S ∧ fv l = L ∧ Within W w'
theorem fv_arF (op : BinOp) (x y : Nat) (w : World) : fv (arF op x y w) = fop op (fv x) (fv y) := (fv_ar op x y w).1
theorem arF_lt (op : BinOp) (x y : Nat) (w : World) : arF op x y w < 18446744073709551616 := (fv_ar op x y w).2
set_option maxRecDepth 100000 in
set_option maxHeartbeats 600000 in
theorem etwo_any (a b : Nat) (ha : a < 18446744073709551616) (hb : b < 18446744073709551616) (w : World) : Calls Tryz.prog 85 #[.float .f64 a, .float .f64 b] w (Pr (twoS (fv a) (fv b)) (twoL (fv a) (fv b)) w) := by
  have hadd := fun t x y w => run_ar .add (.inr (.inl rfl)) t x y Tryz.prog w
  have hsub := fun t x y w => run_ar .sub (.inl rfl) t x y Tryz.prog w
  have hmul := fun t x y w => run_ar .mul (.inr (.inr (.inl rfl))) t x y Tryz.prog w
  go_enter Tryz.func85, Tryz.ntmps85
  go_wp2
  go_ret2
  exact ⟨_, _, rfl, (by first | assumption | exact arF_lt _ _ _ _), (by first | assumption | exact arF_lt _ _ _ _), (by simp only [fv_arF]; rfl), (by simp only [fv_arF]; rfl), (by repeat (first | with_reducible exact Within.refl _ | with_reducible assumption | with_reducible refine arW_within ?_ _ _ _ | with_reducible refine Within.alloc ?_ _ | with_reducible refine Within.drew ?_ | with_reducible refine Within.trans ?_ (by assumption)))⟩
set_option maxRecDepth 100000 in
set_option maxHeartbeats 600000 in
theorem esplit_any (a : Nat) (ha : a < 18446744073709551616) (w : World) : Calls Tryz.prog 95 #[.float .f64 a] w (Pr (halH (fv a)) (halL (fv a)) w) := by
  have hadd := fun t x y w => run_ar .add (.inr (.inl rfl)) t x y Tryz.prog w
  have hsub := fun t x y w => run_ar .sub (.inl rfl) t x y Tryz.prog w
  have hmul := fun t x y w => run_ar .mul (.inr (.inr (.inl rfl))) t x y Tryz.prog w
  go_enter Tryz.func95, Tryz.ntmps95
  go_wp2
  go_ret2
  exact ⟨_, _, rfl, (by first | assumption | exact arF_lt _ _ _ _), (by first | assumption | exact arF_lt _ _ _ _), (by simp only [fv_arF]; rfl), (by simp only [fv_arF]; rfl), (by repeat (first | with_reducible exact Within.refl _ | with_reducible assumption | with_reducible refine arW_within ?_ _ _ _ | with_reducible refine Within.alloc ?_ _ | with_reducible refine Within.drew ?_ | with_reducible refine Within.trans ?_ (by assumption)))⟩
set_option maxRecDepth 100000 in
set_option maxHeartbeats 600000 in
theorem both_any (a b : Nat) (ha : a < 18446744073709551616) (hb : b < 18446744073709551616) (w : World) : Calls Tryz.prog 84 #[.float .f64 a, .float .f64 b] w (fun e w' => e = .returned (.tuple #[.float .f64 (canonD a), .float .f64 (canonD b)]) ∧ Within w w') := by
  have CA := Lib.hid (fun w => Canon_D a ha w)
  have CB := Lib.hid (fun w => Canon_D b hb w)
  go_enter Tryz.func84, Tryz.ntmps84
  go_wp2_with fail
  refine (CA.out _).mono ?_; rintro e1 w1 ⟨rfl, hb1⟩
  go_wp2_with fail
  refine (CB.out _).mono ?_; rintro e2 w2 ⟨rfl, hb2⟩
  go_wp2
  go_ret2
  exact ⟨rfl, (by repeat (first | with_reducible exact Within.refl _ | with_reducible assumption | with_reducible refine arW_within ?_ _ _ _ | with_reducible refine Within.alloc ?_ _ | with_reducible refine Within.drew ?_ | with_reducible refine Within.trans ?_ (by assumption)))⟩
set_option maxRecDepth 100000 in
set_option maxHeartbeats 600000 in
theorem eprod_any (a b : Nat) (ha : a < 18446744073709551616) (hb : b < 18446744073709551616) (w : World) : Calls Tryz.prog 90 #[.float .f64 a, .float .f64 b] w (Pr (proP (fv a) (fv b)) (proE (fv a) (fv b)) w) := by
  have hadd := fun t x y w => run_ar .add (.inr (.inl rfl)) t x y Tryz.prog w
  have hsub := fun t x y w => run_ar .sub (.inl rfl) t x y Tryz.prog w
  have hmul := fun t x y w => run_ar .mul (.inr (.inr (.inl rfl))) t x y Tryz.prog w
  have SA := Lib.hid (fun w => esplit_any a ha w)
  have SB := Lib.hid (fun w => esplit_any b hb w)
  go_enter Tryz.func90, Tryz.ntmps90
  go_wp2_with fail
  refine (SA.out _).mono ?_; rintro e1 w1 ⟨h, l, rfl, hh, hl, vh, vl, hb1⟩
  go_wp2_with fail
  refine (SB.out _).mono ?_; rintro e2 w2 ⟨i, k, rfl, hi, hk, vi, vk, hb2⟩
  have VH := Lib.hid vh; have VL := Lib.hid vl; have VI := Lib.hid vi; have VK := Lib.hid vk; clear vh vl vi vk
  go_wp2
  go_ret2
  exact ⟨_, _, rfl, (by first | assumption | exact arF_lt _ _ _ _), (by first | assumption | exact arF_lt _ _ _ _), (by simp only [fv_arF]; rfl), (by simp only [fv_arF, VH.out, VL.out, VI.out, VK.out]; rfl), (by repeat (first | with_reducible exact Within.refl _ | with_reducible assumption | with_reducible refine arW_within ?_ _ _ _ | with_reducible refine Within.alloc ?_ _ | with_reducible refine Within.drew ?_ | with_reducible refine Within.trans ?_ (by assumption)))⟩
set_option maxRecDepth 100000 in
set_option maxHeartbeats 600000 in
theorem Etwo_any (a b : Nat) (ha : a < 18446744073709551616) (hb : b < 18446744073709551616) (w : World) : Calls Tryz.prog 27 #[.float .f64 a, .float .f64 b] w (fun e w' => ∃ s l, e = .returned (.tuple #[.float .f64 (canonD s), .float .f64 (canonD l)]) ∧ s < 18446744073709551616 ∧ l < 18446744073709551616 ∧ fv s = twoS (fv a) (fv b) ∧ fv l = twoL (fv a) (fv b) ∧ Within w w') := by
  have TW := Lib.hid (fun w => etwo_any a b ha hb w)
  go_enter Tryz.func27, Tryz.ntmps27
  go_wp2_with fail
  refine (TW.out _).mono ?_; rintro e1 w1 ⟨s, l, rfl, hs, hl, vs, vl, hb1⟩
  have VS := Lib.hid vs; have VL := Lib.hid vl; clear vs vl
  go_wp2_with fail
  refine (both_any s l hs hl _).mono ?_; rintro e2 w2 ⟨rfl, hb2⟩
  go_wp2
  go_ret2
  exact ⟨s, l, rfl, hs, hl, VS.out, VL.out, (by repeat (first | with_reducible exact Within.refl _ | with_reducible assumption | with_reducible refine arW_within ?_ _ _ _ | with_reducible refine Within.alloc ?_ _ | with_reducible refine Within.drew ?_ | with_reducible refine Within.trans ?_ (by assumption)))⟩
set_option maxRecDepth 100000 in
set_option maxHeartbeats 600000 in
theorem Esplit_any (a : Nat) (ha : a < 18446744073709551616) (w : World) : Calls Tryz.prog 43 #[.float .f64 a] w (fun e w' => ∃ s l, e = .returned (.tuple #[.float .f64 (canonD s), .float .f64 (canonD l)]) ∧ s < 18446744073709551616 ∧ l < 18446744073709551616 ∧ fv s = halH (fv a) ∧ fv l = halL (fv a) ∧ Within w w') := by
  have TW := Lib.hid (fun w => esplit_any a ha w)
  go_enter Tryz.func43, Tryz.ntmps43
  go_wp2_with fail
  refine (TW.out _).mono ?_; rintro e1 w1 ⟨s, l, rfl, hs, hl, vs, vl, hb1⟩
  have VS := Lib.hid vs; have VL := Lib.hid vl; clear vs vl
  go_wp2_with fail
  refine (both_any s l hs hl _).mono ?_; rintro e2 w2 ⟨rfl, hb2⟩
  go_wp2
  go_ret2
  exact ⟨s, l, rfl, hs, hl, VS.out, VL.out, (by repeat (first | with_reducible exact Within.refl _ | with_reducible assumption | with_reducible refine arW_within ?_ _ _ _ | with_reducible refine Within.alloc ?_ _ | with_reducible refine Within.drew ?_ | with_reducible refine Within.trans ?_ (by assumption)))⟩
set_option maxRecDepth 100000 in
set_option maxHeartbeats 600000 in
theorem Eprod_any (a b : Nat) (ha : a < 18446744073709551616) (hb : b < 18446744073709551616) (w : World) : Calls Tryz.prog 57 #[.float .f64 a, .float .f64 b] w (fun e w' => ∃ s l, e = .returned (.tuple #[.float .f64 (canonD s), .float .f64 (canonD l)]) ∧ s < 18446744073709551616 ∧ l < 18446744073709551616 ∧ fv s = proP (fv a) (fv b) ∧ fv l = proE (fv a) (fv b) ∧ Within w w') := by
  have TW := Lib.hid (fun w => eprod_any a b ha hb w)
  go_enter Tryz.func57, Tryz.ntmps57
  go_wp2_with fail
  refine (TW.out _).mono ?_; rintro e1 w1 ⟨s, l, rfl, hs, hl, vs, vl, hb1⟩
  have VS := Lib.hid vs; have VL := Lib.hid vl; clear vs vl
  go_wp2_with fail
  refine (both_any s l hs hl _).mono ?_; rintro e2 w2 ⟨rfl, hb2⟩
  go_wp2
  go_ret2
  exact ⟨s, l, rfl, hs, hl, VS.out, VL.out, (by repeat (first | with_reducible exact Within.refl _ | with_reducible assumption | with_reducible refine arW_within ?_ _ _ _ | with_reducible refine Within.alloc ?_ _ | with_reducible refine Within.drew ?_ | with_reducible refine Within.trans ?_ (by assumption)))⟩
end Go.Proofs.YtjmaggfddinbkaaGreatDoor
end

section
namespace Go.Proofs.YtjmaggfddinbkaaGreatDoor
def finV : Option Nat → Bool
  | none => false
  | some x => decide (x % 9223372036854775808 < 9218868437227405312)
def nzV : Option Nat → Bool
  | none => true
  | some x => decide (x % 9223372036854775808 ≠ 0)
def finW (x : Nat) : Bool := decide (x % 9223372036854775808 < 9218868437227405312)
theorem finV_fv (x : Nat) : finV (fv x) = finW x := by
  unfold fv finW
  split
  · exact (decide_eq_false (by omega)).symm
  · rfl
theorem nzV_fv (x : Nat) : nzV (fv x) = decide (x % 9223372036854775808 ≠ 0) := by
  unfold fv
  split
  · exact (decide_eq_true (by omega)).symm
  · rfl
def layV (l : List (Option Nat)) (h : Option Nat) : List (Option Nat) := if nzV h then l ++ [h] else l
theorem layV_len (l : List (Option Nat)) (h : Option Nat) : (layV l h).length ≤ l.length + 1 := by
  unfold layV; split
  · simp
  · omega
structure Lay where
  q : Option Nat
  l : List (Option Nat)
  ov : Bool
def Lay.see (s : Lay) (a b : Option Nat) : Bool := s.ov || !finV a || !finV b
def growStep (s : Lay) (e : Option Nat) : Lay := ⟨twoS s.q e, layV s.l (twoL s.q e), s.see (twoS s.q e) (twoL s.q e)⟩
def growSt (es : List (Option Nat)) (b : Option Nat) : Lay := es.foldl growStep ⟨b, [], false⟩
def Lay.all (s : Lay) : List (Option Nat) := layV s.l s.q
def Lay.err (s : Lay) : Int := if s.ov then 5 else if 64 < s.all.length then 2 else 0
def Lay.out (s : Lay) : List (Option Nat) := if s.err = 0 then s.all else []
theorem fold_take {α β : Type} (f : α → β → α) (s : α) (l : List β) (d : β) {k : Nat} (h : k < l.length) : (l.take (k + 1)).foldl f s = f ((l.take k).foldl f s) (l.getD k d) := by
  have e : l.take (k + 1) = l.take k ++ [l.getD k d] := by
    rw [List.take_add_one, List.getD, List.getElem?_eq_getElem h]; rfl
  rw [e, List.foldl_append]; rfl
theorem growSt_len (es : List (Option Nat)) (b : Option Nat) : (growSt es b).l.length ≤ es.length := by
  have key : ∀ (es : List (Option Nat)) (s : Lay), (es.foldl growStep s).l.length ≤ s.l.length + es.length := by
    intro es
    induction es with
    | nil => intro s; exact Nat.le_refl _
    | cons e es ih =>
      intro s
      have h1 := ih (growStep s e)
      have h2 : (growStep s e).l.length ≤ s.l.length + 1 := layV_len _ _
      simp only [List.foldl_cons, List.length_cons]
      omega
  have := key es ⟨b, [], false⟩
  simpa [growSt] using this
def downStep (s : Lay) (e : Option Nat) : Lay :=
  let S := twoS s.q e
  let h := quiL s.q e
  if nzV h then ⟨h, s.l ++ [S], s.see S h⟩ else ⟨S, s.l, s.see S h⟩
def upStep (s : Lay) (g : Option Nat) : Lay := ⟨twoS g s.q, layV s.l (quiL g s.q), s.see (twoS g s.q) (quiL g s.q)⟩
end Go.Proofs.YtjmaggfddinbkaaGreatDoor
end

section
namespace Go.Proofs.YtjmaggfddinbkaaGreatDoor
open Go.RowKit
theorem finD_is {x : Nat} (h : x < 18446744073709551616) : finD x = finW x := by
  unfold finD finW classD classOf expD fracD canonD nanD
  refine decide_eq_decide.2 ?_
  by_cases hn : 9218868437227405312 < x % 9223372036854775808
  · rw [decide_eq_true hn, if_pos rfl]
    simp
    omega
  · rw [decide_eq_false hn, if_neg Bool.false_ne_true]
    split
    · omega
    split
    · omega
    split
    · omega
    split <;> omega
theorem fin_sub (x : Nat) (w : World) : (FloatKind.f64.format.order (arF .sub x x w) 0 == some .eq) = finW x := by
  unfold arF finW
  obtain ⟨h1, h2⟩ := sub_self_zero x
  by_cases hf : x % 9223372036854775808 < 9218868437227405312
  · rw [h1 hf, decide_eq_true hf]
    show (FloatKind.f64.format.order 0 0 == some .eq) = true
    decide
  · rw [h2 hf, decide_eq_false hf]
    exact c_nan (.inl (cut_nan x x _).1) _
def LayP (w : World) (p : Nat) (L : List (Option Nat)) (ov : Bool) : Prop :=
  ∃ sv ls, w.cell? ⟨p, 0, none⟩ = some sv ∧ w.cell? ⟨p, 1, none⟩ = some (.bool ov) ∧ (∀ i, w.frozen? ⟨p, i, none⟩ = false) ∧ OwnF w (p + 1) sv ls ∧ Words64 ls ∧ ls.map fv = L
theorem LayP.lt {w : World} {p : Nat} {L : List (Option Nat)} {ov : Bool} (h : LayP w p L ov) : p < w.heap.size := by
  obtain ⟨sv, ls, h0, _⟩ := h
  exact World.block_lt_of_cell? _ _ h0
theorem LayP.of {w w' : World} {p : Nat} {L : List (Option Nat)} {ov : Bool} (h : LayP w p L ov) (k : Within w w') : LayP w' p L ov := by
  have hl := h.lt
  obtain ⟨sv, ls, h0, h1, hf, ho, hw, hm⟩ := h
  exact ⟨sv, ls, (k.cells _ _ hl).trans h0, (k.cells _ _ hl).trans h1, fun i => (k.frozens _ i hl).trans (hf i), ho.of k, hw, hm⟩
theorem LayP.see {w : World} {p : Nat} {L : List (Option Nat)} {ov : Bool} (h : LayP w p L ov) (b : Bool) : LayP (w.setCell ⟨p, 1, none⟩ (.bool b)) p L b := by
  obtain ⟨sv, ls, h0, h1, hf, ho, hw, hm⟩ := h
  have hl := World.block_lt_of_cell? _ _ h0
  exact ⟨sv, ls, by go_simp, by go_simp, fun i => by go_simp, ho.set (Nat.lt_succ_self p) _, hw, hm⟩
def ResF (W : World) (L : List (Option Nat)) (er : Int) (e : Ending) (w' : World) : Prop := ∃ sv ls, e = .returned (.tuple #[sv, .int .i64 er]) ∧ OwnF w' W.heap.size sv ls ∧ Words64 ls ∧ ls.map fv = L ∧ Within W w'
theorem below_within {W w w' : World} {p : Nat} (h : Within W w) (k : Below p w w') (hp : W.heap.size ≤ p) : Within W w' := Below.trans h (Below.mono k hp)
set_option maxRecDepth 100000 in
set_option maxHeartbeats 600000 in
theorem efinite_any (x : Nat) (w : World) : Calls Tryz.prog 66 #[.float .f64 x] w fun e w' => e = .returned (.bool (finW x)) ∧ Within w w' := by
  have hsub := fun t x y w => run_ar .sub (.inl rfl) t x y Tryz.prog w
  have hf := fun w => fin_sub x w
  go_enter Tryz.func66, Tryz.ntmps66
  go_wp2
  go_ret
  exact ⟨rfl, (by repeat (first | with_reducible exact Within.refl _ | with_reducible assumption | with_reducible refine arW_within ?_ _ _ _ | with_reducible refine Within.alloc ?_ _ | with_reducible refine Within.drew ?_ | with_reducible refine Within.trans ?_ (by assumption)))⟩
set_option maxRecDepth 100000 in
set_option maxHeartbeats 600000 in
theorem see_ov (p a b : Nat) (L : List (Option Nat)) (w : World) (h : LayP w p L true) : Calls Tryz.prog 89 #[.pointer (some ⟨p, 0, none⟩), .float .f64 a, .float .f64 b] w fun e w' => e = .returned (.tuple #[.float .f64 a, .float .f64 b]) ∧ LayP w' p L (true || !finW a || !finW b) ∧ Below p w w' := by
  have hL0 := h.lt
  have hLL := Lib.hid h
  obtain ⟨sv, ls, s0, t0, u0, _⟩ := h
  have FI := Lib.hid (fun x w => efinite_any x w)
  have e : (true || !finW a || !finW b) = true := rfl
  rw [e]
  clear e
  go_enter Tryz.func89, Tryz.ntmps89
  go_wp2
  go_ret2
  exact ⟨rfl, hLL.out.see true, Below.setCell (p := ⟨p, 1, none⟩) (Below.refl _ _) (Nat.le_refl p) _⟩
set_option maxRecDepth 100000 in
set_option maxHeartbeats 600000 in
theorem see_a (p a b : Nat) (L : List (Option Nat)) (ha : finW a = false) (w : World) (h : LayP w p L false) : Calls Tryz.prog 89 #[.pointer (some ⟨p, 0, none⟩), .float .f64 a, .float .f64 b] w fun e w' => e = .returned (.tuple #[.float .f64 a, .float .f64 b]) ∧ LayP w' p L (false || !finW a || !finW b) ∧ Below p w w' := by
  have hL0 := h.lt
  have hLL := Lib.hid h
  obtain ⟨sv, ls, s0, t0, u0, _⟩ := h
  have FI := Lib.hid (fun x w => efinite_any x w)
  have e : (false || !finW a || !finW b) = true := by rw [ha]; rfl
  rw [e]
  clear e
  have HA := Lib.hid ha; clear ha
  go_enter Tryz.func89, Tryz.ntmps89
  go_wp2_with fail
  refine (FI.out a _).mono ?_; rintro e1 w1 ⟨rfl, hb1⟩
  rw [HA.out]
  have hL1 := hLL.out.of hb1
  obtain ⟨sv1, ls1, s1, t1, u1, _⟩ := hL1
  have z1 : p < w1.heap.size := Nat.lt_of_lt_of_le hL0 hb1.sizes
  have hL1 := hLL.out.of hb1
  go_wp2
  go_ret2
  exact ⟨rfl, (hL1).see true, Below.setCell (p := ⟨p, 1, none⟩) (Below.mono hb1 (Nat.le_of_lt hL0)) (Nat.le_refl p) _⟩
set_option maxRecDepth 100000 in
set_option maxHeartbeats 600000 in
theorem see_b (p a b : Nat) (L : List (Option Nat)) (ha : finW a = true) (w : World) (h : LayP w p L false) : Calls Tryz.prog 89 #[.pointer (some ⟨p, 0, none⟩), .float .f64 a, .float .f64 b] w fun e w' => e = .returned (.tuple #[.float .f64 a, .float .f64 b]) ∧ LayP w' p L (false || !finW a || !finW b) ∧ Below p w w' := by
  have hL0 := h.lt
  have hLL := Lib.hid h
  obtain ⟨sv, ls, s0, t0, u0, _⟩ := h
  have FI := Lib.hid (fun x w => efinite_any x w)
  have e : (false || !finW a || !finW b) = !finW b := by rw [ha]; rfl
  rw [e]
  clear e
  have HA := Lib.hid ha; clear ha
  go_enter Tryz.func89, Tryz.ntmps89
  go_wp2_with fail
  refine (FI.out a _).mono ?_; rintro e1 w1 ⟨rfl, hb1⟩
  rw [HA.out]
  have hL1 := hLL.out.of hb1
  obtain ⟨sv1, ls1, s1, t1, u1, _⟩ := hL1
  have z1 : p < w1.heap.size := Nat.lt_of_lt_of_le hL0 hb1.sizes
  have hL1 := hLL.out.of hb1
  go_wp2_with fail
  refine (FI.out b _).mono ?_; rintro e2 w2 ⟨rfl, hb2'⟩
  have hb2 := hb1.trans hb2'
  have hL2 := hLL.out.of hb2
  obtain ⟨sv2, ls2, s2, t2, u2, _⟩ := hL2
  have z2 : p < w2.heap.size := Nat.lt_of_lt_of_le hL0 hb2.sizes
  have hL2 := hLL.out.of hb2
  go_wp2
  go_ret2
  exact ⟨rfl, (hL2).see (!finW b), Below.setCell (p := ⟨p, 1, none⟩) (Below.mono hb2 (Nat.le_of_lt hL0)) (Nat.le_refl p) _⟩
theorem see_any (p a b : Nat) (L : List (Option Nat)) (ov : Bool) (w : World) (h : LayP w p L ov) : Calls Tryz.prog 89 #[.pointer (some ⟨p, 0, none⟩), .float .f64 a, .float .f64 b] w fun e w' => e = .returned (.tuple #[.float .f64 a, .float .f64 b]) ∧ LayP w' p L (ov || !finW a || !finW b) ∧ Below p w w' := by
  cases ov
  · cases ha : finW a
    · have := see_a p a b L ha w h
      rwa [ha] at this
    · have := see_b p a b L ha w h
      rwa [ha] at this
  · exact see_ov p a b L w h
theorem SlAt.two (w : World) (u v : Value) (E : TypeId) : SlAt (w.alloc (.cells #[u, v] E)) (some ⟨w.heap.size, 0, none⟩) [u, v] := fun _ => by
  refine ⟨_, rfl, by simp, fun j x hj => ?_⟩
  match j, hj with
  | 0, hj =>
    have e : u = x := by simpa using hj
    subst e
    rw [add_nought, World.cell?_alloc_at _ _ _ _ rfl]; rfl
  | 1, hj =>
    have e : v = x := by simpa using hj
    subst e
    rw [show (Addr.add ⟨w.heap.size, 0, none⟩ 1) = ⟨w.heap.size, 1, none⟩ from rfl, World.cell?_alloc_at _ _ _ _ rfl]; rfl
  | j + 2, hj => simp at hj
set_option maxRecDepth 100000 in
set_option maxHeartbeats 600000 in
theorem elay_no (p x : Nat) (L : List (Option Nat)) (ov : Bool) (hx : x % 9223372036854775808 = 0) (w : World) (h : LayP w p L ov) : Calls Tryz.prog 91 #[.pointer (some ⟨p, 0, none⟩), .float .f64 x] w fun e w' => e = .returned (.tuple #[]) ∧ LayP w' p (layV L (fv x)) ov ∧ Below p w w' := by
  have hz : (FloatKind.f64.format.order x 0 == some .eq) = true := by rw [c_zero, decide_eq_true hx]
  have hne : (FloatKind.f64.format.order x 0 != some .eq) = false := by simp [bne, hz]
  have hl : layV L (fv x) = L := by unfold layV; rw [nzV_fv, decide_eq_false (fun g => g hx)]; rfl
  rw [hl]
  clear hx hl
  have hLL := Lib.hid h; clear h
  go_enter Tryz.func91, Tryz.ntmps91
  go_wp2
  go_end0
  exact ⟨rfl, hLL.out, Below.refl _ _⟩
set_option maxRecDepth 100000 in
set_option maxHeartbeats 600000 in
theorem elay_yes (p x : Nat) (L : List (Option Nat)) (ov : Bool) (hx : ¬ x % 9223372036854775808 = 0) (hx2 : x < 18446744073709551616) (hn : L.length ≤ 1000000) (w : World) (h : LayP w p L ov) : Calls Tryz.prog 91 #[.pointer (some ⟨p, 0, none⟩), .float .f64 x] w fun e w' => e = .returned (.tuple #[]) ∧ LayP w' p (layV L (fv x)) ov ∧ Below p w w' := by
  have hz : (FloatKind.f64.format.order x 0 == some .eq) = false := by rw [c_zero, decide_eq_false hx]
  have hne : (FloatKind.f64.format.order x 0 != some .eq) = true := by simp [bne, hz]
  have hl : layV L (fv x) = L ++ [fv x] := by unfold layV; rw [nzV_fv, decide_eq_true hx]; rfl
  rw [hl]
  clear hx hl
  have hL0 := h.lt
  obtain ⟨sv, ls, s0, t0, u0, hown, hw, hm⟩ := h
  obtain ⟨A, c, rfl, _, _, _⟩ := hown.form
  have hlen : ls.length = L.length := by rw [← hm, List.length_map]
  obtain ⟨v', w', hrun, hown', hbl'⟩ := run_app_float w (p + 1) _ _ x hown (by omega) hL0
  obtain ⟨A2, c2, rfl, _, _, _⟩ := hown'.form
  have RUN := Lib.hid hrun; have HOW := Lib.hid hown'
  obtain ⟨n2, hn2⟩ : ∃ n2, n2 = (ls ++ [x]).length := ⟨_, rfl⟩
  rw [← hn2] at RUN HOW
  clear hn2
  have HW := Lib.hid hw; have HM := Lib.hid hm
  clear hrun hown' hown hw hm hlen hn
  have s1 : w'.cell? ⟨p, 1, none⟩ = some (.bool ov) := (hbl'.cell (p := ⟨p, 1, none⟩) (Nat.lt_succ_self p)).trans t0
  have s2 : ∀ i, w'.frozen? ⟨p, i, none⟩ = false := fun i => (hbl'.frozen (p := ⟨p, i, none⟩) (Nat.lt_succ_self p)).trans (u0 i)
  have s3 : w'.cell? ⟨p, 0, none⟩ = some (.slice A ls.length c) := (hbl'.cell (p := ⟨p, 0, none⟩) (Nat.lt_succ_self p)).trans s0
  have s4 : p < w'.heap.size := World.block_lt_of_cell? _ _ s3
  obtain ⟨n, hn⟩ : ∃ n, n = ls.length := ⟨_, rfl⟩
  rw [← hn] at s0 s3 RUN
  clear hn
  go_enter Tryz.func91, Tryz.ntmps91
  go_wp2_with (at_builtin; refine wpList_append_run rfl (.tmp 10) (.tmp 12) 24 rfl _ _ rfl rfl RUN.out ?_)
  go_end0
  exact ⟨rfl, ⟨_, ls ++ [x], by go_simp, by go_simp, fun i => by go_simp, (HOW.out).set (Nat.lt_succ_self p) _, (fun y hy => by rcases List.mem_append.1 hy with hy | hy; exact HW.out y hy; rcases List.mem_singleton.1 hy with rfl; exact hx2), by rw [List.map_append, HM.out]; rfl⟩, Below.setCell (p := ⟨p, 0, none⟩) (Below.mono hbl' (Nat.le_succ p)) (Nat.le_refl p) _⟩
theorem elay_any (p x : Nat) (L : List (Option Nat)) (ov : Bool) (hx : x < 18446744073709551616) (hn : L.length ≤ 1000000) (w : World) (h : LayP w p L ov) : Calls Tryz.prog 91 #[.pointer (some ⟨p, 0, none⟩), .float .f64 x] w fun e w' => e = .returned (.tuple #[]) ∧ LayP w' p (layV L (fv x)) ov ∧ Below p w w' := by
  by_cases h0 : x % 9223372036854775808 = 0
  · exact elay_no p x L ov h0 w h
  · exact elay_yes p x L ov h0 hx hn w h
def endE (L : List (Option Nat)) (ov : Bool) : Int := if ov then 5 else if 64 < L.length then 2 else 0
set_option maxRecDepth 100000 in
set_option maxHeartbeats 600000 in
theorem eend_ov (p : Nat) (L : List (Option Nat)) (w : World) (h : LayP w p L true) : Calls Tryz.prog 92 #[.pointer (some ⟨p, 0, none⟩)] w fun e w' => (∃ sv ls, e = .returned (.tuple #[sv, .int .i64 5]) ∧ OwnF w' (p + 1) sv ls ∧ Words64 ls ∧ ls.map fv = []) ∧ w = w' := by
  obtain ⟨sv, ls, s0, t0, u0, _⟩ := h
  go_enter Tryz.func92, Tryz.ntmps92
  go_wp2
  go_ret2
  exact ⟨⟨_, [], rfl, OwnF.nil_ _ _, (fun x hx => by cases hx), rfl⟩, rfl⟩
set_option maxRecDepth 100000 in
set_option maxHeartbeats 600000 in
theorem eend_long (p : Nat) (L : List (Option Nat)) (hn : 64 < L.length) (w : World) (h : LayP w p L false) : Calls Tryz.prog 92 #[.pointer (some ⟨p, 0, none⟩)] w fun e w' => (∃ sv ls, e = .returned (.tuple #[sv, .int .i64 2]) ∧ OwnF w' (p + 1) sv ls ∧ Words64 ls ∧ ls.map fv = []) ∧ w = w' := by
  obtain ⟨sv, ls, s0, t0, u0, hown, hw, hm⟩ := h
  obtain ⟨A, c, rfl, _, _, _⟩ := hown.form
  have hlen : ls.length = L.length := by rw [← hm, List.length_map]
  obtain ⟨n, hn2⟩ : ∃ n, n = ls.length := ⟨_, rfl⟩
  rw [← hn2] at s0
  have d1 : decide ((n : Int) > 64) = true := decide_eq_true (by omega)
  clear hown hw hm hlen hn hn2
  go_enter Tryz.func92, Tryz.ntmps92
  go_wp2
  go_ret2
  exact ⟨⟨_, [], rfl, OwnF.nil_ _ _, (fun x hx => by cases hx), rfl⟩, rfl⟩
set_option maxRecDepth 100000 in
set_option maxHeartbeats 600000 in
theorem eend_fine (p : Nat) (L : List (Option Nat)) (hn : L.length ≤ 64) (w : World) (h : LayP w p L false) : Calls Tryz.prog 92 #[.pointer (some ⟨p, 0, none⟩)] w fun e w' => (∃ sv ls, e = .returned (.tuple #[sv, .int .i64 0]) ∧ OwnF w' (p + 1) sv ls ∧ Words64 ls ∧ ls.map fv = L) ∧ w = w' := by
  obtain ⟨sv, ls, s0, t0, u0, hown, hw, hm⟩ := h
  obtain ⟨A, c, rfl, _, _, _⟩ := hown.form
  have hlen : ls.length = L.length := by rw [← hm, List.length_map]
  have HO := Lib.hid hown; have HW := Lib.hid hw; have HM := Lib.hid hm
  obtain ⟨n, hn2⟩ : ∃ n, n = ls.length := ⟨_, rfl⟩
  rw [← hn2] at s0 HO
  have d1 : decide ((n : Int) > 64) = false := decide_eq_false (by omega)
  clear hown hw hm hlen hn hn2
  go_enter Tryz.func92, Tryz.ntmps92
  go_wp2
  go_ret2
  exact ⟨⟨_, ls, rfl, HO.out, HW.out, HM.out⟩, rfl⟩
theorem eend_any (p : Nat) (L : List (Option Nat)) (ov : Bool) (w : World) (h : LayP w p L ov) : Calls Tryz.prog 92 #[.pointer (some ⟨p, 0, none⟩)] w fun e w' => (∃ sv ls, e = .returned (.tuple #[sv, .int .i64 (endE L ov)]) ∧ OwnF w' (p + 1) sv ls ∧ Words64 ls ∧ ls.map fv = (if endE L ov = 0 then L else [])) ∧ w = w' := by
  unfold endE
  cases ov
  · rw [if_neg Bool.false_ne_true]
    by_cases hn : 64 < L.length
    · rw [if_pos hn, if_neg (by decide)]; exact eend_long p L hn w h
    · rw [if_neg hn, if_pos rfl]; exact eend_fine p L (by omega) w h
  · rw [if_pos rfl, if_neg (by decide)]; exact eend_ov p L w h
end Go.Proofs.YtjmaggfddinbkaaGreatDoor
end

section
namespace Go.Proofs.YtjmaggfddinbkaaGreatDoor
open Go.RowKit
theorem LayP.made (w : World) (T : TypeId) : LayP (w.alloc (.cells #[.slice none 0 0, .bool false] T)) w.heap.size [] false := by
  refine ⟨.slice none 0 0, [], ?_, ?_, fun i => ?_, OwnF.nil_ _ _, (fun x hx => by cases hx), rfl⟩
  · rw [World.cell?_alloc_at _ _ _ _ rfl]; rfl
  · rw [World.cell?_alloc_at _ _ _ _ rfl]; rfl
  · simp
def gs (es : List Nat) (b k : Nat) : Lay := ((es.map fv).take k).foldl growStep ⟨fv b, [], false⟩
theorem gs_zero (es : List Nat) (b : Nat) : gs es b 0 = ⟨fv b, [], false⟩ := by unfold gs; rw [List.take_zero]; rfl
theorem gs_all (es : List Nat) (b : Nat) : gs es b es.length = growSt (es.map fv) (fv b) := by
  unfold gs growSt
  rw [List.take_of_length_le (by rw [List.length_map]; exact Nat.le_refl _)]
theorem getD_fv (es : List Nat) {k : Nat} (h : k < es.length) : (es.map fv).getD k none = fv (es.getD k 0) := by
  simp [List.getD, h]
theorem gs_succ (es : List Nat) (b : Nat) {k : Nat} (h : k < es.length) : gs es b (k + 1) = growStep (gs es b k) (fv (es.getD k 0)) := by
  unfold gs
  rw [fold_take growStep _ (es.map fv) none (by rw [List.length_map]; exact h), getD_fv es h]
theorem gs_len (es : List Nat) (b k : Nat) : (gs es b k).l.length ≤ es.length := by
  have := growSt_len ((es.map fv).take k) (fv b)
  have h2 : ((es.map fv).take k).length ≤ es.length := by rw [List.length_take, List.length_map]; exact Nat.min_le_right _ _
  exact Nat.le_trans this h2
set_option maxRecDepth 100000 in
set_option maxHeartbeats 600000 in
theorem egrow_any (A : Option Addr) (c : Nat) (es : List Nat) (b : Nat) (hw : Words64 es) (hl : es.length ≤ 100000) (hb : b < 18446744073709551616) (w : World) (hr : SlAt w A (f64v es)) : Calls Tryz.prog 67 #[.slice A es.length c, .float .f64 b] w (ResF w (growSt (es.map fv) (fv b)).out (growSt (es.map fv) (fv b)).err) := by
  have HW := Lib.hid hw; have HR := Lib.hid hr; have HL := Lib.hid hl; have HB := Lib.hid hb; have hl2 : es.length ≤ 1152921504606846976 := by omega
  clear hw hr hl hb
  have LAY0 := LayP.made w 94
  go_enter Tryz.func67, Tryz.ntmps67
  go_wp2
  go_loopw [7, 15] (fun qv iv wr => ∃ k q : Nat, k ≤ es.length ∧ iv = .int .i64 (k : Int) ∧ qv = .float .f64 q ∧ q < 18446744073709551616 ∧ fv q = (gs es b k).q ∧ LayP wr w.heap.size (gs es b k).l (gs es b k).ov ∧ Within w wr) (fun _ iv _ => es.length - (intOf iv).toNat)
  case atStart => exact ⟨0, b, Nat.zero_le _, rfl, rfl, HB.out, by rw [gs_zero], by rw [gs_zero]; exact LAY0, (by repeat (first | with_reducible exact Within.refl _ | with_reducible assumption | with_reducible refine arW_within ?_ _ _ _ | with_reducible refine Within.alloc ?_ _ | with_reducible refine Within.drew ?_ | with_reducible refine Within.trans ?_ (by assumption)))⟩
  case round =>
    obtain ⟨k, q, hk, rfl, rfl, hq, vq, hL, hin⟩ := hrel
    have HQ := Lib.hid hq; have VQ := Lib.hid vq; have LL := Lib.hid hL; clear hq vq hL
    by_cases hlt : k < es.length
    · obtain ⟨ad, rfl, hblk, hc⟩ := (HR.out.of hin).at hlt
      obtain ⟨x, hx⟩ : ∃ x, x = es.getD k 0 := ⟨_, rfl⟩
      have hx2 : x < 18446744073709551616 := by rw [hx]; exact HW.out.at hlt
      rw [← hx] at hc
      have HX2 := Lib.hid hx2; clear hx2
      have hnext := gs_succ es b hlt
      rw [← hx] at hnext
      have HN := Lib.hid hnext; clear hnext hx
      have TW := Lib.hid (fun w => etwo_any q x HQ.out HX2.out w)
      have hlen := Nat.le_trans (gs_len es b k) HL.out
      have HLEN := Lib.hid hlen; clear hlen
      go_wp2_with fail
      refine (TW.out _).mono ?_; rintro e1 w1 ⟨s, l, rfl, hs, hl', vs, vl, hb1⟩
      have HS := Lib.hid hs; have HL2 := Lib.hid hl'; have VS := Lib.hid vs; have VL := Lib.hid vl; clear hs hl' vs vl
      have L1 := Lib.hid (LL.out.of hb1)
      go_wp2_with fail
      refine (see_any _ s l _ _ _ L1.out).mono ?_; rintro e2 w2 ⟨rfl, hL2, hb2⟩
      have L2 := Lib.hid hL2; clear hL2
      go_wp2_with fail
      refine (elay_any _ l _ _ HL2.out (Nat.le_trans HLEN.out (by decide)) _ L2.out).mono ?_; rintro e3 w3 ⟨rfl, hL3, hb3⟩
      have hin3 : Within w w3 := below_within (below_within (hin.trans hb1) hb2 (Nat.le_refl _)) hb3 (Nat.le_refl _)
      have L3 := Lib.hid hL3; clear hL3 hb1 hb2 hb3
      go_wp2
      go_roundw
      case rel =>
        refine ⟨k + 1, s, hlt, by go_num, rfl, HS.out, ?_, ?_, hin3⟩
        · rw [HN.out, VS.out, VQ.out]; rfl
        · rw [HN.out]
          have h := L3.out
          rw [VL.out, VQ.out] at h
          have e : ((gs es b k).ov || !finW s || !finW l) = (gs es b k).see (twoS (gs es b k).q (fv x)) (twoL (gs es b k).q (fv x)) := by
            unfold Lay.see; rw [← VQ.out, ← VS.out, ← VL.out, finV_fv, finV_fv]
          rw [e] at h
          exact h
      case measure => simp [intOf]; omega
    · obtain rfl : k = es.length := by omega
      have vq2 := VQ.out
      rw [gs_all] at vq2
      have l0 := LL.out
      rw [gs_all] at l0
      have VQ2 := Lib.hid vq2; have LL2 := Lib.hid l0; clear vq2 l0
      have hlen : (growSt (es.map fv) (fv b)).l.length ≤ 1000000 := Nat.le_trans (growSt_len _ _) (by rw [List.length_map]; exact Nat.le_trans HL.out (by decide))
      have HLEN := Lib.hid hlen; clear hlen
      go_wp2_with fail
      refine (elay_any _ q _ _ HQ.out HLEN.out _ LL2.out).mono ?_; rintro e3 w3 ⟨rfl, hL3, hb3⟩
      rw [VQ2.out] at hL3
      have hin3 : Within w w3 := below_within hin hb3 (Nat.le_refl _)
      have L3 := Lib.hid hL3; clear hL3 hb3
      go_wp2_with fail
      refine (eend_any _ _ _ _ L3.out).mono ?_; rintro e4 w4 ⟨⟨sv, ls, rfl, hown, hw', hm⟩, rfl⟩
      have HO := Lib.hid hown; have HM := Lib.hid hm; have HWW := Lib.hid hw'; clear hown hm hw'
      go_wp2
      go_ret2
      exact ⟨_, ls, rfl, HO.out.less (Nat.le_succ _), HWW.out, HM.out, hin3⟩
end Go.Proofs.YtjmaggfddinbkaaGreatDoor
end

section
namespace Go.Proofs.YtjmaggfddinbkaaGreatDoor
open Go.RowKit
/-! amounts by their parts -/
theorem fin_canon {b : Nat} (h : b % 9223372036854775808 < 9218868437227405312) : canonD b = b := by
  unfold canonD
  rw [if_neg]
  unfold nanD
  simp; omega
theorem fin_exp {b : Nat} (h : b % 9223372036854775808 < 9218868437227405312) : expD b = b % 9223372036854775808 / 4503599627370496 ∧ fracD b = b % 4503599627370496 ∧ expD b < 2047 := by
  unfold expD fracD
  rw [fin_canon h]
  omega
theorem mag_parts {b : Nat} (h : b % 9223372036854775808 < 9218868437227405312) : Fp.mag Ieee.double (b % 9223372036854775808) = mantD b * 2 ^ (lowD b + 1074).toNat := by
  obtain ⟨h1, h2, h3⟩ := fin_exp h
  unfold Fp.mag mantD lowD
  rw [Fp.dB, h2, h1]
  by_cases h0 : b % 9223372036854775808 < 4503599627370496
  · rw [if_pos h0, if_pos (by omega), if_pos (by omega), show (((1 : Nat) : Int) - 1075 + 1074).toNat = 0 from rfl, Nat.pow_zero, Nat.mul_one]
    omega
  · rw [if_neg h0, if_neg (by omega), if_neg (by omega), show (((b % 9223372036854775808 / 4503599627370496 : Nat) : Int) - 1075 + 1074).toNat = b % 9223372036854775808 / 4503599627370496 - 1 by omega]
    congr 1
    omega
theorem lowD_ge (b : Nat) : -1074 ≤ lowD b := by unfold lowD; split <;> omega
theorem mag_odd {b : Nat} (h : b % 9223372036854775808 < 9218868437227405312) : Fp.mag Ieee.double (b % 9223372036854775808) = pMantD b * 2 ^ (pExpD b + 1074).toNat := by
  rw [mag_parts h]
  obtain ⟨_, _, h3⟩ := fin_exp h
  unfold pMantD pExpD
  rw [if_neg (by omega)]
  by_cases h0 : mantD b = 0
  · rw [if_pos (.inr h0), h0, Nat.zero_mul, Nat.zero_div, Nat.zero_mul]
  · rw [if_neg (by omega)]
    obtain ⟨m, e1, e2, e3⟩ := odd_split h0 (by have := mantD_lt b; omega)
    have hl := lowD_ge b
    generalize Lib.ctz 64 (mantD b) = k at *
    rw [show (lowD b + (k : Int) + 1074).toNat = k + (lowD b + 1074).toNat by omega, Nat.pow_add, ← Nat.mul_assoc]
    congr 1
    rw [e2, Nat.mul_div_cancel_left _ (Nat.two_pow_pos k), Nat.mul_comm]
theorem sg_is {b : Nat} (hb : b < 18446744073709551616) : Fp.sg Ieee.double b = decide (9223372036854775808 ≤ b) := by
  unfold Fp.sg
  rw [show Ieee.double.signWeight = 9223372036854775808 by decide +kernel]
  exact decide_eq_decide.2 (by omega)
theorem whole_un {b : Nat} (hb : b < 18446744073709551616) (h : b % 9223372036854775808 < 9218868437227405312) : P64.wholeI b = Fp.un Ieee.double b := by
  obtain ⟨_, _, h3⟩ := fin_exp h
  have hn0 : pNegD b = decide (9223372036854775808 ≤ b) := by
    unfold pNegD negD
    rw [if_neg (by omega), fin_canon h]
  unfold P64.wholeI Fp.un P64.sgv
  rw [hn0, Fp.rg64, mag_odd h]
  have hs := sg_is hb
  rw [hs]
  by_cases hn : 9223372036854775808 ≤ b
  · rw [if_pos (decide_eq_true hn), if_pos (decide_eq_true hn), Int.neg_mul]; simp
  · rw [if_neg (by simpa using hn), if_neg (by simpa using hn)]; simp
theorem top_le {p : Int} (h : 1023 < p) : Fp.dtop ≤ (p + 1074).toNat := by
  have : Fp.dtop = 2098 := rfl
  omega
theorem pExp_hi {b : Nat} (h : b % 9223372036854775808 < 9218868437227405312) : pExpD b ≤ 1023 := by
  by_cases h0 : pMantD b = 0
  · have : pExpD b = 0 := by
      obtain ⟨_, _, h3⟩ := fin_exp h
      unfold pMantD at h0
      rw [if_neg (by omega)] at h0
      unfold pExpD
      by_cases hm : mantD b = 0
      · rw [if_pos (.inr hm)]
      · obtain ⟨m, e1, e2, e3⟩ := odd_split hm (by have := mantD_lt b; omega)
        unfold oddM at e1; omega
    omega
  · have h1 := mag_odd h
    have h2 : Fp.mag Ieee.double (b % 9223372036854775808) < Fp.mag Ieee.double 9218868437227405312 := (Fp.mag_lt_iff Ieee.double).2 h
    have h3 : Fp.mag Ieee.double 9218868437227405312 = 2 ^ Fp.dtop := by
      have := Fp.mag_infD
      rw [Fp.dI] at this
      exact this
    rcases Int.lt_or_le 1023 (pExpD b) with hc | hc
    · exfalso
      have h4 : 2 ^ Fp.dtop ≤ 2 ^ (pExpD b + 1074).toNat := Nat.pow_le_pow_right (by decide) (top_le hc)
      have h5 : 2 ^ (pExpD b + 1074).toNat ≤ pMantD b * 2 ^ (pExpD b + 1074).toNat := Nat.le_mul_of_pos_left _ (Nat.pos_of_ne_zero h0)
      rw [h1, h3] at h2
      exact absurd (Nat.lt_of_lt_of_le h2 (Nat.le_trans h4 h5)) (Nat.lt_irrefl _)
    · exact hc
end Go.Proofs.YtjmaggfddinbkaaGreatDoor
end

section
namespace Go.Proofs.YtjmaggfddinbkaaGreatDoor
open Go.RowKit
theorem odd_one : oddM 1 = 1 := by decide
theorem ctz_one : Lib.ctz 64 1 = 0 := by decide
theorem bitLen_one : Lib.bitLen 1 = 1 := by decide
theorem down_one (e : Int) : downD 1 e = min 52 (e + 1074).toNat := by
  unfold downD oddE
  rw [odd_one, ctz_one, bitLen_one]
  omega
theorem bad_one {e : Int} (h1 : -1074 ≤ e) (h2 : e ≤ 1023) : badD 1 e = false := by
  unfold badD oddE
  rw [odd_one, ctz_one, bitLen_one, decide_eq_false (by omega), decide_eq_false (by omega), decide_eq_false (by omega), decide_eq_false (by omega)]; rfl
theorem pow52 : (2 : Nat) ^ 52 = 4503599627370496 := by decide
theorem join_low {t : Nat} (h : t < 4503599627370496) : joinD false 0 t = t := by
  unfold joinD bitsOfD
  rw [if_neg (by omega), if_neg Bool.false_ne_true, show (0 : Int).toNat * 4503599627370496 + t + 0 = t by simp, fin_canon (by omega)]
theorem join_high {n : Nat} (h : n ≤ 2046) : joinD false (n : Int) 0 = n * 4503599627370496 := by
  unfold joinD bitsOfD
  rw [if_neg (by omega), if_neg Bool.false_ne_true, Int.toNat_natCast, Nat.add_zero, fin_canon (by omega)]
theorem last_is {e : Int} (h1 : -1074 ≤ e) (h2 : e ≤ 1023) : madeD false 1 e < 9218868437227405312 ∧ Fp.mag Ieee.double (madeD false 1 e) = 2 ^ (e + 1074).toNat := by
  unfold madeD fieldD topD
  rw [if_neg (by decide), bad_one h1 h2, if_neg Bool.false_ne_true, odd_one, down_one, Nat.one_mul]
  rcases Nat.lt_or_ge (e + 1074).toNat 52 with hk | hk
  · rw [Nat.min_eq_right (Nat.le_of_lt hk)]
    have ht : 2 ^ (e + 1074).toNat < 4503599627370496 := by rw [← pow52]; exact Nat.pow_lt_pow_right (by decide) hk
    generalize 2 ^ (e + 1074).toNat = t at *
    rw [if_pos ht, if_neg (by omega), Nat.mod_eq_of_lt ht, join_low ht]
    exact ⟨by omega, by rw [Fp.mag_lt _ _ (by rw [Fp.dB]; exact ht)]⟩
  · rw [Nat.min_eq_left hk, pow52, if_neg (Nat.lt_irrefl 4503599627370496), show oddE 1 e - ((52 : Nat) : Int) + 1075 = (((e + 1074).toNat - 51 : Nat) : Int) by unfold oddE; rw [ctz_one]; omega]
    generalize hK : (e + 1074).toNat = K at *
    rw [if_neg (by omega), join_high (by omega)]
    refine ⟨by omega, ?_⟩
    unfold Fp.mag
    rw [Fp.dB, if_neg (by omega), Nat.mul_mod_left, Nat.add_zero, Nat.mul_div_cancel _ (by decide), ← pow52, ← Nat.pow_add, show 52 + (K - 51 - 1) = K by omega]
theorem un_pos {r : Nat} (h : r < 9223372036854775808) : Fp.un Ieee.double r = Fp.mag Ieee.double r := by
  unfold Fp.un
  rw [sg_is (by omega), decide_eq_false (by omega), if_neg Bool.false_ne_true, Fp.rg64, Nat.mod_eq_of_lt h]
def lowB (a b : Nat) : Bool := decide ((Fp.un Ieee.double a).natAbs < 2 ^ (pExpD b + 1074).toNat)
def absB (x : Nat) : Nat := if Fp.un Ieee.double x < 0 then x - 9223372036854775808 else x
theorem sub63 {x : Nat} (h : 9223372036854775808 ≤ x) (hx : x < 18446744073709551616) (hf : x % 9223372036854775808 < 9218868437227405312) : x - 9223372036854775808 < 9223372036854775808 ∧ (x - 9223372036854775808) % 9223372036854775808 < 9218868437227405312 ∧ x - 9223372036854775808 = x % 9223372036854775808 := by omega
theorem absB_is {x : Nat} (hx : x < 18446744073709551616) (h : x % 9223372036854775808 < 9218868437227405312) : absB x < 18446744073709551616 ∧ absB x % 9223372036854775808 < 9218868437227405312 ∧ Fp.un Ieee.double (absB x) = (Fp.un Ieee.double x).natAbs := by
  unfold absB
  by_cases h0 : Fp.un Ieee.double x < 0
  · rw [if_pos h0]
    have hs := un_sign (x := x) (by omega)
    rw [decide_eq_true h0] at hs
    rw [sg_is hx] at hs
    have hge := of_decide_eq_true hs
    obtain ⟨k1, k2, k3⟩ := sub63 hge hx h
    refine ⟨Nat.lt_trans k1 (by decide), k2, ?_⟩
    rw [un_pos k1, un_abs, Fp.rg64, k3]
  · rw [if_neg h0]
    exact ⟨hx, h, (Int.natAbs_of_nonneg (Int.not_lt.1 h0)).symm⟩
theorem geq_low {a b : Nat} (ha : a < 18446744073709551616) (fa : a % 9223372036854775808 < 9218868437227405312) (fb : b % 9223372036854775808 < 9218868437227405312) :
    (FloatKind.f64.format.order (absB a) (madeD false 1 (pExpD b)) == some .gt || FloatKind.f64.format.order (absB a) (madeD false 1 (pExpD b)) == some .eq) = !lowB a b := by
  obtain ⟨h1, h2⟩ := last_is (P64.pExpD_range b).1 (pExp_hi fb)
  obtain ⟨_, k2, k3⟩ := absB_is ha fa
  rw [c_ge (by omega) (by rw [Nat.mod_eq_of_lt (by omega)]; omega), k3, un_pos (by omega), h2]
  unfold lowB
  generalize 2 ^ (pExpD b + 1074).toNat = P
  by_cases h : (Fp.un Ieee.double a).natAbs < P
  · rw [decide_eq_true h, decide_eq_false (by omega)]; rfl
  · rw [decide_eq_false h, decide_eq_true (by omega)]; rfl
theorem neg_flip {a : Nat} (ha : a < 9223372036854775808) : a ^^^ 2 ^ 63 = a + 9223372036854775808 := by
  have := Nat.two_pow_add_eq_or_of_lt (i := 63) (b := a) ha 1
  rw [Nat.mul_one] at this
  rw [show a + 9223372036854775808 = 2 ^ 63 + a by omega, this, Nat.xor_comm]
  apply Nat.eq_of_testBit_eq
  intro i
  rw [Nat.testBit_xor, Nat.testBit_or, Nat.testBit_two_pow]
  by_cases hi : 63 = i
  · subst hi
    rw [Nat.testBit_lt_two_pow ha]; simp
  · simp [hi]
theorem neg_float {x : Nat} (h : 9223372036854775808 ≤ x) (hx : x < 18446744073709551616) : Go.Op.negFloat .f64 x = x - 9223372036854775808 := by
  have g := neg_flip (a := x - 9223372036854775808) (by omega)
  rw [show x - 9223372036854775808 + 9223372036854775808 = x by omega] at g
  show x ^^^ 2 ^ 63 = _
  conv => lhs; rw [← g]
  rw [Nat.xor_assoc, Nat.xor_self, Nat.xor_zero]
theorem un_neg_ge {x : Nat} (hx : x < 18446744073709551616) (h0 : Fp.un Ieee.double x < 0) : 9223372036854775808 ≤ x := by
  have hs := un_sign (x := x) (by omega)
  rw [decide_eq_true h0, sg_is hx] at hs
  exact of_decide_eq_true hs
set_option maxHeartbeats 600000 in
theorem Eabs (x : Nat) (hx : x < 18446744073709551616) (h : x % 9223372036854775808 < 9218868437227405312) (w : World) : Calls Tryz.prog 74 #[.float .f64 x] w fun e w' => e = .returned (.float .f64 (absB x)) ∧ w = w' := by
  have h0 := c_lt (x := x) (y := 0) (by omega) (by decide)
  rw [show Fp.un Ieee.double 0 = 0 by rw [un_pos (by decide), Fp.mag_zero]; rfl] at h0
  unfold absB
  by_cases hn : Fp.un Ieee.double x < 0
  · rw [decide_eq_true hn] at h0
    rw [if_pos hn]
    have hf := neg_float (un_neg_ge hx hn) hx
    clear hn
    go_enter Tryz.func74, Tryz.ntmps74
    go_wp2
    go_ret
    exact ⟨by rw [← hf]; rfl, rfl⟩
  · rw [decide_eq_false hn] at h0
    rw [if_neg hn]
    clear hn
    go_enter Tryz.func74, Tryz.ntmps74
    go_wp2
    go_ret
    exact ⟨rfl, rfl⟩
set_option maxRecDepth 100000 in
set_option maxHeartbeats 600000 in
theorem Elast (b : Nat) (hb : b < 18446744073709551616) (w : World) (hT : Tab w) : Calls Tryz.prog 75 #[.float .f64 b] w fun e w' => e = .returned (.float .f64 (madeD false 1 (pExpD b))) ∧ Within w w' := by
  have HB := Lib.hid hb; have HT := Lib.hid hT; clear hb hT
  have CO := Lib.hid (fun w hT => Of_D false 1 (pExpD b) (by decide) w hT)
  have CP := Lib.hid (Parts_D b HB.out w HT.out)
  obtain ⟨e, he⟩ : ∃ e, e = pExpD b := ⟨_, rfl⟩
  rw [← he] at CO CP ⊢
  obtain ⟨r, hr⟩ : ∃ r, r = madeD false 1 e := ⟨_, rfl⟩
  obtain ⟨er, her⟩ : ∃ er, er = madeED 1 e := ⟨_, rfl⟩
  rw [← hr, ← her] at CO
  rw [← hr]
  clear hr her he
  go_enter Tryz.func75, Tryz.ntmps75
  go_wp2_with fail
  refine CP.out.mono ?_; rintro e1 w1 ⟨rfl, hb1⟩
  go_wp2_with fail
  refine (CO.out _ (HT.out.of (hb1.alloc _))).mono ?_; rintro e2 w2 ⟨rfl, hb2⟩
  go_wp2
  go_ret
  exact ⟨rfl, (hb1.alloc _).trans hb2⟩
end Go.Proofs.YtjmaggfddinbkaaGreatDoor
end

section
namespace Go.Proofs.YtjmaggfddinbkaaGreatDoor
open Go.RowKit
section
variable {P : Program} {ops : Array Oper}
end
def okAt (l : List Nat) (i : Nat) : Bool := decide (l.getD i 0 % 9223372036854775808 ≠ 0) && (decide (i = 0) || lowB (l.getD (i - 1) 0) (l.getD i 0))
def isB (l : List Nat) : Bool := decide (l.length ≤ 64) && l.all finD && (List.range l.length).all (okAt l)
theorem isB_no {l : List Nat} {k : Nat} (hk : k < l.length) (h : okAt l k = false) : isB l = false := by
  unfold isB
  have : (List.range l.length).all (okAt l) = false := by
    rw [List.all_eq_false]
    exact ⟨k, List.mem_range.2 hk, by rw [h]; decide⟩
  rw [this, Bool.and_false]
theorem isB_yes {l : List Nat} (h1 : l.length ≤ 64) (h2 : l.all finD = true) (h3 : ∀ k, k < l.length → okAt l k = true) : isB l = true := by
  unfold isB
  rw [decide_eq_true h1, h2, List.all_eq_true.2 (fun k hk => h3 k (List.mem_range.1 hk))]; rfl
theorem isB_long {l : List Nat} (h : 64 < l.length) : isB l = false := by
  unfold isB
  rw [decide_eq_false (by omega)]; rfl
theorem isB_fin {l : List Nat} (h : l.all finD = false) : isB l = false := by
  unfold isB
  rw [h]; simp
theorem fin_at {l : List Nat} (hw : Words64 l) (h : l.all finD = true) {k : Nat} (hk : k < l.length) : l.getD k 0 % 9223372036854775808 < 9218868437227405312 := by
  have hm : l.getD k 0 ∈ l := by rw [List.getD, List.getElem?_eq_getElem hk]; exact List.getElem_mem hk
  have := List.all_eq_true.1 h _ hm
  rw [finD_is (hw _ hm)] at this
  exact of_decide_eq_true this
set_option maxRecDepth 100000 in
set_option maxHeartbeats 600000 in
theorem eis_long (A : Option Addr) (c : Nat) (es : List Nat) (hw : Words64 es) (hl : es.length ≤ 1152921504606846976) (h64 : 64 < es.length) (w : World) (hT : Tab w) (hr : SlAt w A (f64v es)) : Calls Tryz.prog 17 #[.slice A es.length c] w fun e w' => e = .returned (.bool false) ∧ Within w w' := by
  have d : decide ((es.length : Int) > 64) = true := decide_eq_true (by omega)
  clear hw hr hT
  go_enter Tryz.func17, Tryz.ntmps17
  go_wp2
  go_ret
  exact ⟨rfl, Within.refl _⟩
set_option maxRecDepth 100000 in
set_option maxHeartbeats 600000 in
theorem eis_fin (A : Option Addr) (c : Nat) (es : List Nat) (hw : Words64 es) (hl : es.length ≤ 1152921504606846976) (h64 : es.length ≤ 64) (hf : es.all finD = false) (w : World) (hT : Tab w) (hr : SlAt w A (f64v es)) : Calls Tryz.prog 17 #[.slice A es.length c] w fun e w' => e = .returned (.bool false) ∧ Within w w' := by
  have d : decide ((es.length : Int) > 64) = false := decide_eq_false (by omega)
  have CF := Lib.hid (Finite_any A c es hw hl w hr)
  rw [hf] at CF
  clear hw hr hT hf
  go_enter Tryz.func17, Tryz.ntmps17
  go_wp2_with fail
  refine CF.out.mono ?_; rintro e1 w1 ⟨rfl, hb1⟩
  go_wp2
  go_ret
  exact ⟨rfl, hb1⟩
set_option maxRecDepth 100000 in
set_option maxHeartbeats 600000 in
theorem eis_main (A : Option Addr) (c : Nat) (es : List Nat) (hw : Words64 es) (hl : es.length ≤ 1152921504606846976) (h64 : es.length ≤ 64) (hf : es.all finD = true) (w : World) (hT : Tab w) (hr : SlAt w A (f64v es)) : Calls Tryz.prog 17 #[.slice A es.length c] w fun e w' => e = .returned (.bool (isB es)) ∧ Within w w' := by
  have d : decide ((es.length : Int) > 64) = false := decide_eq_false (by omega)
  have CF := Lib.hid (Finite_any A c es hw hl w hr)
  rw [hf] at CF
  have HW := Lib.hid hw; have HR := Lib.hid hr; have HT := Lib.hid hT; have HF := Lib.hid hf; have H64 := Lib.hid h64; clear hw hr hT hf
  go_enter Tryz.func17, Tryz.ntmps17
  go_wp2_with fail
  refine CF.out.mono ?_; rintro e1 w1 ⟨rfl, hb1⟩
  go_wp2
  go_loopw [14] (fun iv wr => ∃ k : Nat, k ≤ es.length ∧ iv = .int .i64 (k : Int) ∧ (∀ j, j < k → okAt es j = true) ∧ Within w wr) (fun iv _ => es.length - (intOf iv).toNat)
  case atStart => exact ⟨0, Nat.zero_le _, rfl, fun j hj => absurd hj (Nat.not_lt_zero _), hb1⟩
  case round =>
    obtain ⟨k, hk, rfl, hok, hin⟩ := hrel
    have HOK := Lib.hid hok; clear hok
    by_cases hlt : k < es.length
    · obtain ⟨ad, hA, hblk, hc⟩ := (HR.out.of hin).at hlt
      have fx := fin_at HW.out HF.out hlt
      have hx64 := HW.out.at hlt
      obtain ⟨x, hx⟩ : ∃ x, x = es.getD k 0 := ⟨_, rfl⟩
      rw [← hx] at hc fx hx64
      by_cases h0 : x % 9223372036854775808 = 0
      · have hz : (FloatKind.f64.format.order x 0 == some .eq) = true := by rw [c_zero, decide_eq_true h0]
        have NO := Lib.hid (isB_no hlt (by unfold okAt; rw [← hx, decide_eq_false (by omega)]; rfl))
        subst hA
        have cx := hc
        clear hc fx hx64 hx h0
        go_wp2
        go_region
        go_wp2
        go_ret
        exact ⟨(by rw [NO.out]; first | done | rfl), (by repeat (first | with_reducible exact Within.refl _ | with_reducible assumption | with_reducible refine arW_within ?_ _ _ _ | with_reducible refine Within.alloc ?_ _ | with_reducible refine Within.drew ?_ | with_reducible refine Within.trans ?_ (by assumption)))⟩
      · have hz : (FloatKind.f64.format.order x 0 == some .eq) = false := by rw [c_zero, decide_eq_false h0]
        rcases k with _ | j
        · have OKN := Lib.hid (show ∀ j, j < 0 + 1 → okAt es j = true by
            intro j hj
            have : j = 0 := by omega
            subst this
            unfold okAt
            rw [← hx, decide_eq_true (by omega)]; rfl)
          subst hA
          have cx : wr.cell? ad = some (.float .f64 x) := hc
          clear hc fx hx64 hx h0
          go_wp2
          go_region
          go_wp2
          go_roundw
          case rel => exact ⟨0 + 1, hlt, by go_num, OKN.out, (by repeat (first | with_reducible exact Within.refl _ | with_reducible assumption | with_reducible refine arW_within ?_ _ _ _ | with_reducible refine Within.alloc ?_ _ | with_reducible refine Within.drew ?_ | with_reducible refine Within.trans ?_ (by assumption)))⟩
          case measure => simp [intOf]; omega
        · obtain ⟨ad', hA', _, hc'⟩ := (HR.out.of hin).at (k := j) (by omega)
          have ead : ad = ad' := by rw [hA] at hA'; injection hA' with h
          subst ead
          have fy := fin_at HW.out HF.out (k := j) (by omega)
          have hy64 := HW.out.at (k := j) (by omega)
          obtain ⟨y, hy⟩ : ∃ y, y = es.getD j 0 := ⟨_, rfl⟩
          rw [← hy] at hc' fy hy64
          have CA := Lib.hid (fun w => Eabs y hy64 fy w)
          have CL := Lib.hid (fun w hT => Elast x hx64 w hT)
          have hge := geq_low hy64 fy fx
          obtain ⟨a, ha⟩ : ∃ a, a = absB y := ⟨_, rfl⟩
          obtain ⟨r, hr⟩ : ∃ r, r = madeD false 1 (pExpD x) := ⟨_, rfl⟩
          rw [← ha] at CA hge
          rw [← hr] at CL hge
          clear ha hr
          have e9 : IntKind.i64.wrap (((j + 1 : Nat) : Int) - 1) = (j : Int) := by rw [IntWalk.i64_in _ (by omega)]; omega
          have e8 : decide (((j + 1 : Nat) : Int) > 0) = true := decide_eq_true (by omega)
          have e8' : decide ((j : Int) + 1 > 0) = true := decide_eq_true (by omega)
          have hTr : Tab wr := HT.out.of hin
          have HIN := Lib.hid hin; clear hin
          subst hA
          have cx := hc
          have cy := hc'
          clear hc hc' hA' fx fy hx64 hy64
          obtain ⟨k, hke⟩ : ∃ k, k = j + 1 := ⟨_, rfl⟩
          cases hlb : lowB y x
          · rw [hlb] at hge
            have NO := Lib.hid (isB_no hlt (by unfold okAt; rw [← hx, Nat.add_sub_cancel, ← hy, hlb, decide_eq_false (Nat.succ_ne_zero j)]; simp))
            clear hlb hx hy h0
            rw [← hke] at hlt cx e8 e9 ⊢
            have hjl : j < es.length := by omega
            have hk0 : 0 < k := by omega
            have HKE := Lib.hid hke; clear hke e8'
            go_wp2
            refine wp_region_schG (fun W => W.cell? (ad.add k) = some (.float .f64 x) ∧ W.cell? (ad.add j) = some (.float .f64 y) ∧ ad.block < W.heap.size ∧ Tab W ∧ Within w W) 22 (.firm 0 (.firm 1 (.firm 2 (.firm 3 (.firm 4 (.firm 5 (.firm 6 (.firm 7 (.firm 8 (.firm 9 (.firm 10 (.firm 11 (.firm 12 (.firm 13 (.firm 15 (.firm 16 (.firm 17 (.firm 18 (.one 14 (.one 19 (.firm 20 (.firm 21 (.one 22 .nil))))))))))))))))))))))) (by kernel_rfl) (by kernel_rfl) ⟨cx, cy, hblk, hTr, HIN.out⟩ ?_
            rintro w0 ⟨cx, cy, hblk, hTw, hw0⟩
            try simp only [Act.put, List.setIfInBounds_toArray, List.set_cons_zero, List.set_cons_succ]
            apply sch_firm rfl rfl (by repeat (first | with_reducible exact Within.refl _ | with_reducible assumption | with_reducible refine Within.alloc ?_ _ | with_reducible refine Within.drew ?_ | with_reducible refine Within.drewN ?_ _ | with_reducible refine Within.setCell ?_ (by first | (simp; done) | (simp; omega)) _ | with_reducible refine Within.trans ?_ (by assumption)))
            · intro wq hq
              have hcq := hq.cells
              have gx := (hq.cell (p := ad.add k) (by rw [add_block]; exact hblk)).trans cx
              have gxb := Nat.lt_of_lt_of_le hblk hq.size
              have gy := (hq.cell (p := ad.add j) (by rw [add_block]; exact hblk)).trans cy
              clear hq
              go_simp
              first | rfl | (trace_state; fail)
            try simp only [Act.put, List.setIfInBounds_toArray, List.set_cons_zero, List.set_cons_succ]
            apply sch_firm rfl rfl (by repeat (first | with_reducible exact Within.refl _ | with_reducible assumption | with_reducible refine Within.alloc ?_ _ | with_reducible refine Within.drew ?_ | with_reducible refine Within.drewN ?_ _ | with_reducible refine Within.setCell ?_ (by first | (simp; done) | (simp; omega)) _ | with_reducible refine Within.trans ?_ (by assumption)))
            · intro wq hq
              have hcq := hq.cells
              have gx := (hq.cell (p := ad.add k) (by rw [add_block]; exact hblk)).trans cx
              have gxb := Nat.lt_of_lt_of_le hblk hq.size
              have gy := (hq.cell (p := ad.add j) (by rw [add_block]; exact hblk)).trans cy
              clear hq
              go_simp
              first | rfl | (trace_state; fail)
            try simp only [Act.put, List.setIfInBounds_toArray, List.set_cons_zero, List.set_cons_succ]
            apply sch_firm rfl rfl (by repeat (first | with_reducible exact Within.refl _ | with_reducible assumption | with_reducible refine Within.alloc ?_ _ | with_reducible refine Within.drew ?_ | with_reducible refine Within.drewN ?_ _ | with_reducible refine Within.setCell ?_ (by first | (simp; done) | (simp; omega)) _ | with_reducible refine Within.trans ?_ (by assumption)))
            · intro wq hq
              have hcq := hq.cells
              have gx := (hq.cell (p := ad.add k) (by rw [add_block]; exact hblk)).trans cx
              have gxb := Nat.lt_of_lt_of_le hblk hq.size
              have gy := (hq.cell (p := ad.add j) (by rw [add_block]; exact hblk)).trans cy
              clear hq
              go_simp
              first | rfl | (trace_state; fail)
            try simp only [Act.put, List.setIfInBounds_toArray, List.set_cons_zero, List.set_cons_succ]
            apply sch_firm rfl rfl (by repeat (first | with_reducible exact Within.refl _ | with_reducible assumption | with_reducible refine Within.alloc ?_ _ | with_reducible refine Within.drew ?_ | with_reducible refine Within.drewN ?_ _ | with_reducible refine Within.setCell ?_ (by first | (simp; done) | (simp; omega)) _ | with_reducible refine Within.trans ?_ (by assumption)))
            · intro wq hq
              have hcq := hq.cells
              have gx := (hq.cell (p := ad.add k) (by rw [add_block]; exact hblk)).trans cx
              have gxb := Nat.lt_of_lt_of_le hblk hq.size
              have gy := (hq.cell (p := ad.add j) (by rw [add_block]; exact hblk)).trans cy
              clear hq
              go_simp
              first | rfl | (trace_state; fail)
            try simp only [Act.put, List.setIfInBounds_toArray, List.set_cons_zero, List.set_cons_succ]
            apply sch_firm rfl rfl (by repeat (first | with_reducible exact Within.refl _ | with_reducible assumption | with_reducible refine Within.alloc ?_ _ | with_reducible refine Within.drew ?_ | with_reducible refine Within.drewN ?_ _ | with_reducible refine Within.setCell ?_ (by first | (simp; done) | (simp; omega)) _ | with_reducible refine Within.trans ?_ (by assumption)))
            · intro wq hq
              have hcq := hq.cells
              have gx := (hq.cell (p := ad.add k) (by rw [add_block]; exact hblk)).trans cx
              have gxb := Nat.lt_of_lt_of_le hblk hq.size
              have gy := (hq.cell (p := ad.add j) (by rw [add_block]; exact hblk)).trans cy
              clear hq
              go_simp
              first | rfl | (trace_state; fail)
            try simp only [Act.put, List.setIfInBounds_toArray, List.set_cons_zero, List.set_cons_succ]
            apply sch_firm rfl rfl (by repeat (first | with_reducible exact Within.refl _ | with_reducible assumption | with_reducible refine Within.alloc ?_ _ | with_reducible refine Within.drew ?_ | with_reducible refine Within.drewN ?_ _ | with_reducible refine Within.setCell ?_ (by first | (simp; done) | (simp; omega)) _ | with_reducible refine Within.trans ?_ (by assumption)))
            · intro wq hq
              have hcq := hq.cells
              have gx := (hq.cell (p := ad.add k) (by rw [add_block]; exact hblk)).trans cx
              have gxb := Nat.lt_of_lt_of_le hblk hq.size
              have gy := (hq.cell (p := ad.add j) (by rw [add_block]; exact hblk)).trans cy
              clear hq
              go_simp
              first | rfl | (trace_state; fail)
            try simp only [Act.put, List.setIfInBounds_toArray, List.set_cons_zero, List.set_cons_succ]
            apply sch_want rfl (by first | rfl | decide | (simp [Region.wanted, yielded]; done) | (simp [Region.wanted, yielded]; assumption)) (by repeat (first | with_reducible exact Within.refl _ | with_reducible assumption | with_reducible refine Within.alloc ?_ _ | with_reducible refine Within.drew ?_ | with_reducible refine Within.drewN ?_ _ | with_reducible refine Within.setCell ?_ (by first | (simp; done) | (simp; omega)) _ | with_reducible refine Within.trans ?_ (by assumption)))
            · intro wq hq
              have hcq := hq.cells
              have gx := (hq.cell (p := ad.add k) (by rw [add_block]; exact hblk)).trans cx
              have gxb := Nat.lt_of_lt_of_le hblk hq.size
              have gy := (hq.cell (p := ad.add j) (by rw [add_block]; exact hblk)).trans cy
              clear hq
              go_simp
              first | rfl | (trace_state; fail)
            try simp only [Act.put, List.setIfInBounds_toArray, List.set_cons_zero, List.set_cons_succ]
            apply sch_want rfl (by first | rfl | decide | (simp [Region.wanted, yielded]; done) | (simp [Region.wanted, yielded]; assumption)) (by repeat (first | with_reducible exact Within.refl _ | with_reducible assumption | with_reducible refine Within.alloc ?_ _ | with_reducible refine Within.drew ?_ | with_reducible refine Within.drewN ?_ _ | with_reducible refine Within.setCell ?_ (by first | (simp; done) | (simp; omega)) _ | with_reducible refine Within.trans ?_ (by assumption)))
            · intro wq hq
              have hcq := hq.cells
              have gx := (hq.cell (p := ad.add k) (by rw [add_block]; exact hblk)).trans cx
              have gxb := Nat.lt_of_lt_of_le hblk hq.size
              have gy := (hq.cell (p := ad.add j) (by rw [add_block]; exact hblk)).trans cy
              clear hq
              go_simp
              first | rfl | (trace_state; fail)
            try simp only [Act.put, List.setIfInBounds_toArray, List.set_cons_zero, List.set_cons_succ]
            apply sch_want rfl (by first | rfl | decide | (simp [Region.wanted, yielded]; done) | (simp [Region.wanted, yielded]; assumption)) (by repeat (first | with_reducible exact Within.refl _ | with_reducible assumption | with_reducible refine Within.alloc ?_ _ | with_reducible refine Within.drew ?_ | with_reducible refine Within.drewN ?_ _ | with_reducible refine Within.setCell ?_ (by first | (simp; done) | (simp; omega)) _ | with_reducible refine Within.trans ?_ (by assumption)))
            · intro wq hq
              have hcq := hq.cells
              have gx := (hq.cell (p := ad.add k) (by rw [add_block]; exact hblk)).trans cx
              have gxb := Nat.lt_of_lt_of_le hblk hq.size
              have gy := (hq.cell (p := ad.add j) (by rw [add_block]; exact hblk)).trans cy
              clear hq
              go_simp
              first | rfl | (trace_state; fail)
            try simp only [Act.put, List.setIfInBounds_toArray, List.set_cons_zero, List.set_cons_succ]
            apply sch_want rfl (by first | rfl | decide | (simp [Region.wanted, yielded]; done) | (simp [Region.wanted, yielded]; assumption)) (by repeat (first | with_reducible exact Within.refl _ | with_reducible assumption | with_reducible refine Within.alloc ?_ _ | with_reducible refine Within.drew ?_ | with_reducible refine Within.drewN ?_ _ | with_reducible refine Within.setCell ?_ (by first | (simp; done) | (simp; omega)) _ | with_reducible refine Within.trans ?_ (by assumption)))
            · intro wq hq
              have hcq := hq.cells
              have gx := (hq.cell (p := ad.add k) (by rw [add_block]; exact hblk)).trans cx
              have gxb := Nat.lt_of_lt_of_le hblk hq.size
              have gy := (hq.cell (p := ad.add j) (by rw [add_block]; exact hblk)).trans cy
              clear hq
              go_simp
              first | rfl | (trace_state; fail)
            try simp only [Act.put, List.setIfInBounds_toArray, List.set_cons_zero, List.set_cons_succ]
            apply sch_want rfl (by first | rfl | decide | (simp [Region.wanted, yielded]; done) | (simp [Region.wanted, yielded]; assumption)) (by repeat (first | with_reducible exact Within.refl _ | with_reducible assumption | with_reducible refine Within.alloc ?_ _ | with_reducible refine Within.drew ?_ | with_reducible refine Within.drewN ?_ _ | with_reducible refine Within.setCell ?_ (by first | (simp; done) | (simp; omega)) _ | with_reducible refine Within.trans ?_ (by assumption)))
            · intro wq hq
              have hcq := hq.cells
              have gx := (hq.cell (p := ad.add k) (by rw [add_block]; exact hblk)).trans cx
              have gxb := Nat.lt_of_lt_of_le hblk hq.size
              have gy := (hq.cell (p := ad.add j) (by rw [add_block]; exact hblk)).trans cy
              clear hq
              go_simp
              first | rfl | (trace_state; fail)
            try simp only [Act.put, List.setIfInBounds_toArray, List.set_cons_zero, List.set_cons_succ]
            apply sch_want rfl (by first | rfl | decide | (simp [Region.wanted, yielded]; done) | (simp [Region.wanted, yielded]; assumption)) (by repeat (first | with_reducible exact Within.refl _ | with_reducible assumption | with_reducible refine Within.alloc ?_ _ | with_reducible refine Within.drew ?_ | with_reducible refine Within.drewN ?_ _ | with_reducible refine Within.setCell ?_ (by first | (simp; done) | (simp; omega)) _ | with_reducible refine Within.trans ?_ (by assumption)))
            · intro wq hq
              have hcq := hq.cells
              have gx := (hq.cell (p := ad.add k) (by rw [add_block]; exact hblk)).trans cx
              have gxb := Nat.lt_of_lt_of_le hblk hq.size
              have gy := (hq.cell (p := ad.add j) (by rw [add_block]; exact hblk)).trans cy
              clear hq
              go_simp
              first | rfl | (trace_state; fail)
            try simp only [Act.put, List.setIfInBounds_toArray, List.set_cons_zero, List.set_cons_succ]
            apply sch_want rfl (by first | rfl | decide | (simp [Region.wanted, yielded]; done) | (simp [Region.wanted, yielded]; assumption)) (by repeat (first | with_reducible exact Within.refl _ | with_reducible assumption | with_reducible refine Within.alloc ?_ _ | with_reducible refine Within.drew ?_ | with_reducible refine Within.drewN ?_ _ | with_reducible refine Within.setCell ?_ (by first | (simp; done) | (simp; omega)) _ | with_reducible refine Within.trans ?_ (by assumption)))
            · intro wq hq
              have hcq := hq.cells
              have gx := (hq.cell (p := ad.add k) (by rw [add_block]; exact hblk)).trans cx
              have gxb := Nat.lt_of_lt_of_le hblk hq.size
              have gy := (hq.cell (p := ad.add j) (by rw [add_block]; exact hblk)).trans cy
              clear hq
              go_simp
              first | rfl | (trace_state; fail)
            try simp only [Act.put, List.setIfInBounds_toArray, List.set_cons_zero, List.set_cons_succ]
            apply sch_want rfl (by first | rfl | decide | (simp [Region.wanted, yielded]; done) | (simp [Region.wanted, yielded]; assumption)) (by repeat (first | with_reducible exact Within.refl _ | with_reducible assumption | with_reducible refine Within.alloc ?_ _ | with_reducible refine Within.drew ?_ | with_reducible refine Within.drewN ?_ _ | with_reducible refine Within.setCell ?_ (by first | (simp; done) | (simp; omega)) _ | with_reducible refine Within.trans ?_ (by assumption)))
            · intro wq hq
              have hcq := hq.cells
              have gx := (hq.cell (p := ad.add k) (by rw [add_block]; exact hblk)).trans cx
              have gxb := Nat.lt_of_lt_of_le hblk hq.size
              have gy := (hq.cell (p := ad.add j) (by rw [add_block]; exact hblk)).trans cy
              clear hq
              go_simp
              first | rfl | (trace_state; fail)
            try simp only [Act.put, List.setIfInBounds_toArray, List.set_cons_zero, List.set_cons_succ]
            apply sch_want rfl (by first | rfl | decide | (simp [Region.wanted, yielded]; done) | (simp [Region.wanted, yielded]; assumption)) (by repeat (first | with_reducible exact Within.refl _ | with_reducible assumption | with_reducible refine Within.alloc ?_ _ | with_reducible refine Within.drew ?_ | with_reducible refine Within.drewN ?_ _ | with_reducible refine Within.setCell ?_ (by first | (simp; done) | (simp; omega)) _ | with_reducible refine Within.trans ?_ (by assumption)))
            · intro wq hq
              have hcq := hq.cells
              have gx := (hq.cell (p := ad.add k) (by rw [add_block]; exact hblk)).trans cx
              have gxb := Nat.lt_of_lt_of_le hblk hq.size
              have gy := (hq.cell (p := ad.add j) (by rw [add_block]; exact hblk)).trans cy
              clear hq
              go_simp
              first | rfl | (trace_state; fail)
            try simp only [Act.put, List.setIfInBounds_toArray, List.set_cons_zero, List.set_cons_succ]
            apply sch_want rfl (by first | rfl | decide | (simp [Region.wanted, yielded]; done) | (simp [Region.wanted, yielded]; assumption)) (by repeat (first | with_reducible exact Within.refl _ | with_reducible assumption | with_reducible refine Within.alloc ?_ _ | with_reducible refine Within.drew ?_ | with_reducible refine Within.drewN ?_ _ | with_reducible refine Within.setCell ?_ (by first | (simp; done) | (simp; omega)) _ | with_reducible refine Within.trans ?_ (by assumption)))
            · intro wq hq
              have hcq := hq.cells
              have gx := (hq.cell (p := ad.add k) (by rw [add_block]; exact hblk)).trans cx
              have gxb := Nat.lt_of_lt_of_le hblk hq.size
              have gy := (hq.cell (p := ad.add j) (by rw [add_block]; exact hblk)).trans cy
              clear hq
              go_simp
              first | rfl | (trace_state; fail)
            try simp only [Act.put, List.setIfInBounds_toArray, List.set_cons_zero, List.set_cons_succ]
            apply sch_want rfl (by first | rfl | decide | (simp [Region.wanted, yielded]; done) | (simp [Region.wanted, yielded]; assumption)) (by repeat (first | with_reducible exact Within.refl _ | with_reducible assumption | with_reducible refine Within.alloc ?_ _ | with_reducible refine Within.drew ?_ | with_reducible refine Within.drewN ?_ _ | with_reducible refine Within.setCell ?_ (by first | (simp; done) | (simp; omega)) _ | with_reducible refine Within.trans ?_ (by assumption)))
            · intro wq hq
              have hcq := hq.cells
              have gx := (hq.cell (p := ad.add k) (by rw [add_block]; exact hblk)).trans cx
              have gxb := Nat.lt_of_lt_of_le hblk hq.size
              have gy := (hq.cell (p := ad.add j) (by rw [add_block]; exact hblk)).trans cy
              clear hq
              go_simp
              first | rfl | (trace_state; fail)
            try simp only [Act.put, List.setIfInBounds_toArray, List.set_cons_zero, List.set_cons_succ]
            apply sch_want rfl (by first | rfl | decide | (simp [Region.wanted, yielded]; done) | (simp [Region.wanted, yielded]; assumption)) (by repeat (first | with_reducible exact Within.refl _ | with_reducible assumption | with_reducible refine Within.alloc ?_ _ | with_reducible refine Within.drew ?_ | with_reducible refine Within.drewN ?_ _ | with_reducible refine Within.setCell ?_ (by first | (simp; done) | (simp; omega)) _ | with_reducible refine Within.trans ?_ (by assumption)))
            · intro wq hq
              have hcq := hq.cells
              have gx := (hq.cell (p := ad.add k) (by rw [add_block]; exact hblk)).trans cx
              have gxb := Nat.lt_of_lt_of_le hblk hq.size
              have gy := (hq.cell (p := ad.add j) (by rw [add_block]; exact hblk)).trans cy
              clear hq
              go_simp
              first | rfl | (trace_state; fail)
            try simp only [Act.put, List.setIfInBounds_toArray, List.set_cons_zero, List.set_cons_succ]
            refine sch_one_want rfl (by first | rfl | decide | (simp [Region.wanted, yielded]; done) | (simp [Region.wanted, yielded]; assumption)) (fun K hK => ?_)
            go_simp
            refine (CA.out _).mono ?_; rintro e5 w5 ⟨rfl, rfl⟩
            refine hK _ _ (fun _ => (by repeat (first | with_reducible exact Within.refl _ | with_reducible assumption | with_reducible refine Within.alloc ?_ _ | with_reducible refine Within.drew ?_ | with_reducible refine Within.drewN ?_ _ | with_reducible refine Within.setCell ?_ (by first | (simp; done) | (simp; omega)) _ | with_reducible refine Within.trans ?_ (by assumption)))) ?_
            clear hK K
            try simp only [Act.put, List.setIfInBounds_toArray, List.set_cons_zero, List.set_cons_succ]
            refine sch_one_want rfl (by first | rfl | decide | (simp [Region.wanted, yielded]; done) | (simp [Region.wanted, yielded]; assumption)) (fun K hK => ?_)
            go_simp
            refine (CL.out _ (hTw.of (by repeat (first | with_reducible exact Within.refl _ | with_reducible assumption | with_reducible refine Within.drew ?_ | with_reducible refine Within.trans ?_ (by assumption))))).mono ?_; rintro e6 w6 ⟨rfl, hb6⟩
            refine hK _ _ (fun _ => (by repeat (first | with_reducible exact Within.refl _ | with_reducible assumption | with_reducible refine Within.alloc ?_ _ | with_reducible refine Within.drew ?_ | with_reducible refine Within.drewN ?_ _ | with_reducible refine Within.setCell ?_ (by first | (simp; done) | (simp; omega)) _ | with_reducible refine Within.trans ?_ (by assumption)))) ?_
            clear hK K
            try simp only [Act.put, List.setIfInBounds_toArray, List.set_cons_zero, List.set_cons_succ]
            apply sch_want rfl (by first | rfl | decide | (simp [Region.wanted, yielded]; done) | (simp [Region.wanted, yielded]; assumption)) (by repeat (first | with_reducible exact Within.refl _ | with_reducible assumption | with_reducible refine Within.alloc ?_ _ | with_reducible refine Within.drew ?_ | with_reducible refine Within.drewN ?_ _ | with_reducible refine Within.setCell ?_ (by first | (simp; done) | (simp; omega)) _ | with_reducible refine Within.trans ?_ (by assumption)))
            · intro wq hq
              have hcq := hq.cells
              have gx := (hq.cell (p := ad.add k) (by rw [add_block]; exact hblk)).trans cx
              have gxb := Nat.lt_of_lt_of_le hblk hq.size
              have gy := (hq.cell (p := ad.add j) (by rw [add_block]; exact hblk)).trans cy
              clear hq
              go_simp
              first | rfl | (trace_state; fail)
            try simp only [Act.put, List.setIfInBounds_toArray, List.set_cons_zero, List.set_cons_succ]
            apply sch_want rfl (by first | rfl | decide | (simp [Region.wanted, yielded]; done) | (simp [Region.wanted, yielded]; assumption)) (by repeat (first | with_reducible exact Within.refl _ | with_reducible assumption | with_reducible refine Within.alloc ?_ _ | with_reducible refine Within.drew ?_ | with_reducible refine Within.drewN ?_ _ | with_reducible refine Within.setCell ?_ (by first | (simp; done) | (simp; omega)) _ | with_reducible refine Within.trans ?_ (by assumption)))
            · intro wq hq
              have hcq := hq.cells
              have gx := (hq.cell (p := ad.add k) (by rw [add_block]; exact hblk)).trans cx
              have gxb := Nat.lt_of_lt_of_le hblk hq.size
              have gy := (hq.cell (p := ad.add j) (by rw [add_block]; exact hblk)).trans cy
              clear hq
              go_simp
              first | rfl | (trace_state; fail)
            try simp only [Act.put, List.setIfInBounds_toArray, List.set_cons_zero, List.set_cons_succ]
            refine sch_one rfl rfl (fun K hK => ?_)
            go_simp
            refine hK _ _ (fun h => absurd h (by decide)) ?_
            clear hK K
            try simp only [Act.put, List.setIfInBounds_toArray, List.set_cons_zero, List.set_cons_succ]
            refine sch_nil ?_
            go_wp2
            go_ret
            exact ⟨(by rw [NO.out]; first | done | rfl), hw0.drew.trans hb6⟩
          · rw [hlb] at hge
            have OKN := Lib.hid (show ∀ i, i < j + 1 + 1 → okAt es i = true by
              intro i hi
              rcases Nat.lt_or_ge i (j + 1) with h | h
              · exact HOK.out i h
              · have : i = j + 1 := by omega
                subst this
                unfold okAt
                rw [← hx, Nat.add_sub_cancel, ← hy, hlb, decide_eq_true (by omega)]; simp)
            clear hlb hx hy h0
            rw [← hke] at hlt cx e8 e9 OKN ⊢
            have hjl : j < es.length := by omega
            have hk0 : 0 < k := by omega
            have HKE := Lib.hid hke; clear hke e8'
            go_wp2
            refine wp_region_schG (fun W => W.cell? (ad.add k) = some (.float .f64 x) ∧ W.cell? (ad.add j) = some (.float .f64 y) ∧ ad.block < W.heap.size ∧ Tab W ∧ Within w W) 22 (.firm 0 (.firm 1 (.firm 2 (.firm 3 (.firm 4 (.firm 5 (.firm 6 (.firm 7 (.firm 8 (.firm 9 (.firm 10 (.firm 11 (.firm 12 (.firm 13 (.firm 15 (.firm 16 (.firm 17 (.firm 18 (.one 14 (.one 19 (.firm 20 (.firm 21 (.one 22 .nil))))))))))))))))))))))) (by kernel_rfl) (by kernel_rfl) ⟨cx, cy, hblk, hTr, HIN.out⟩ ?_
            rintro w0 ⟨cx, cy, hblk, hTw, hw0⟩
            try simp only [Act.put, List.setIfInBounds_toArray, List.set_cons_zero, List.set_cons_succ]
            apply sch_firm rfl rfl (by repeat (first | with_reducible exact Within.refl _ | with_reducible assumption | with_reducible refine Within.alloc ?_ _ | with_reducible refine Within.drew ?_ | with_reducible refine Within.drewN ?_ _ | with_reducible refine Within.setCell ?_ (by first | (simp; done) | (simp; omega)) _ | with_reducible refine Within.trans ?_ (by assumption)))
            · intro wq hq
              have hcq := hq.cells
              have gx := (hq.cell (p := ad.add k) (by rw [add_block]; exact hblk)).trans cx
              have gxb := Nat.lt_of_lt_of_le hblk hq.size
              have gy := (hq.cell (p := ad.add j) (by rw [add_block]; exact hblk)).trans cy
              clear hq
              go_simp
              first | rfl | (trace_state; fail)
            try simp only [Act.put, List.setIfInBounds_toArray, List.set_cons_zero, List.set_cons_succ]
            apply sch_firm rfl rfl (by repeat (first | with_reducible exact Within.refl _ | with_reducible assumption | with_reducible refine Within.alloc ?_ _ | with_reducible refine Within.drew ?_ | with_reducible refine Within.drewN ?_ _ | with_reducible refine Within.setCell ?_ (by first | (simp; done) | (simp; omega)) _ | with_reducible refine Within.trans ?_ (by assumption)))
            · intro wq hq
              have hcq := hq.cells
              have gx := (hq.cell (p := ad.add k) (by rw [add_block]; exact hblk)).trans cx
              have gxb := Nat.lt_of_lt_of_le hblk hq.size
              have gy := (hq.cell (p := ad.add j) (by rw [add_block]; exact hblk)).trans cy
              clear hq
              go_simp
              first | rfl | (trace_state; fail)
            try simp only [Act.put, List.setIfInBounds_toArray, List.set_cons_zero, List.set_cons_succ]
            apply sch_firm rfl rfl (by repeat (first | with_reducible exact Within.refl _ | with_reducible assumption | with_reducible refine Within.alloc ?_ _ | with_reducible refine Within.drew ?_ | with_reducible refine Within.drewN ?_ _ | with_reducible refine Within.setCell ?_ (by first | (simp; done) | (simp; omega)) _ | with_reducible refine Within.trans ?_ (by assumption)))
            · intro wq hq
              have hcq := hq.cells
              have gx := (hq.cell (p := ad.add k) (by rw [add_block]; exact hblk)).trans cx
              have gxb := Nat.lt_of_lt_of_le hblk hq.size
              have gy := (hq.cell (p := ad.add j) (by rw [add_block]; exact hblk)).trans cy
              clear hq
              go_simp
              first | rfl | (trace_state; fail)
            try simp only [Act.put, List.setIfInBounds_toArray, List.set_cons_zero, List.set_cons_succ]
            apply sch_firm rfl rfl (by repeat (first | with_reducible exact Within.refl _ | with_reducible assumption | with_reducible refine Within.alloc ?_ _ | with_reducible refine Within.drew ?_ | with_reducible refine Within.drewN ?_ _ | with_reducible refine Within.setCell ?_ (by first | (simp; done) | (simp; omega)) _ | with_reducible refine Within.trans ?_ (by assumption)))
            · intro wq hq
              have hcq := hq.cells
              have gx := (hq.cell (p := ad.add k) (by rw [add_block]; exact hblk)).trans cx
              have gxb := Nat.lt_of_lt_of_le hblk hq.size
              have gy := (hq.cell (p := ad.add j) (by rw [add_block]; exact hblk)).trans cy
              clear hq
              go_simp
              first | rfl | (trace_state; fail)
            try simp only [Act.put, List.setIfInBounds_toArray, List.set_cons_zero, List.set_cons_succ]
            apply sch_firm rfl rfl (by repeat (first | with_reducible exact Within.refl _ | with_reducible assumption | with_reducible refine Within.alloc ?_ _ | with_reducible refine Within.drew ?_ | with_reducible refine Within.drewN ?_ _ | with_reducible refine Within.setCell ?_ (by first | (simp; done) | (simp; omega)) _ | with_reducible refine Within.trans ?_ (by assumption)))
            · intro wq hq
              have hcq := hq.cells
              have gx := (hq.cell (p := ad.add k) (by rw [add_block]; exact hblk)).trans cx
              have gxb := Nat.lt_of_lt_of_le hblk hq.size
              have gy := (hq.cell (p := ad.add j) (by rw [add_block]; exact hblk)).trans cy
              clear hq
              go_simp
              first | rfl | (trace_state; fail)
            try simp only [Act.put, List.setIfInBounds_toArray, List.set_cons_zero, List.set_cons_succ]
            apply sch_firm rfl rfl (by repeat (first | with_reducible exact Within.refl _ | with_reducible assumption | with_reducible refine Within.alloc ?_ _ | with_reducible refine Within.drew ?_ | with_reducible refine Within.drewN ?_ _ | with_reducible refine Within.setCell ?_ (by first | (simp; done) | (simp; omega)) _ | with_reducible refine Within.trans ?_ (by assumption)))
            · intro wq hq
              have hcq := hq.cells
              have gx := (hq.cell (p := ad.add k) (by rw [add_block]; exact hblk)).trans cx
              have gxb := Nat.lt_of_lt_of_le hblk hq.size
              have gy := (hq.cell (p := ad.add j) (by rw [add_block]; exact hblk)).trans cy
              clear hq
              go_simp
              first | rfl | (trace_state; fail)
            try simp only [Act.put, List.setIfInBounds_toArray, List.set_cons_zero, List.set_cons_succ]
            apply sch_want rfl (by first | rfl | decide | (simp [Region.wanted, yielded]; done) | (simp [Region.wanted, yielded]; assumption)) (by repeat (first | with_reducible exact Within.refl _ | with_reducible assumption | with_reducible refine Within.alloc ?_ _ | with_reducible refine Within.drew ?_ | with_reducible refine Within.drewN ?_ _ | with_reducible refine Within.setCell ?_ (by first | (simp; done) | (simp; omega)) _ | with_reducible refine Within.trans ?_ (by assumption)))
            · intro wq hq
              have hcq := hq.cells
              have gx := (hq.cell (p := ad.add k) (by rw [add_block]; exact hblk)).trans cx
              have gxb := Nat.lt_of_lt_of_le hblk hq.size
              have gy := (hq.cell (p := ad.add j) (by rw [add_block]; exact hblk)).trans cy
              clear hq
              go_simp
              first | rfl | (trace_state; fail)
            try simp only [Act.put, List.setIfInBounds_toArray, List.set_cons_zero, List.set_cons_succ]
            apply sch_want rfl (by first | rfl | decide | (simp [Region.wanted, yielded]; done) | (simp [Region.wanted, yielded]; assumption)) (by repeat (first | with_reducible exact Within.refl _ | with_reducible assumption | with_reducible refine Within.alloc ?_ _ | with_reducible refine Within.drew ?_ | with_reducible refine Within.drewN ?_ _ | with_reducible refine Within.setCell ?_ (by first | (simp; done) | (simp; omega)) _ | with_reducible refine Within.trans ?_ (by assumption)))
            · intro wq hq
              have hcq := hq.cells
              have gx := (hq.cell (p := ad.add k) (by rw [add_block]; exact hblk)).trans cx
              have gxb := Nat.lt_of_lt_of_le hblk hq.size
              have gy := (hq.cell (p := ad.add j) (by rw [add_block]; exact hblk)).trans cy
              clear hq
              go_simp
              first | rfl | (trace_state; fail)
            try simp only [Act.put, List.setIfInBounds_toArray, List.set_cons_zero, List.set_cons_succ]
            apply sch_want rfl (by first | rfl | decide | (simp [Region.wanted, yielded]; done) | (simp [Region.wanted, yielded]; assumption)) (by repeat (first | with_reducible exact Within.refl _ | with_reducible assumption | with_reducible refine Within.alloc ?_ _ | with_reducible refine Within.drew ?_ | with_reducible refine Within.drewN ?_ _ | with_reducible refine Within.setCell ?_ (by first | (simp; done) | (simp; omega)) _ | with_reducible refine Within.trans ?_ (by assumption)))
            · intro wq hq
              have hcq := hq.cells
              have gx := (hq.cell (p := ad.add k) (by rw [add_block]; exact hblk)).trans cx
              have gxb := Nat.lt_of_lt_of_le hblk hq.size
              have gy := (hq.cell (p := ad.add j) (by rw [add_block]; exact hblk)).trans cy
              clear hq
              go_simp
              first | rfl | (trace_state; fail)
            try simp only [Act.put, List.setIfInBounds_toArray, List.set_cons_zero, List.set_cons_succ]
            apply sch_want rfl (by first | rfl | decide | (simp [Region.wanted, yielded]; done) | (simp [Region.wanted, yielded]; assumption)) (by repeat (first | with_reducible exact Within.refl _ | with_reducible assumption | with_reducible refine Within.alloc ?_ _ | with_reducible refine Within.drew ?_ | with_reducible refine Within.drewN ?_ _ | with_reducible refine Within.setCell ?_ (by first | (simp; done) | (simp; omega)) _ | with_reducible refine Within.trans ?_ (by assumption)))
            · intro wq hq
              have hcq := hq.cells
              have gx := (hq.cell (p := ad.add k) (by rw [add_block]; exact hblk)).trans cx
              have gxb := Nat.lt_of_lt_of_le hblk hq.size
              have gy := (hq.cell (p := ad.add j) (by rw [add_block]; exact hblk)).trans cy
              clear hq
              go_simp
              first | rfl | (trace_state; fail)
            try simp only [Act.put, List.setIfInBounds_toArray, List.set_cons_zero, List.set_cons_succ]
            apply sch_want rfl (by first | rfl | decide | (simp [Region.wanted, yielded]; done) | (simp [Region.wanted, yielded]; assumption)) (by repeat (first | with_reducible exact Within.refl _ | with_reducible assumption | with_reducible refine Within.alloc ?_ _ | with_reducible refine Within.drew ?_ | with_reducible refine Within.drewN ?_ _ | with_reducible refine Within.setCell ?_ (by first | (simp; done) | (simp; omega)) _ | with_reducible refine Within.trans ?_ (by assumption)))
            · intro wq hq
              have hcq := hq.cells
              have gx := (hq.cell (p := ad.add k) (by rw [add_block]; exact hblk)).trans cx
              have gxb := Nat.lt_of_lt_of_le hblk hq.size
              have gy := (hq.cell (p := ad.add j) (by rw [add_block]; exact hblk)).trans cy
              clear hq
              go_simp
              first | rfl | (trace_state; fail)
            try simp only [Act.put, List.setIfInBounds_toArray, List.set_cons_zero, List.set_cons_succ]
            apply sch_want rfl (by first | rfl | decide | (simp [Region.wanted, yielded]; done) | (simp [Region.wanted, yielded]; assumption)) (by repeat (first | with_reducible exact Within.refl _ | with_reducible assumption | with_reducible refine Within.alloc ?_ _ | with_reducible refine Within.drew ?_ | with_reducible refine Within.drewN ?_ _ | with_reducible refine Within.setCell ?_ (by first | (simp; done) | (simp; omega)) _ | with_reducible refine Within.trans ?_ (by assumption)))
            · intro wq hq
              have hcq := hq.cells
              have gx := (hq.cell (p := ad.add k) (by rw [add_block]; exact hblk)).trans cx
              have gxb := Nat.lt_of_lt_of_le hblk hq.size
              have gy := (hq.cell (p := ad.add j) (by rw [add_block]; exact hblk)).trans cy
              clear hq
              go_simp
              first | rfl | (trace_state; fail)
            try simp only [Act.put, List.setIfInBounds_toArray, List.set_cons_zero, List.set_cons_succ]
            apply sch_want rfl (by first | rfl | decide | (simp [Region.wanted, yielded]; done) | (simp [Region.wanted, yielded]; assumption)) (by repeat (first | with_reducible exact Within.refl _ | with_reducible assumption | with_reducible refine Within.alloc ?_ _ | with_reducible refine Within.drew ?_ | with_reducible refine Within.drewN ?_ _ | with_reducible refine Within.setCell ?_ (by first | (simp; done) | (simp; omega)) _ | with_reducible refine Within.trans ?_ (by assumption)))
            · intro wq hq
              have hcq := hq.cells
              have gx := (hq.cell (p := ad.add k) (by rw [add_block]; exact hblk)).trans cx
              have gxb := Nat.lt_of_lt_of_le hblk hq.size
              have gy := (hq.cell (p := ad.add j) (by rw [add_block]; exact hblk)).trans cy
              clear hq
              go_simp
              first | rfl | (trace_state; fail)
            try simp only [Act.put, List.setIfInBounds_toArray, List.set_cons_zero, List.set_cons_succ]
            apply sch_want rfl (by first | rfl | decide | (simp [Region.wanted, yielded]; done) | (simp [Region.wanted, yielded]; assumption)) (by repeat (first | with_reducible exact Within.refl _ | with_reducible assumption | with_reducible refine Within.alloc ?_ _ | with_reducible refine Within.drew ?_ | with_reducible refine Within.drewN ?_ _ | with_reducible refine Within.setCell ?_ (by first | (simp; done) | (simp; omega)) _ | with_reducible refine Within.trans ?_ (by assumption)))
            · intro wq hq
              have hcq := hq.cells
              have gx := (hq.cell (p := ad.add k) (by rw [add_block]; exact hblk)).trans cx
              have gxb := Nat.lt_of_lt_of_le hblk hq.size
              have gy := (hq.cell (p := ad.add j) (by rw [add_block]; exact hblk)).trans cy
              clear hq
              go_simp
              first | rfl | (trace_state; fail)
            try simp only [Act.put, List.setIfInBounds_toArray, List.set_cons_zero, List.set_cons_succ]
            apply sch_want rfl (by first | rfl | decide | (simp [Region.wanted, yielded]; done) | (simp [Region.wanted, yielded]; assumption)) (by repeat (first | with_reducible exact Within.refl _ | with_reducible assumption | with_reducible refine Within.alloc ?_ _ | with_reducible refine Within.drew ?_ | with_reducible refine Within.drewN ?_ _ | with_reducible refine Within.setCell ?_ (by first | (simp; done) | (simp; omega)) _ | with_reducible refine Within.trans ?_ (by assumption)))
            · intro wq hq
              have hcq := hq.cells
              have gx := (hq.cell (p := ad.add k) (by rw [add_block]; exact hblk)).trans cx
              have gxb := Nat.lt_of_lt_of_le hblk hq.size
              have gy := (hq.cell (p := ad.add j) (by rw [add_block]; exact hblk)).trans cy
              clear hq
              go_simp
              first | rfl | (trace_state; fail)
            try simp only [Act.put, List.setIfInBounds_toArray, List.set_cons_zero, List.set_cons_succ]
            apply sch_want rfl (by first | rfl | decide | (simp [Region.wanted, yielded]; done) | (simp [Region.wanted, yielded]; assumption)) (by repeat (first | with_reducible exact Within.refl _ | with_reducible assumption | with_reducible refine Within.alloc ?_ _ | with_reducible refine Within.drew ?_ | with_reducible refine Within.drewN ?_ _ | with_reducible refine Within.setCell ?_ (by first | (simp; done) | (simp; omega)) _ | with_reducible refine Within.trans ?_ (by assumption)))
            · intro wq hq
              have hcq := hq.cells
              have gx := (hq.cell (p := ad.add k) (by rw [add_block]; exact hblk)).trans cx
              have gxb := Nat.lt_of_lt_of_le hblk hq.size
              have gy := (hq.cell (p := ad.add j) (by rw [add_block]; exact hblk)).trans cy
              clear hq
              go_simp
              first | rfl | (trace_state; fail)
            try simp only [Act.put, List.setIfInBounds_toArray, List.set_cons_zero, List.set_cons_succ]
            apply sch_want rfl (by first | rfl | decide | (simp [Region.wanted, yielded]; done) | (simp [Region.wanted, yielded]; assumption)) (by repeat (first | with_reducible exact Within.refl _ | with_reducible assumption | with_reducible refine Within.alloc ?_ _ | with_reducible refine Within.drew ?_ | with_reducible refine Within.drewN ?_ _ | with_reducible refine Within.setCell ?_ (by first | (simp; done) | (simp; omega)) _ | with_reducible refine Within.trans ?_ (by assumption)))
            · intro wq hq
              have hcq := hq.cells
              have gx := (hq.cell (p := ad.add k) (by rw [add_block]; exact hblk)).trans cx
              have gxb := Nat.lt_of_lt_of_le hblk hq.size
              have gy := (hq.cell (p := ad.add j) (by rw [add_block]; exact hblk)).trans cy
              clear hq
              go_simp
              first | rfl | (trace_state; fail)
            try simp only [Act.put, List.setIfInBounds_toArray, List.set_cons_zero, List.set_cons_succ]
            apply sch_want rfl (by first | rfl | decide | (simp [Region.wanted, yielded]; done) | (simp [Region.wanted, yielded]; assumption)) (by repeat (first | with_reducible exact Within.refl _ | with_reducible assumption | with_reducible refine Within.alloc ?_ _ | with_reducible refine Within.drew ?_ | with_reducible refine Within.drewN ?_ _ | with_reducible refine Within.setCell ?_ (by first | (simp; done) | (simp; omega)) _ | with_reducible refine Within.trans ?_ (by assumption)))
            · intro wq hq
              have hcq := hq.cells
              have gx := (hq.cell (p := ad.add k) (by rw [add_block]; exact hblk)).trans cx
              have gxb := Nat.lt_of_lt_of_le hblk hq.size
              have gy := (hq.cell (p := ad.add j) (by rw [add_block]; exact hblk)).trans cy
              clear hq
              go_simp
              first | rfl | (trace_state; fail)
            try simp only [Act.put, List.setIfInBounds_toArray, List.set_cons_zero, List.set_cons_succ]
            refine sch_one_want rfl (by first | rfl | decide | (simp [Region.wanted, yielded]; done) | (simp [Region.wanted, yielded]; assumption)) (fun K hK => ?_)
            go_simp
            refine (CA.out _).mono ?_; rintro e5 w5 ⟨rfl, rfl⟩
            refine hK _ _ (fun _ => (by repeat (first | with_reducible exact Within.refl _ | with_reducible assumption | with_reducible refine Within.alloc ?_ _ | with_reducible refine Within.drew ?_ | with_reducible refine Within.drewN ?_ _ | with_reducible refine Within.setCell ?_ (by first | (simp; done) | (simp; omega)) _ | with_reducible refine Within.trans ?_ (by assumption)))) ?_
            clear hK K
            try simp only [Act.put, List.setIfInBounds_toArray, List.set_cons_zero, List.set_cons_succ]
            refine sch_one_want rfl (by first | rfl | decide | (simp [Region.wanted, yielded]; done) | (simp [Region.wanted, yielded]; assumption)) (fun K hK => ?_)
            go_simp
            refine (CL.out _ (hTw.of (by repeat (first | with_reducible exact Within.refl _ | with_reducible assumption | with_reducible refine Within.drew ?_ | with_reducible refine Within.trans ?_ (by assumption))))).mono ?_; rintro e6 w6 ⟨rfl, hb6⟩
            refine hK _ _ (fun _ => (by repeat (first | with_reducible exact Within.refl _ | with_reducible assumption | with_reducible refine Within.alloc ?_ _ | with_reducible refine Within.drew ?_ | with_reducible refine Within.drewN ?_ _ | with_reducible refine Within.setCell ?_ (by first | (simp; done) | (simp; omega)) _ | with_reducible refine Within.trans ?_ (by assumption)))) ?_
            clear hK K
            try simp only [Act.put, List.setIfInBounds_toArray, List.set_cons_zero, List.set_cons_succ]
            apply sch_want rfl (by first | rfl | decide | (simp [Region.wanted, yielded]; done) | (simp [Region.wanted, yielded]; assumption)) (by repeat (first | with_reducible exact Within.refl _ | with_reducible assumption | with_reducible refine Within.alloc ?_ _ | with_reducible refine Within.drew ?_ | with_reducible refine Within.drewN ?_ _ | with_reducible refine Within.setCell ?_ (by first | (simp; done) | (simp; omega)) _ | with_reducible refine Within.trans ?_ (by assumption)))
            · intro wq hq
              have hcq := hq.cells
              have gx := (hq.cell (p := ad.add k) (by rw [add_block]; exact hblk)).trans cx
              have gxb := Nat.lt_of_lt_of_le hblk hq.size
              have gy := (hq.cell (p := ad.add j) (by rw [add_block]; exact hblk)).trans cy
              clear hq
              go_simp
              first | rfl | (trace_state; fail)
            try simp only [Act.put, List.setIfInBounds_toArray, List.set_cons_zero, List.set_cons_succ]
            apply sch_want rfl (by first | rfl | decide | (simp [Region.wanted, yielded]; done) | (simp [Region.wanted, yielded]; assumption)) (by repeat (first | with_reducible exact Within.refl _ | with_reducible assumption | with_reducible refine Within.alloc ?_ _ | with_reducible refine Within.drew ?_ | with_reducible refine Within.drewN ?_ _ | with_reducible refine Within.setCell ?_ (by first | (simp; done) | (simp; omega)) _ | with_reducible refine Within.trans ?_ (by assumption)))
            · intro wq hq
              have hcq := hq.cells
              have gx := (hq.cell (p := ad.add k) (by rw [add_block]; exact hblk)).trans cx
              have gxb := Nat.lt_of_lt_of_le hblk hq.size
              have gy := (hq.cell (p := ad.add j) (by rw [add_block]; exact hblk)).trans cy
              clear hq
              go_simp
              first | rfl | (trace_state; fail)
            try simp only [Act.put, List.setIfInBounds_toArray, List.set_cons_zero, List.set_cons_succ]
            refine sch_one rfl rfl (fun K hK => ?_)
            go_simp
            refine hK _ _ (fun h => absurd h (by decide)) ?_
            clear hK K
            try simp only [Act.put, List.setIfInBounds_toArray, List.set_cons_zero, List.set_cons_succ]
            refine sch_nil ?_
            have hw4 : Within w w6 := hw0.drew.trans hb6
            clear hw0
            go_wp2
            go_roundw
            case rel => exact ⟨k + 1, hlt, by go_num, OKN.out, hw4⟩
            case measure => simp [intOf]; omega
    · obtain rfl : k = es.length := by omega
      have YES := Lib.hid (isB_yes H64.out HF.out HOK.out)
      go_wp2
      go_ret
      exact ⟨(by rw [YES.out]; first | done | rfl), hin⟩
theorem eis_any (A : Option Addr) (c : Nat) (es : List Nat) (hw : Words64 es) (hl : es.length ≤ 1152921504606846976) (w : World) (hT : Tab w) (hr : SlAt w A (f64v es)) : Calls Tryz.prog 17 #[.slice A es.length c] w fun e w' => e = .returned (.bool (isB es)) ∧ Within w w' := by
  by_cases h64 : es.length ≤ 64
  · cases hf : es.all finD
    · rw [isB_fin hf]; exact eis_fin A c es hw hl h64 hf w hT hr
    · exact eis_main A c es hw hl h64 hf w hT hr
  · rw [isB_long (by omega)]; exact eis_long A c es hw hl (by omega) w hT hr
end Go.Proofs.YtjmaggfddinbkaaGreatDoor
end

section
namespace Go.Proofs.YtjmaggfddinbkaaGreatDoor
open Go.RowKit
def chkE (l : List Nat) : Int := if l.all finD = false then 4 else if 64 < l.length then 2 else if isB l = false then 40 else 0
theorem chkE_zero {l : List Nat} : chkE l = 0 ↔ isB l = true := by
  unfold chkE
  constructor
  · intro h
    split at h
    · cases h
    · split at h
      · cases h
      · split at h
        · cases h
        · rename_i h3; simpa using h3
  · intro h
    have h1 : l.all finD = true := by
      unfold isB at h; simp only [Bool.and_eq_true] at h; exact h.1.2
    have h2 : l.length ≤ 64 := by
      unfold isB at h; simp only [Bool.and_eq_true, decide_eq_true_eq] at h; exact h.1.1
    rw [h1, if_neg (by decide), if_neg (by omega), h, if_neg (by decide)]
theorem chk_len {l : List Nat} (h : chkE l = 0) : l.length ≤ 64 := by
  have := chkE_zero.1 h
  unfold isB at this; simp only [Bool.and_eq_true, decide_eq_true_eq] at this; exact this.1.1
def growL (es : List Nat) (b : Nat) : List (Option Nat) := if chkE es = 0 then (if finW b then (growSt (es.map fv) (fv b)).out else []) else []
def growEr (es : List Nat) (b : Nat) : Int := if chkE es = 0 then (if finW b then (growSt (es.map fv) (fv b)).err else 4) else chkE es
theorem ResF.none_ {W w : World} (er : Int) (h : Within W w) : ResF W [] er (.returned (.tuple #[.slice none 0 0, .int .i64 er])) w := ⟨_, [], rfl, OwnF.nil_ _ _, (fun x hx => by cases hx), rfl, h⟩
set_option maxRecDepth 100000 in
set_option maxHeartbeats 600000 in
theorem echeck_fin (A : Option Addr) (c : Nat) (es : List Nat) (hw : Words64 es) (hl : es.length ≤ 1152921504606846976) (hf : es.all finD = false) (w : World) (hT : Tab w) (hr : SlAt w A (f64v es)) : Calls Tryz.prog 65 #[.slice A es.length c] w fun e w' => e = .returned (.int .i64 (4)) ∧ Within w w' := by
  have CF := Lib.hid (Finite_any A c es hw (by omega) w hr)
  rw [hf] at CF
  clear hw hr hT hf
  go_enter Tryz.func65, Tryz.ntmps65
  go_wp2_with fail
  refine CF.out.mono ?_; rintro e1 w1 ⟨rfl, hb1⟩
  go_wp2
  go_ret
  exact ⟨rfl, hb1⟩
set_option maxRecDepth 100000 in
set_option maxHeartbeats 600000 in
theorem echeck_long (A : Option Addr) (c : Nat) (es : List Nat) (hw : Words64 es) (hl : es.length ≤ 1152921504606846976) (hf : es.all finD = true) (h64 : 64 < es.length) (w : World) (hT : Tab w) (hr : SlAt w A (f64v es)) : Calls Tryz.prog 65 #[.slice A es.length c] w fun e w' => e = .returned (.int .i64 (2)) ∧ Within w w' := by
  have CF := Lib.hid (Finite_any A c es hw (by omega) w hr)
  rw [hf] at CF
  have d : decide ((es.length : Int) > 64) = true := decide_eq_true (by omega)
  clear hw hr hT hf
  go_enter Tryz.func65, Tryz.ntmps65
  go_wp2_with fail
  refine CF.out.mono ?_; rintro e1 w1 ⟨rfl, hb1⟩
  go_wp2
  go_ret
  exact ⟨rfl, hb1⟩
set_option maxRecDepth 100000 in
set_option maxHeartbeats 600000 in
theorem echeck_is (A : Option Addr) (c : Nat) (es : List Nat) (hw : Words64 es) (hl : es.length ≤ 1152921504606846976) (hf : es.all finD = true) (h64 : es.length ≤ 64) (v : Int) (b : Bool) (hb : isB es = b) (hv : (if b then 0 else 40) = v) (w : World) (hT : Tab w) (hr : SlAt w A (f64v es)) : Calls Tryz.prog 65 #[.slice A es.length c] w fun e w' => e = .returned (.int .i64 (v)) ∧ Within w w' := by
  have CF := Lib.hid (Finite_any A c es hw (by omega) w hr)
  rw [hf] at CF
  have d : decide ((es.length : Int) > 64) = false := decide_eq_false (by omega)
  have CI := Lib.hid (fun w hT hr => eis_any A c es hw (by omega) w hT hr)
  rw [hb] at CI
  have HT := Lib.hid hT; have HR := Lib.hid hr; clear hw hr hT hf hb
  cases b
  · obtain rfl : v = 40 := by simpa using hv.symm
    clear hv
    go_enter Tryz.func65, Tryz.ntmps65
    go_wp2_with fail
    refine CF.out.mono ?_; rintro e1 w1 ⟨rfl, hb1⟩
    go_wp2_with fail
    refine (CI.out _ (HT.out.of hb1) (HR.out.of hb1)).mono ?_; rintro e2 w2 ⟨rfl, hb2⟩
    go_wp2
    go_ret
    exact ⟨rfl, hb1.trans hb2⟩
  · obtain rfl : v = 0 := by simpa using hv.symm
    clear hv
    go_enter Tryz.func65, Tryz.ntmps65
    go_wp2_with fail
    refine CF.out.mono ?_; rintro e1 w1 ⟨rfl, hb1⟩
    go_wp2_with fail
    refine (CI.out _ (HT.out.of hb1) (HR.out.of hb1)).mono ?_; rintro e2 w2 ⟨rfl, hb2⟩
    go_wp2
    go_ret
    exact ⟨rfl, hb1.trans hb2⟩
theorem echeck_any (A : Option Addr) (c : Nat) (es : List Nat) (hw : Words64 es) (hl : es.length ≤ 1152921504606846976) (w : World) (hT : Tab w) (hr : SlAt w A (f64v es)) : Calls Tryz.prog 65 #[.slice A es.length c] w fun e w' => e = .returned (.int .i64 (chkE es)) ∧ Within w w' := by
  unfold chkE
  cases hf : es.all finD
  · rw [if_pos rfl]; exact echeck_fin A c es hw hl hf w hT hr
  · rw [if_neg (by decide)]
    by_cases h64 : 64 < es.length
    · rw [if_pos h64]; exact echeck_long A c es hw hl hf h64 w hT hr
    · rw [if_neg h64]
      refine echeck_is A c es hw hl hf (by omega) _ (isB es) rfl ?_ w hT hr
      cases isB es <;> rfl
set_option maxRecDepth 100000 in
set_option maxHeartbeats 600000 in
theorem eGrow_any (A : Option Addr) (c : Nat) (es : List Nat) (hw : Words64 es) (hl : es.length ≤ 1152921504606846976) (b : Nat) (hb : b < 18446744073709551616) (w : World) (hT : Tab w) (hr : SlAt w A (f64v es)) : Calls Tryz.prog 13 #[.slice A es.length c, .float .f64 b] w (ResF w (growL es b) (growEr es b)) := by
  have CK := Lib.hid (echeck_any A c es hw hl w hT hr)
  have HR := Lib.hid hr; clear hr hT
  unfold growL growEr
  by_cases h0 : chkE es = 0
  · rw [if_pos h0, if_pos h0]
    have CG := Lib.hid (fun w hr => egrow_any A c es b hw (Nat.le_trans (chk_len h0) (by decide)) hb w hr)
    rw [h0] at CK
    clear h0 hw hb
    have CN := Lib.hid (fun w => efinite_any b w)
    cases hf : finW b
    · rw [if_neg (by decide), if_neg (by decide)]
      rw [hf] at CN
      clear hf
      go_enter Tryz.func13, Tryz.ntmps13
      go_wp2_with fail
      refine CK.out.mono ?_; rintro e1 w1 ⟨rfl, hb1⟩
      go_wp2_with fail
      refine (CN.out _).mono ?_; rintro e2 w2 ⟨rfl, hb2⟩
      go_wp2
      go_ret2
      exact ResF.none_ 4 (hb1.trans hb2)
    · rw [if_pos rfl, if_pos rfl]
      rw [hf] at CN
      clear hf
      obtain ⟨go, hgo⟩ : ∃ go, go = (growSt (es.map fv) (fv b)).out := ⟨_, rfl⟩
      obtain ⟨ge, hge⟩ : ∃ ge, ge = (growSt (es.map fv) (fv b)).err := ⟨_, rfl⟩
      rw [← hgo, ← hge] at CG ⊢
      clear hgo hge
      go_enter Tryz.func13, Tryz.ntmps13
      go_wp2_with fail
      refine CK.out.mono ?_; rintro e1 w1 ⟨rfl, hb1⟩
      go_wp2_with fail
      refine (CN.out _).mono ?_; rintro e2 w2 ⟨rfl, hb2⟩
      go_wp2_with fail
      refine (CG.out _ (HR.out.of (hb1.trans hb2))).mono ?_; rintro e3 w3 ⟨sv, ls, rfl, ho, hws, hm, hb3⟩
      go_wp2
      go_ret2
      exact ⟨sv, ls, rfl, OwnF.less ho (hb1.trans hb2).size, hws, hm, (hb1.trans hb2).trans hb3⟩
  · clear hw hb
    rw [if_neg h0, if_neg h0]
    obtain ⟨v, hv⟩ : ∃ v, v = chkE es := ⟨_, rfl⟩
    rw [← hv] at CK h0 ⊢
    have hne : (v != 0) = true := by simpa using h0
    clear hv h0
    go_enter Tryz.func13, Tryz.ntmps13
    go_wp2_with fail
    refine CK.out.mono ?_; rintro e1 w1 ⟨rfl, hb1⟩
    go_wp2
    go_ret2
    exact ResF.none_ v hb1
end Go.Proofs.YtjmaggfddinbkaaGreatDoor
end

section
namespace Go.Proofs.YtjmaggfddinbkaaGreatDoor
open Go.RowKit
theorem fv_some {x v : Nat} (h : fv x = some v) : x = v := by
  unfold fv at h
  split at h
  · cases h
  · injection h
theorem map_fv_two {ls : List Nat} {a b : Nat} (h : ls.map fv = [some a, some b]) : ls = [a, b] := by
  rcases ls with _ | ⟨x, _ | ⟨y, _ | ⟨z, l⟩⟩⟩
  · simp at h
  · simp at h
  · simp only [List.map_cons, List.map_nil, List.cons.injEq, and_true] at h
    rw [fv_some h.1, fv_some h.2]
  · simp at h
set_option maxRecDepth 100000 in
set_option maxHeartbeats 600000 in
theorem ef_any (a : Nat) (w : World) : Calls Tryz.prog 14 #[.int .u64 a] w fun e w' => e = .returned (.float .f64 a) ∧ w = w' := by
  go_enter Tryz.func14, Tryz.ntmps14
  go_wp2
  go_ret
  exact ⟨rfl, rfl⟩
theorem t_twoS : twoS (fv 4845873199050653696) (fv 4607182418800017408) = some 4845873199050653696 := by decide +kernel
theorem t_twoL : twoL (fv 4845873199050653696) (fv 4607182418800017408) = some 4607182418800017408 := by decide +kernel
theorem t_halH : halH (fv 4728779608772575232) = some 4728779608739020800 := by decide +kernel
theorem t_halL : halL (fv 4728779608772575232) = some 4607182418800017408 := by decide +kernel
theorem t_proP : proP (fv 4728779608772575232) (fv 4728779608772575232) = some 4850376798745133056 := by decide +kernel
theorem t_proE : proE (fv 4728779608772575232) (fv 4728779608772575232) = some 4607182418800017408 := by decide +kernel
theorem t_growL : growL [4607182418800017408] 4877398396442247168 = [some 4607182418800017408, some 4877398396442247168] := by decide +kernel
theorem t_growE : growEr [4607182418800017408] 4877398396442247168 = 0 := by decide +kernel
theorem t_is : isB [4607182418800017408, 4877398396442247168] = true := by decide +kernel
theorem t_det : P64.detI 4607182418800017408 4611686018427387904 4613937818241073152 4616189618054758400 = -1 := by decide +kernel
theorem t_fin : [4607182418800017408, 4611686018427387904, 4613937818241073152, 4616189618054758400].all finD = true := by decide +kernel
set_option maxRecDepth 100000 in
set_option maxHeartbeats 1600000 in
theorem awake_true (w : World) (hT : Tab w) : Calls Tryz.prog 21 #[] w fun e w' => e = .returned (.bool true) ∧ Within w w' := by
  have C1 := Lib.hid (fun w => Etwo_any 4845873199050653696 4607182418800017408 (by decide) (by decide) w)
  have C2 := Lib.hid (fun w => Esplit_any 4728779608772575232 (by decide) w)
  have C3 := Lib.hid (fun w => Eprod_any 4728779608772575232 4728779608772575232 (by decide) (by decide) w)
  have C4 := Lib.hid (fun A w hT hr => eGrow_any A 1 [4607182418800017408] (by intro x hx; simp at hx; omega) (by decide) 4877398396442247168 (by decide) w hT hr)
  have C5 := Lib.hid (fun w hT => P64.Edet 4607182418800017408 4611686018427387904 4613937818241073152 4616189618054758400 (by decide) (by decide) (by decide) (by decide) w hT)
  have C6 := Lib.hid (fun A c w hT hr => eis_any A c [4607182418800017408, 4877398396442247168] (by intro x hx; simp at hx; omega) (by decide) w hT hr)
  rw [t_twoS, t_twoL] at C1
  rw [t_halH, t_halL] at C2
  rw [t_proP, t_proE] at C3
  rw [t_growL, t_growE] at C4
  rw [t_det, t_fin, if_pos rfl, if_pos rfl] at C5
  rw [t_is] at C6
  have HT := Lib.hid hT; clear hT
  have c47_47 : (FloatKind.f64.format.order 4845873199050653696 4845873199050653696 == some .eq) = true := by decide +kernel
  have c72_72 : (FloatKind.f64.format.order 4607182418800017408 4607182418800017408 == some .eq) = true := by decide +kernel
  have c19_19 : (FloatKind.f64.format.order 4728779608739020800 4728779608739020800 == some .eq) = true := by decide +kernel
  have c59_59 : (FloatKind.f64.format.order 4850376798745133056 4850376798745133056 == some .eq) = true := by decide +kernel
  go_enter Tryz.func21, Tryz.ntmps21
  go_wp2_with fail
  refine (C1.out _).mono ?_; rintro e1 w1 ⟨s1, l1, rfl, _, _, k1, k2, hb1⟩
  obtain rfl := fv_some k1
  obtain rfl := fv_some k2
  clear k1 k2
  rw [show canonD 4845873199050653696 = 4845873199050653696 by decide, show canonD 4607182418800017408 = 4607182418800017408 by decide]
  go_wp2_with fail
  refine (C2.out _).mono ?_; rintro e2 w2 ⟨s2, l2, rfl, _, _, k1, k2, hb2⟩
  obtain rfl := fv_some k1
  obtain rfl := fv_some k2
  clear k1 k2
  rw [show canonD 4728779608739020800 = 4728779608739020800 by decide, show canonD 4607182418800017408 = 4607182418800017408 by decide]
  go_wp2_with fail
  refine (C3.out _).mono ?_; rintro e3 w3 ⟨s3, l3, rfl, _, _, k1, k2, hb3⟩
  obtain rfl := fv_some k1
  obtain rfl := fv_some k2
  clear k1 k2
  rw [show canonD 4850376798745133056 = 4850376798745133056 by decide, show canonD 4607182418800017408 = 4607182418800017408 by decide]
  have h3 := (hb1.trans hb2).trans hb3
  clear hb1 hb2 hb3
  have HS := Lib.hid (P64.slAt_made w3 [4607182418800017408] _ 29 rfl)
  go_wp2_with fail
  refine (C4.out _ _ (HT.out.of (h3.alloc _)) HS.out).mono ?_; rintro e4 w4 ⟨sv, ls, rfl, ho, _, hm, hb4⟩
  obtain rfl := map_fv_two hm
  clear hm
  have h4 := (h3.alloc _).trans hb4
  clear hb4 h3
  obtain ⟨A, c, rfl, hc, hs, _⟩ := ho.form
  have HSL := Lib.hid hs
  clear ho
  go_wp2_with fail
  refine (C5.out _ (HT.out.of h4)).mono ?_; rintro e5 w5 ⟨rfl, hb5⟩
  have h5 := h4.trans hb5
  have HS5 := Lib.hid (hs.of hb5)
  clear hs HSL
  obtain ⟨ad, rfl, hblk, hcell⟩ := HS5.out.at (k := 0) (by decide)
  have hc0 : w5.cell? ad = some (.float .f64 4607182418800017408) := hcell
  clear hcell
  have C6' := Lib.hid (fun w hT hr => C6.out (some ad) c w hT hr)
  clear C6
  go_wp2_with fail
  refine (C6'.out _ (HT.out.of h5) HS5.out).mono ?_; rintro e6 w6 ⟨rfl, hb6⟩
  go_wp2
  go_ret
  exact ⟨rfl, h5.trans hb6⟩
end Go.Proofs.YtjmaggfddinbkaaGreatDoor
end

section
namespace Go.Proofs.YtjmaggfddinbkaaGreatDoor
open Go.RowKit
def ExR (W : World) (n E : Int) (e : Ending) (w' : World) : Prop := ∃ h, e = .returned (.agg #[.pointer (some ⟨h, 0, none⟩), .int .i64 E]) ∧ IntB w' h n ∧ W.heap.size ≤ h ∧ Within W w'
theorem IntB.setEx0 {w : World} {g n : Nat} {v : Int} {t : TypeId} {cs : Array Value} (h : IntB w g v) (hn : w.heap[n]? = some (.cells cs t (0, 0))) (ht : t ≠ 133) (hne : g ≠ n) {w' : World} (hb : ∀ k, k ≠ n → w'.heap[k]? = w.heap[k]?) : IntB w' g v := by
  obtain ⟨A, c, hb', hc, hr⟩ := h
  refine ⟨A, c, (hb _ hne).trans hb', hc, hr.of_block fun k m f hk => hb _ ?_⟩
  rintro rfl
  obtain ⟨cs', h1, _⟩ := hk
  rw [hn] at h1
  injection h1 with h1
  injection h1 with _ h2
  exact ht h2
theorem ex_set {w : World} {b h : Nat} {n E : Int} {x y : Value} (hb : w.heap[b]? = some (.cells #[x, y] 53 (0, 0))) (hI : IntB w h n) (hne : h ≠ b) :
    ((w.setCell ⟨b, 0, none⟩ (.pointer (some ⟨h, 0, none⟩))).setCell ⟨b, 1, none⟩ (.int .i64 E)).cell? ⟨b, 0, none⟩ = some (.pointer (some ⟨h, 0, none⟩)) ∧ ((w.setCell ⟨b, 0, none⟩ (.pointer (some ⟨h, 0, none⟩))).setCell ⟨b, 1, none⟩ (.int .i64 E)).cell? ⟨b, 1, none⟩ = some (.int .i64 E) ∧ IntB ((w.setCell ⟨b, 0, none⟩ (.pointer (some ⟨h, 0, none⟩))).setCell ⟨b, 1, none⟩ (.int .i64 E)) h n := by
  have h1 : ((w.setCell ⟨b, 0, none⟩ (.pointer (some ⟨h, 0, none⟩))).setCell ⟨b, 1, none⟩ (.int .i64 E)).heap[b]? = some (.cells #[.pointer (some ⟨h, 0, none⟩), .int .i64 E] 53 (0, 0)) := by
    simp [World.setCell, Array.getElem?_modify, hb]
  refine ⟨by unfold World.cell?; rw [h1]; rfl, by unfold World.cell?; rw [h1]; rfl, hI.setEx0 hb (by decide) hne (fun k hk => ?_)⟩
  rw [Below.heap_setCell _ _ _ _ hk, Below.heap_setCell _ _ _ _ hk]
theorem ex_cells {w : World} {b : Nat} (hb : w.heap[b]? = some (.cells #[.pointer none, .int .i64 0] 53 (0, 0))) : w.cell? ⟨b, 0, none⟩ = some (.pointer none) ∧ w.cell? ⟨b, 1, none⟩ = some (.int .i64 0) ∧ ∀ o, w.frozen? ⟨b, o, none⟩ = false :=
  ⟨by unfold World.cell?; rw [hb]; rfl, by unfold World.cell?; rw [hb]; rfl, fun o => by simp [World.frozen?, hb]⟩
set_option maxRecDepth 100000 in
set_option maxHeartbeats 600000 in
theorem Xneg (n E : Int) (g : Nat) (hl : (dg n.natAbs).length ≤ 1000) (w : World) (hI : IntB w g n) : Calls Tryz.prog 50 #[.agg #[.pointer (some ⟨g, 0, none⟩), .int .i64 E]] w (ExR w (-n) E) := by
  have HL := Lib.hid hl; clear hl
  go_enter Tryz.func50, Tryz.ntmps50
  go_wp2
  refine wp_region_schG (fun W => W.cell? ⟨w.heap.size, 0, none⟩ = some (.pointer (some ⟨g, 0, none⟩)) ∧ W.cell? ⟨w.heap.size, 1, none⟩ = some (.int .i64 E) ∧ W.heap[w.heap.size + 1]? = some (.cells #[.pointer none, .int .i64 0] 53 (0, 0)) ∧ IntB W g n ∧ w.heap.size < W.heap.size ∧ w.heap.size + 1 < W.heap.size ∧ Within w W) 7 (.firm 1 (.firm 2 (.firm 4 (.firm 5 (.one 0 (.one 3 (.firm 6 (.one 7 .nil)))))))) (by kernel_rfl) (by kernel_rfl) ⟨by go_simp, by go_simp, (by have := heap_alloc_new (w.alloc (.cells #[.pointer (some ⟨g, 0, none⟩), .int .i64 E] 53)) (.cells #[.pointer none, .int .i64 0] 53); simpa using this), (IntB.of hI (by repeat (first | with_reducible exact Within.refl _ | with_reducible assumption | with_reducible refine Within.alloc ?_ _ | with_reducible refine Within.drew ?_ | with_reducible refine Within.drewN ?_ _ | with_reducible refine Within.setCell ?_ (by first | (simp; done) | (simp; omega)) _ | with_reducible refine Within.trans ?_ (by assumption)))), by first | (simp; done) | (simp; omega), by first | (simp; done) | (simp; omega), (by repeat (first | with_reducible exact Within.refl _ | with_reducible assumption | with_reducible refine Within.alloc ?_ _ | with_reducible refine Within.drew ?_ | with_reducible refine Within.drewN ?_ _ | with_reducible refine Within.setCell ?_ (by first | (simp; done) | (simp; omega)) _ | with_reducible refine Within.trans ?_ (by assumption)))⟩ ?_
  rintro w0 ⟨c0, c1, hz, hI, l0, l1, hw0⟩
  try simp only [Act.put, List.setIfInBounds_toArray, List.set_cons_zero, List.set_cons_succ]
  apply sch_firm rfl rfl (by repeat (first | with_reducible exact Within.refl _ | with_reducible assumption | with_reducible refine Within.alloc ?_ _ | with_reducible refine Within.drew ?_ | with_reducible refine Within.drewN ?_ _ | with_reducible refine Within.setCell ?_ (by first | (simp; done) | (simp; omega)) _ | with_reducible refine Within.trans ?_ (by assumption)))
  · intro wq hq
    have hcq := hq.cells
    clear hq
    go_simp
    first | rfl | (trace_state; fail)
  try simp only [Act.put, List.setIfInBounds_toArray, List.set_cons_zero, List.set_cons_succ]
  apply sch_firm rfl rfl (by repeat (first | with_reducible exact Within.refl _ | with_reducible assumption | with_reducible refine Within.alloc ?_ _ | with_reducible refine Within.drew ?_ | with_reducible refine Within.drewN ?_ _ | with_reducible refine Within.setCell ?_ (by first | (simp; done) | (simp; omega)) _ | with_reducible refine Within.trans ?_ (by assumption)))
  · intro wq hq
    have hcq := hq.cells
    clear hq
    go_simp
    first | rfl | (trace_state; fail)
  try simp only [Act.put, List.setIfInBounds_toArray, List.set_cons_zero, List.set_cons_succ]
  apply sch_firm rfl rfl (by repeat (first | with_reducible exact Within.refl _ | with_reducible assumption | with_reducible refine Within.alloc ?_ _ | with_reducible refine Within.drew ?_ | with_reducible refine Within.drewN ?_ _ | with_reducible refine Within.setCell ?_ (by first | (simp; done) | (simp; omega)) _ | with_reducible refine Within.trans ?_ (by assumption)))
  · intro wq hq
    have hcq := hq.cells
    clear hq
    go_simp
    first | rfl | (trace_state; fail)
  try simp only [Act.put, List.setIfInBounds_toArray, List.set_cons_zero, List.set_cons_succ]
  apply sch_firm rfl rfl (by repeat (first | with_reducible exact Within.refl _ | with_reducible assumption | with_reducible refine Within.alloc ?_ _ | with_reducible refine Within.drew ?_ | with_reducible refine Within.drewN ?_ _ | with_reducible refine Within.setCell ?_ (by first | (simp; done) | (simp; omega)) _ | with_reducible refine Within.trans ?_ (by assumption)))
  · intro wq hq
    have hcq := hq.cells
    clear hq
    go_simp
    first | rfl | (trace_state; fail)
  try simp only [Act.put, List.setIfInBounds_toArray, List.set_cons_zero, List.set_cons_succ]
  refine sch_one rfl rfl (fun K hK => ?_)
  go_simp
  refine hK _ _ (fun _ => (by repeat (first | with_reducible exact Within.refl _ | with_reducible assumption | with_reducible refine Within.alloc ?_ _ | with_reducible refine Within.drew ?_ | with_reducible refine Within.drewN ?_ _ | with_reducible refine Within.setCell ?_ (by first | (simp; done) | (simp; omega)) _ | with_reducible refine Within.trans ?_ (by assumption)))) ?_
  clear hK K
  try simp only [Act.put, List.setIfInBounds_toArray, List.set_cons_zero, List.set_cons_succ]
  refine sch_one rfl rfl (fun K hK => ?_)
  go_simp
  refine (Bneg _ g n (Nat.le_trans HL.out (by decide)) _ (by exact (IntB.made w0).ty) (IntB.of hI (by repeat (first | with_reducible exact Within.refl _ | with_reducible assumption | with_reducible refine Within.alloc ?_ _ | with_reducible refine Within.drew ?_ | with_reducible refine Within.drewN ?_ _ | with_reducible refine Within.setCell ?_ (by first | (simp; done) | (simp; omega)) _ | with_reducible refine Within.trans ?_ (by assumption))))).mono ?_; rintro e5 w5 ⟨rfl, hJ, hG⟩
  have hv5 : Within w0 w5 := Within.grown (by repeat (first | with_reducible exact Within.refl _ | with_reducible assumption | with_reducible refine Within.alloc ?_ _ | with_reducible refine Within.drew ?_ | with_reducible refine Within.drewN ?_ _ | with_reducible refine Within.setCell ?_ (by first | (simp; done) | (simp; omega)) _ | with_reducible refine Within.trans ?_ (by assumption))) hG (by simp)
  have hz5 := (hv5.block _ l1).trans hz
  obtain ⟨y0, y1, yf⟩ := ex_cells hz5
  have yl := Nat.lt_of_lt_of_le l1 hv5.sizes
  refine hK _ _ (fun _ => (by repeat (first | with_reducible exact Within.refl _ | with_reducible assumption | with_reducible refine Within.alloc ?_ _ | with_reducible refine Within.drew ?_ | with_reducible refine Within.drewN ?_ _ | with_reducible refine Within.setCell ?_ (by first | (simp; done) | (simp; omega)) _ | with_reducible refine Within.trans ?_ (by assumption)))) ?_
  clear hK K
  try simp only [Act.put, List.setIfInBounds_toArray, List.set_cons_zero, List.set_cons_succ]
  apply sch_firm rfl rfl (by repeat (first | with_reducible exact Within.refl _ | with_reducible assumption | with_reducible refine Within.alloc ?_ _ | with_reducible refine Within.drew ?_ | with_reducible refine Within.drewN ?_ _ | with_reducible refine Within.setCell ?_ (by first | (simp; done) | (simp; omega)) _ | with_reducible refine Within.trans ?_ (by assumption)))
  · intro wq hq
    have hcq := hq.cells
    clear hq
    go_simp
    first | rfl | (trace_state; fail)
  try simp only [Act.put, List.setIfInBounds_toArray, List.set_cons_zero, List.set_cons_succ]
  refine sch_one rfl rfl (fun K hK => ?_)
  go_simp
  refine hK _ _ (fun h => absurd h (by decide)) ?_
  clear hK K
  try simp only [Act.put, List.setIfInBounds_toArray, List.set_cons_zero, List.set_cons_succ]
  refine sch_nil ?_
  obtain ⟨r0, r1, rI⟩ := ex_set (E := E) hz5 hJ (show w0.heap.size ≠ (w.heap.size + 1) by omega)
  have rl : (w.heap.size + 1) < w5.heap.size := by have := yl; omega
  go_wp2
  refine bodyPost_ret (v := .agg #[.pointer (some ⟨w0.heap.size, 0, none⟩), .int .i64 E]) (by simp [results, Tryz.results50, go_sem, r0, r1, rl]) rfl ⟨w0.heap.size, rfl, rI, hw0.sizes, ?_⟩
  exact ((hw0.trans hv5).setCell (by show _ ≤ (w.heap.size + 1); omega) _).setCell (by show _ ≤ (w.heap.size + 1); omega) _
set_option maxRecDepth 100000 in
set_option maxHeartbeats 600000 in
theorem Xabs (n E : Int) (g : Nat) (hl : (dg n.natAbs).length ≤ 1000) (w : World) (hI : IntB w g n) : Calls Tryz.prog 51 #[.agg #[.pointer (some ⟨g, 0, none⟩), .int .i64 E]] w (ExR w ((n.natAbs : Int)) E) := by
  have HL := Lib.hid hl; clear hl
  go_enter Tryz.func51, Tryz.ntmps51
  go_wp2
  refine wp_region_schG (fun W => W.cell? ⟨w.heap.size, 0, none⟩ = some (.pointer (some ⟨g, 0, none⟩)) ∧ W.cell? ⟨w.heap.size, 1, none⟩ = some (.int .i64 E) ∧ W.heap[w.heap.size + 1]? = some (.cells #[.pointer none, .int .i64 0] 53 (0, 0)) ∧ IntB W g n ∧ w.heap.size < W.heap.size ∧ w.heap.size + 1 < W.heap.size ∧ Within w W) 7 (.firm 1 (.firm 2 (.firm 4 (.firm 5 (.one 0 (.one 3 (.firm 6 (.one 7 .nil)))))))) (by kernel_rfl) (by kernel_rfl) ⟨by go_simp, by go_simp, (by have := heap_alloc_new (w.alloc (.cells #[.pointer (some ⟨g, 0, none⟩), .int .i64 E] 53)) (.cells #[.pointer none, .int .i64 0] 53); simpa using this), (IntB.of hI (by repeat (first | with_reducible exact Within.refl _ | with_reducible assumption | with_reducible refine Within.alloc ?_ _ | with_reducible refine Within.drew ?_ | with_reducible refine Within.drewN ?_ _ | with_reducible refine Within.setCell ?_ (by first | (simp; done) | (simp; omega)) _ | with_reducible refine Within.trans ?_ (by assumption)))), by first | (simp; done) | (simp; omega), by first | (simp; done) | (simp; omega), (by repeat (first | with_reducible exact Within.refl _ | with_reducible assumption | with_reducible refine Within.alloc ?_ _ | with_reducible refine Within.drew ?_ | with_reducible refine Within.drewN ?_ _ | with_reducible refine Within.setCell ?_ (by first | (simp; done) | (simp; omega)) _ | with_reducible refine Within.trans ?_ (by assumption)))⟩ ?_
  rintro w0 ⟨c0, c1, hz, hI, l0, l1, hw0⟩
  try simp only [Act.put, List.setIfInBounds_toArray, List.set_cons_zero, List.set_cons_succ]
  apply sch_firm rfl rfl (by repeat (first | with_reducible exact Within.refl _ | with_reducible assumption | with_reducible refine Within.alloc ?_ _ | with_reducible refine Within.drew ?_ | with_reducible refine Within.drewN ?_ _ | with_reducible refine Within.setCell ?_ (by first | (simp; done) | (simp; omega)) _ | with_reducible refine Within.trans ?_ (by assumption)))
  · intro wq hq
    have hcq := hq.cells
    clear hq
    go_simp
    first | rfl | (trace_state; fail)
  try simp only [Act.put, List.setIfInBounds_toArray, List.set_cons_zero, List.set_cons_succ]
  apply sch_firm rfl rfl (by repeat (first | with_reducible exact Within.refl _ | with_reducible assumption | with_reducible refine Within.alloc ?_ _ | with_reducible refine Within.drew ?_ | with_reducible refine Within.drewN ?_ _ | with_reducible refine Within.setCell ?_ (by first | (simp; done) | (simp; omega)) _ | with_reducible refine Within.trans ?_ (by assumption)))
  · intro wq hq
    have hcq := hq.cells
    clear hq
    go_simp
    first | rfl | (trace_state; fail)
  try simp only [Act.put, List.setIfInBounds_toArray, List.set_cons_zero, List.set_cons_succ]
  apply sch_firm rfl rfl (by repeat (first | with_reducible exact Within.refl _ | with_reducible assumption | with_reducible refine Within.alloc ?_ _ | with_reducible refine Within.drew ?_ | with_reducible refine Within.drewN ?_ _ | with_reducible refine Within.setCell ?_ (by first | (simp; done) | (simp; omega)) _ | with_reducible refine Within.trans ?_ (by assumption)))
  · intro wq hq
    have hcq := hq.cells
    clear hq
    go_simp
    first | rfl | (trace_state; fail)
  try simp only [Act.put, List.setIfInBounds_toArray, List.set_cons_zero, List.set_cons_succ]
  apply sch_firm rfl rfl (by repeat (first | with_reducible exact Within.refl _ | with_reducible assumption | with_reducible refine Within.alloc ?_ _ | with_reducible refine Within.drew ?_ | with_reducible refine Within.drewN ?_ _ | with_reducible refine Within.setCell ?_ (by first | (simp; done) | (simp; omega)) _ | with_reducible refine Within.trans ?_ (by assumption)))
  · intro wq hq
    have hcq := hq.cells
    clear hq
    go_simp
    first | rfl | (trace_state; fail)
  try simp only [Act.put, List.setIfInBounds_toArray, List.set_cons_zero, List.set_cons_succ]
  refine sch_one rfl rfl (fun K hK => ?_)
  go_simp
  refine hK _ _ (fun _ => (by repeat (first | with_reducible exact Within.refl _ | with_reducible assumption | with_reducible refine Within.alloc ?_ _ | with_reducible refine Within.drew ?_ | with_reducible refine Within.drewN ?_ _ | with_reducible refine Within.setCell ?_ (by first | (simp; done) | (simp; omega)) _ | with_reducible refine Within.trans ?_ (by assumption)))) ?_
  clear hK K
  try simp only [Act.put, List.setIfInBounds_toArray, List.set_cons_zero, List.set_cons_succ]
  refine sch_one rfl rfl (fun K hK => ?_)
  go_simp
  refine (Babs _ g n (Nat.le_trans HL.out (by decide)) _ (by exact (IntB.made w0).ty) (IntB.of hI (by repeat (first | with_reducible exact Within.refl _ | with_reducible assumption | with_reducible refine Within.alloc ?_ _ | with_reducible refine Within.drew ?_ | with_reducible refine Within.drewN ?_ _ | with_reducible refine Within.setCell ?_ (by first | (simp; done) | (simp; omega)) _ | with_reducible refine Within.trans ?_ (by assumption))))).mono ?_; rintro e5 w5 ⟨rfl, hJ, hG⟩
  have hv5 : Within w0 w5 := Within.grown (by repeat (first | with_reducible exact Within.refl _ | with_reducible assumption | with_reducible refine Within.alloc ?_ _ | with_reducible refine Within.drew ?_ | with_reducible refine Within.drewN ?_ _ | with_reducible refine Within.setCell ?_ (by first | (simp; done) | (simp; omega)) _ | with_reducible refine Within.trans ?_ (by assumption))) hG (by simp)
  have hz5 := (hv5.block _ l1).trans hz
  obtain ⟨y0, y1, yf⟩ := ex_cells hz5
  have yl := Nat.lt_of_lt_of_le l1 hv5.sizes
  refine hK _ _ (fun _ => (by repeat (first | with_reducible exact Within.refl _ | with_reducible assumption | with_reducible refine Within.alloc ?_ _ | with_reducible refine Within.drew ?_ | with_reducible refine Within.drewN ?_ _ | with_reducible refine Within.setCell ?_ (by first | (simp; done) | (simp; omega)) _ | with_reducible refine Within.trans ?_ (by assumption)))) ?_
  clear hK K
  try simp only [Act.put, List.setIfInBounds_toArray, List.set_cons_zero, List.set_cons_succ]
  apply sch_firm rfl rfl (by repeat (first | with_reducible exact Within.refl _ | with_reducible assumption | with_reducible refine Within.alloc ?_ _ | with_reducible refine Within.drew ?_ | with_reducible refine Within.drewN ?_ _ | with_reducible refine Within.setCell ?_ (by first | (simp; done) | (simp; omega)) _ | with_reducible refine Within.trans ?_ (by assumption)))
  · intro wq hq
    have hcq := hq.cells
    clear hq
    go_simp
    first | rfl | (trace_state; fail)
  try simp only [Act.put, List.setIfInBounds_toArray, List.set_cons_zero, List.set_cons_succ]
  refine sch_one rfl rfl (fun K hK => ?_)
  go_simp
  refine hK _ _ (fun h => absurd h (by decide)) ?_
  clear hK K
  try simp only [Act.put, List.setIfInBounds_toArray, List.set_cons_zero, List.set_cons_succ]
  refine sch_nil ?_
  obtain ⟨r0, r1, rI⟩ := ex_set (E := E) hz5 hJ (show w0.heap.size ≠ (w.heap.size + 1) by omega)
  have rl : (w.heap.size + 1) < w5.heap.size := by have := yl; omega
  go_wp2
  refine bodyPost_ret (v := .agg #[.pointer (some ⟨w0.heap.size, 0, none⟩), .int .i64 E]) (by simp [results, Tryz.results51, go_sem, r0, r1, rl]) rfl ⟨w0.heap.size, rfl, rI, hw0.sizes, ?_⟩
  exact ((hw0.trans hv5).setCell (by show _ ≤ (w.heap.size + 1); omega) _).setCell (by show _ ≤ (w.heap.size + 1); omega) _
set_option maxRecDepth 100000 in
set_option maxHeartbeats 600000 in
theorem Xmul (n1 n2 E1 E2 : Int) (g1 g2 : Nat) (hl1 : (dg n1.natAbs).length ≤ 1000) (hl2 : (dg n2.natAbs).length ≤ 1000) (hE1 : -100000 ≤ E1 ∧ E1 ≤ 100000) (hE2 : -100000 ≤ E2 ∧ E2 ≤ 100000) (w : World) (hI1 : IntB w g1 n1) (hI2 : IntB w g2 n2) : Calls Tryz.prog 49 #[.agg #[.pointer (some ⟨g1, 0, none⟩), .int .i64 E1], .agg #[.pointer (some ⟨g2, 0, none⟩), .int .i64 E2]] w (ExR w (n1 * n2) (E1 + E2)) := by
  have HL1 := Lib.hid hl1; have HL2 := Lib.hid hl2; clear hl1 hl2
  have gw : IntKind.i64.wrap (E1 + E2) = E1 + E2 := IntWalk.i64_in _ ⟨by omega, by omega⟩
  clear hE1 hE2
  go_enter Tryz.func49, Tryz.ntmps49
  go_wp2
  refine wp_region_schG (fun W => W.cell? ⟨w.heap.size, 0, none⟩ = some (.pointer (some ⟨g1, 0, none⟩)) ∧ W.cell? ⟨w.heap.size, 1, none⟩ = some (.int .i64 E1) ∧ W.cell? ⟨w.heap.size + 1, 0, none⟩ = some (.pointer (some ⟨g2, 0, none⟩)) ∧ W.cell? ⟨w.heap.size + 1, 1, none⟩ = some (.int .i64 E2) ∧ W.heap[w.heap.size + 2]? = some (.cells #[.pointer none, .int .i64 0] 53 (0, 0)) ∧ IntB W g1 n1 ∧ IntB W g2 n2 ∧ w.heap.size < W.heap.size ∧ w.heap.size + 1 < W.heap.size ∧ w.heap.size + 2 < W.heap.size ∧ Within w W) 12 (.firm 1 (.firm 2 (.firm 3 (.firm 4 (.firm 6 (.firm 7 (.firm 8 (.firm 9 (.firm 10 (.one 0 (.one 5 (.firm 11 (.one 12 .nil))))))))))))) (by kernel_rfl) (by kernel_rfl) ⟨by go_simp, by go_simp, by go_simp, by go_simp, (by have := heap_alloc_new ((w.alloc (.cells #[.pointer (some ⟨g1, 0, none⟩), .int .i64 E1] 53)).alloc (.cells #[.pointer (some ⟨g2, 0, none⟩), .int .i64 E2] 53)) (.cells #[.pointer none, .int .i64 0] 53); simpa using this), hI1.of (by repeat (first | with_reducible exact Within.refl _ | with_reducible assumption | with_reducible refine Within.alloc ?_ _ | with_reducible refine Within.drew ?_ | with_reducible refine Within.drewN ?_ _ | with_reducible refine Within.setCell ?_ (by first | (simp; done) | (simp; omega)) _ | with_reducible refine Within.trans ?_ (by assumption))), hI2.of (by repeat (first | with_reducible exact Within.refl _ | with_reducible assumption | with_reducible refine Within.alloc ?_ _ | with_reducible refine Within.drew ?_ | with_reducible refine Within.drewN ?_ _ | with_reducible refine Within.setCell ?_ (by first | (simp; done) | (simp; omega)) _ | with_reducible refine Within.trans ?_ (by assumption))), by first | (simp; done) | (simp; omega), by first | (simp; done) | (simp; omega), by first | (simp; done) | (simp; omega), (by repeat (first | with_reducible exact Within.refl _ | with_reducible assumption | with_reducible refine Within.alloc ?_ _ | with_reducible refine Within.drew ?_ | with_reducible refine Within.drewN ?_ _ | with_reducible refine Within.setCell ?_ (by first | (simp; done) | (simp; omega)) _ | with_reducible refine Within.trans ?_ (by assumption)))⟩ ?_
  rintro w0 ⟨c0, c1, d0, d1, hz, hI1, hI2, l0, l1, l2, hw0⟩
  try simp only [Act.put, List.setIfInBounds_toArray, List.set_cons_zero, List.set_cons_succ]
  apply sch_firm rfl rfl (by repeat (first | with_reducible exact Within.refl _ | with_reducible assumption | with_reducible refine Within.alloc ?_ _ | with_reducible refine Within.drew ?_ | with_reducible refine Within.drewN ?_ _ | with_reducible refine Within.setCell ?_ (by first | (simp; done) | (simp; omega)) _ | with_reducible refine Within.trans ?_ (by assumption)))
  · intro wq hq
    have hcq := hq.cells
    clear hq
    go_simp
    first | rfl | (trace_state; fail)
  try simp only [Act.put, List.setIfInBounds_toArray, List.set_cons_zero, List.set_cons_succ]
  apply sch_firm rfl rfl (by repeat (first | with_reducible exact Within.refl _ | with_reducible assumption | with_reducible refine Within.alloc ?_ _ | with_reducible refine Within.drew ?_ | with_reducible refine Within.drewN ?_ _ | with_reducible refine Within.setCell ?_ (by first | (simp; done) | (simp; omega)) _ | with_reducible refine Within.trans ?_ (by assumption)))
  · intro wq hq
    have hcq := hq.cells
    clear hq
    go_simp
    first | rfl | (trace_state; fail)
  try simp only [Act.put, List.setIfInBounds_toArray, List.set_cons_zero, List.set_cons_succ]
  apply sch_firm rfl rfl (by repeat (first | with_reducible exact Within.refl _ | with_reducible assumption | with_reducible refine Within.alloc ?_ _ | with_reducible refine Within.drew ?_ | with_reducible refine Within.drewN ?_ _ | with_reducible refine Within.setCell ?_ (by first | (simp; done) | (simp; omega)) _ | with_reducible refine Within.trans ?_ (by assumption)))
  · intro wq hq
    have hcq := hq.cells
    clear hq
    go_simp
    first | rfl | (trace_state; fail)
  try simp only [Act.put, List.setIfInBounds_toArray, List.set_cons_zero, List.set_cons_succ]
  apply sch_firm rfl rfl (by repeat (first | with_reducible exact Within.refl _ | with_reducible assumption | with_reducible refine Within.alloc ?_ _ | with_reducible refine Within.drew ?_ | with_reducible refine Within.drewN ?_ _ | with_reducible refine Within.setCell ?_ (by first | (simp; done) | (simp; omega)) _ | with_reducible refine Within.trans ?_ (by assumption)))
  · intro wq hq
    have hcq := hq.cells
    clear hq
    go_simp
    first | rfl | (trace_state; fail)
  try simp only [Act.put, List.setIfInBounds_toArray, List.set_cons_zero, List.set_cons_succ]
  apply sch_firm rfl rfl (by repeat (first | with_reducible exact Within.refl _ | with_reducible assumption | with_reducible refine Within.alloc ?_ _ | with_reducible refine Within.drew ?_ | with_reducible refine Within.drewN ?_ _ | with_reducible refine Within.setCell ?_ (by first | (simp; done) | (simp; omega)) _ | with_reducible refine Within.trans ?_ (by assumption)))
  · intro wq hq
    have hcq := hq.cells
    clear hq
    go_simp
    first | rfl | (trace_state; fail)
  try simp only [Act.put, List.setIfInBounds_toArray, List.set_cons_zero, List.set_cons_succ]
  apply sch_firm rfl rfl (by repeat (first | with_reducible exact Within.refl _ | with_reducible assumption | with_reducible refine Within.alloc ?_ _ | with_reducible refine Within.drew ?_ | with_reducible refine Within.drewN ?_ _ | with_reducible refine Within.setCell ?_ (by first | (simp; done) | (simp; omega)) _ | with_reducible refine Within.trans ?_ (by assumption)))
  · intro wq hq
    have hcq := hq.cells
    clear hq
    go_simp
    first | rfl | (trace_state; fail)
  try simp only [Act.put, List.setIfInBounds_toArray, List.set_cons_zero, List.set_cons_succ]
  apply sch_firm rfl rfl (by repeat (first | with_reducible exact Within.refl _ | with_reducible assumption | with_reducible refine Within.alloc ?_ _ | with_reducible refine Within.drew ?_ | with_reducible refine Within.drewN ?_ _ | with_reducible refine Within.setCell ?_ (by first | (simp; done) | (simp; omega)) _ | with_reducible refine Within.trans ?_ (by assumption)))
  · intro wq hq
    have hcq := hq.cells
    clear hq
    go_simp
    first | rfl | (trace_state; fail)
  try simp only [Act.put, List.setIfInBounds_toArray, List.set_cons_zero, List.set_cons_succ]
  apply sch_firm rfl rfl (by repeat (first | with_reducible exact Within.refl _ | with_reducible assumption | with_reducible refine Within.alloc ?_ _ | with_reducible refine Within.drew ?_ | with_reducible refine Within.drewN ?_ _ | with_reducible refine Within.setCell ?_ (by first | (simp; done) | (simp; omega)) _ | with_reducible refine Within.trans ?_ (by assumption)))
  · intro wq hq
    have hcq := hq.cells
    clear hq
    go_simp
    first | rfl | (trace_state; fail)
  try simp only [Act.put, List.setIfInBounds_toArray, List.set_cons_zero, List.set_cons_succ]
  apply sch_firm rfl rfl (by repeat (first | with_reducible exact Within.refl _ | with_reducible assumption | with_reducible refine Within.alloc ?_ _ | with_reducible refine Within.drew ?_ | with_reducible refine Within.drewN ?_ _ | with_reducible refine Within.setCell ?_ (by first | (simp; done) | (simp; omega)) _ | with_reducible refine Within.trans ?_ (by assumption)))
  · intro wq hq
    have hcq := hq.cells
    clear hq
    go_simp
    first | rfl | (trace_state; fail)
  try simp only [Act.put, List.setIfInBounds_toArray, List.set_cons_zero, List.set_cons_succ]
  refine sch_one rfl rfl (fun K hK => ?_)
  go_simp
  refine hK _ _ (fun _ => (by repeat (first | with_reducible exact Within.refl _ | with_reducible assumption | with_reducible refine Within.alloc ?_ _ | with_reducible refine Within.drew ?_ | with_reducible refine Within.drewN ?_ _ | with_reducible refine Within.setCell ?_ (by first | (simp; done) | (simp; omega)) _ | with_reducible refine Within.trans ?_ (by assumption)))) ?_
  clear hK K
  try simp only [Act.put, List.setIfInBounds_toArray, List.set_cons_zero, List.set_cons_succ]
  refine sch_one rfl rfl (fun K hK => ?_)
  go_simp
  refine (Bmul _ g1 g2 n1 n2 (Nat.le_trans HL1.out (by decide)) (Nat.le_trans HL2.out (by decide)) _ (by exact (IntB.made w0).ty) (IntB.of hI1 (by repeat (first | with_reducible exact Within.refl _ | with_reducible assumption | with_reducible refine Within.alloc ?_ _ | with_reducible refine Within.drew ?_ | with_reducible refine Within.drewN ?_ _ | with_reducible refine Within.setCell ?_ (by first | (simp; done) | (simp; omega)) _ | with_reducible refine Within.trans ?_ (by assumption)))) (IntB.of hI2 (by repeat (first | with_reducible exact Within.refl _ | with_reducible assumption | with_reducible refine Within.alloc ?_ _ | with_reducible refine Within.drew ?_ | with_reducible refine Within.drewN ?_ _ | with_reducible refine Within.setCell ?_ (by first | (simp; done) | (simp; omega)) _ | with_reducible refine Within.trans ?_ (by assumption))))).mono ?_; rintro e5 w5 ⟨rfl, hJ, hG⟩
  have hv5 : Within w0 w5 := Within.grown (by repeat (first | with_reducible exact Within.refl _ | with_reducible assumption | with_reducible refine Within.alloc ?_ _ | with_reducible refine Within.drew ?_ | with_reducible refine Within.drewN ?_ _ | with_reducible refine Within.setCell ?_ (by first | (simp; done) | (simp; omega)) _ | with_reducible refine Within.trans ?_ (by assumption))) hG (by simp)
  have hz5 := (hv5.block _ l2).trans hz
  obtain ⟨y0, y1, yf⟩ := ex_cells hz5
  have yl := Nat.lt_of_lt_of_le l2 hv5.sizes
  refine hK _ _ (fun _ => (by repeat (first | with_reducible exact Within.refl _ | with_reducible assumption | with_reducible refine Within.alloc ?_ _ | with_reducible refine Within.drew ?_ | with_reducible refine Within.drewN ?_ _ | with_reducible refine Within.setCell ?_ (by first | (simp; done) | (simp; omega)) _ | with_reducible refine Within.trans ?_ (by assumption)))) ?_
  clear hK K
  try simp only [Act.put, List.setIfInBounds_toArray, List.set_cons_zero, List.set_cons_succ]
  apply sch_firm rfl rfl (by repeat (first | with_reducible exact Within.refl _ | with_reducible assumption | with_reducible refine Within.alloc ?_ _ | with_reducible refine Within.drew ?_ | with_reducible refine Within.drewN ?_ _ | with_reducible refine Within.setCell ?_ (by first | (simp; done) | (simp; omega)) _ | with_reducible refine Within.trans ?_ (by assumption)))
  · intro wq hq
    have hcq := hq.cells
    clear hq
    go_simp
    first | rfl | (trace_state; fail)
  try simp only [Act.put, List.setIfInBounds_toArray, List.set_cons_zero, List.set_cons_succ]
  refine sch_one rfl rfl (fun K hK => ?_)
  go_simp
  refine hK _ _ (fun h => absurd h (by decide)) ?_
  clear hK K
  try simp only [Act.put, List.setIfInBounds_toArray, List.set_cons_zero, List.set_cons_succ]
  refine sch_nil ?_
  obtain ⟨r0, r1, rI⟩ := ex_set (E := (E1 + E2)) hz5 hJ (show w0.heap.size ≠ (w.heap.size + 2) by omega)
  have rl : (w.heap.size + 2) < w5.heap.size := by have := yl; omega
  go_wp2
  refine bodyPost_ret (v := .agg #[.pointer (some ⟨w0.heap.size, 0, none⟩), .int .i64 (E1 + E2)]) (by simp [results, Tryz.results49, go_sem, r0, r1, rl]) rfl ⟨w0.heap.size, rfl, rI, hw0.sizes, ?_⟩
  exact ((hw0.trans hv5).setCell (by show _ ≤ (w.heap.size + 2); omega) _).setCell (by show _ ≤ (w.heap.size + 2); omega) _
def ofN (b : Nat) : Int := sgv (pNegD b) (pMantD b)
set_option maxRecDepth 100000 in
set_option maxHeartbeats 600000 in
theorem Xof0 (x : Nat) (neg : Bool) (m : Nat) (p : Int) (er : Value) (hm : m < 18446744073709551616) (CP : Hid (∀ w, Calls Tryz.prog 96 #[.float .f64 x] w fun e w' => e = .returned (.tuple #[.agg #[.bool neg, .int .u64 (m : Int), .int .i64 p], er]) ∧ Within w w')) (w : World) : Calls Tryz.prog 44 #[.float .f64 x] w (ExR w (sgv neg m) p) := by
  have HM := Lib.hid hm; clear hm
  go_enter Tryz.func44, Tryz.ntmps44
  go_wp2_with fail
  refine (CP.out _).mono ?_; rintro e1 w1 ⟨rfl, hb1⟩
  have HT : IntTy ((w1.alloc (.cells #[.bool neg, .int .u64 (m : Int), .int .i64 p] 97)).alloc (.cells #[.bool false, .slice none 0 0] 102)) (w1.heap.size + 1) := by
    have := (IntB.made (w1.alloc (.cells #[.bool neg, .int .u64 (m : Int), .int .i64 p] 97))).ty
    simpa using this
  go_wp2_with fail
  have k0 : ((w1.alloc (.cells #[.bool neg, .int .u64 (m : Int), .int .i64 p] 97)).alloc (.cells #[.bool false, .slice none 0 0] 102)).cell? ⟨w1.heap.size, 0, none⟩ = some (.bool neg) := by simp [go_sem]
  have k2 : ((w1.alloc (.cells #[.bool neg, .int .u64 (m : Int), .int .i64 p] 97)).alloc (.cells #[.bool false, .slice none 0 0] 102)).cell? ⟨w1.heap.size, 2, none⟩ = some (.int .i64 p) := by simp [go_sem]
  have hz1 : w1.heap[w.heap.size]? = some (.cells #[.pointer none, .int .i64 0] 53 (0, 0)) := (hb1.block _ (by simp)).trans (heap_alloc_new w _)
  have hww : Within w w1 := ((Within.refl w).alloc _).trans hb1
  have HW2 : Within w ((w1.alloc (.cells #[.bool neg, .int .u64 (m : Int), .int .i64 p] 97)).alloc (.cells #[.bool false, .slice none 0 0] 102)) := (hww.alloc _).alloc _
  have hzz : ((w1.alloc (.cells #[.bool neg, .int .u64 (m : Int), .int .i64 p] 97)).alloc (.cells #[.bool false, .slice none 0 0] 102)).heap[w.heap.size]? = some (.cells #[.pointer none, .int .i64 0] 53 (0, 0)) := ((((Within.refl w1).alloc _).alloc _).block _ (by have := hb1.size; simp at this; omega)).trans hz1
  obtain ⟨W2, hW2⟩ : ∃ W2, W2 = ((w1.alloc (.cells #[.bool neg, .int .u64 (m : Int), .int .i64 p] 97)).alloc (.cells #[.bool false, .slice none 0 0] 102)) := ⟨_, rfl⟩
  have hsz : W2.heap.size = w1.heap.size + 2 := by rw [hW2]; simp
  have hl : w.heap.size + 1 ≤ w1.heap.size := by have := hb1.size; simpa using this
  rw [← hW2] at HT k0 k2 HW2 hzz ⊢
  clear hW2 hz1
  have HS := Lib.hid hsz; have HL := Lib.hid hl; clear hsz hl
  refine (BsetUint64 (w1.heap.size + 1) m HM.out W2 HT).mono ?_; rintro e2 w2 ⟨rfl, hI2, hv2⟩
  have q0 := hv2.cell k0 (by simp)
  have q2 := hv2.cell k2 (by simp)
  have HLN := Lib.hid (show (dg (m : Int).natAbs).length ≤ 2000000 by rw [Int.natAbs_natCast]; exact Nat.le_trans (dg_len_le (k := 2) HM.out) (by decide))
  cases neg
  · rw [show sgv false m = (m : Int) from rfl]
    have hz2 := (hv2.block w.heap.size (by show w.heap.size < W2.heap.size; have := HS.out; have := HL.out; omega) (by simp; have := HL.out; omega)).trans hzz
    obtain ⟨y0, y1, yf⟩ := ex_cells hz2
    have yl : w.heap.size < w2.heap.size := World.block_lt_of_cell? _ _ y0
    have pl : w1.heap.size < w2.heap.size := World.block_lt_of_cell? _ _ q2
    obtain ⟨r0, r1, rI⟩ := ex_set (E := p) hz2 hI2 (show w1.heap.size + 1 ≠ w.heap.size by have := HL.out; omega)
    go_wp2
    refine bodyPost_ret (v := .agg #[.pointer (some ⟨(w1.heap.size + 1), 0, none⟩), .int .i64 p]) (by simp [results, Tryz.results44, go_sem, r0, r1, yl]) rfl ⟨w1.heap.size + 1, rfl, rI, by have := HL.out; omega, ?_⟩
    exact ((Within.grown HW2 hv2 (by have := HL.out; omega)).setCell (by show _ ≤ w.heap.size; omega) _).setCell (by show _ ≤ w.heap.size; omega) _
  · rw [show sgv true m = -(m : Int) from rfl]
    go_wp2_with fail
    refine (Bneg (w1.heap.size + 1) (w1.heap.size + 1) (m : Int) HLN.out w2 hI2.ty hI2).mono ?_; rintro e3 w3 ⟨rfl, hI3, hG3⟩
    have q2 := hG3.cell q2 (by simp)
    have hv3 := grown_trans hv2 hG3
    have hz3 := (hv3.block w.heap.size (by show w.heap.size < W2.heap.size; have := HS.out; have := HL.out; omega) (by simp; have := HL.out; omega)).trans hzz
    obtain ⟨y0, y1, yf⟩ := ex_cells hz3
    have yl : w.heap.size < w3.heap.size := World.block_lt_of_cell? _ _ y0
    have pl : w1.heap.size < w3.heap.size := World.block_lt_of_cell? _ _ q2
    obtain ⟨r0, r1, rI⟩ := ex_set (E := p) hz3 hI3 (show w1.heap.size + 1 ≠ w.heap.size by have := HL.out; omega)
    go_wp2
    refine bodyPost_ret (v := .agg #[.pointer (some ⟨(w1.heap.size + 1), 0, none⟩), .int .i64 p]) (by simp [results, Tryz.results44, go_sem, r0, r1, yl]) rfl ⟨w1.heap.size + 1, rfl, rI, by have := HL.out; omega, ?_⟩
    exact ((Within.grown HW2 hv3 (by have := HL.out; omega)).setCell (by show _ ≤ w.heap.size; omega) _).setCell (by show _ ≤ w.heap.size; omega) _
theorem Xof (b : Nat) (hb : b < 18446744073709551616) (w : World) : Calls Tryz.prog 44 #[.float .f64 b] w (ExR w (ofN b) (pExpD b)) :=
  Xof0 b (pNegD b) (pMantD b) (pExpD b) (.int .i64 (pErrD b)) (P64.pMantD_lt b) (Lib.hid fun w => Rparts_D b hb w) w
end Go.Proofs.YtjmaggfddinbkaaGreatDoor
end

section
namespace Go.Proofs.YtjmaggfddinbkaaGreatDoor
open Go.RowKit
def ExS (W : World) (n E : Int) (e : Ending) (w' : World) : Prop := ∃ h, e = .returned (.agg #[.pointer (some ⟨h, 0, none⟩), .int .i64 E]) ∧ IntB w' h n ∧ Within W w'
theorem ExR.s {W w' : World} {n E : Int} {e : Ending} (h : ExR W n E e w') : ExS W n E e w' := by
  obtain ⟨g, h1, h2, _, h4⟩ := h
  exact ⟨g, h1, h2, h4⟩
set_option maxRecDepth 100000 in
set_option maxHeartbeats 600000 in
theorem Xlow_same (n E e : Int) (g : Nat) (he : E ≤ e) (w : World) (hI : IntB w g n) : Calls Tryz.prog 104 #[.agg #[.pointer (some ⟨g, 0, none⟩), .int .i64 E], .int .i64 e] w (ExS w n E) := by
  have d : decide (e ≥ E) = true := decide_eq_true (by omega)
  clear he
  have hgl := hI.lt
  have HI := Lib.hid hI; clear hI
  have hz : ((w.alloc (.cells #[.pointer (some ⟨g, 0, none⟩), .int .i64 E] 53)).alloc (.cells #[.pointer none, .int .i64 0] 53)).heap[w.heap.size + 1]? = some (.cells #[.pointer none, .int .i64 0] 53 (0, 0)) := by have := heap_alloc_new (w.alloc (.cells #[.pointer (some ⟨g, 0, none⟩), .int .i64 E] 53)) (.cells #[.pointer none, .int .i64 0] 53); simpa using this
  go_enter Tryz.func104, Tryz.ntmps104
  go_wp2
  refine bodyPost_ret (v := .agg #[.pointer (some ⟨g, 0, none⟩), .int .i64 E]) (by simp [results, Tryz.results104, go_sem]) rfl ⟨g, rfl, HI.out.of (((Within.refl w).alloc _).alloc _), ((Within.refl w).alloc _).alloc _⟩
set_option maxRecDepth 100000 in
set_option maxHeartbeats 600000 in
theorem Xlow_less (n E e : Int) (g k : Nat) (he : E - e = (k : Int)) (hk : 0 < k) (hk2 : k ≤ 16000) (hl : (dg n.natAbs).length ≤ 1000) (w : World) (hI : IntB w g n) : Calls Tryz.prog 104 #[.agg #[.pointer (some ⟨g, 0, none⟩), .int .i64 E], .int .i64 e] w (ExS w (n * 2 ^ k) e) := by
  have d : decide (e ≥ E) = false := decide_eq_false (by omega)
  have hgl := hI.lt
  have HI := Lib.hid hI; clear hI
  have hz : ((w.alloc (.cells #[.pointer (some ⟨g, 0, none⟩), .int .i64 E] 53)).alloc (.cells #[.pointer none, .int .i64 0] 53)).heap[w.heap.size + 1]? = some (.cells #[.pointer none, .int .i64 0] 53 (0, 0)) := by have := heap_alloc_new (w.alloc (.cells #[.pointer (some ⟨g, 0, none⟩), .int .i64 E] 53)) (.cells #[.pointer none, .int .i64 0] 53); simpa using this
  have g1 : IntKind.i64.wrap (E - e) = (k : Int) := by rw [he, IntWalk.i64_in _ ⟨by omega, by omega⟩]
  have g2 : IntKind.u64.wrap (k : Int) = (k : Int) := by rw [IntKind.wrap_u64]; omega
  have CL := Lib.hid (fun z w' hz hx => Blsh z g k n (Nat.le_trans hl (by decide)) (Nat.le_trans hk2 (by decide)) w' hz hx)
  have hT : IntTy (((w.alloc (.cells #[.pointer (some ⟨g, 0, none⟩), .int .i64 E] 53)).alloc (.cells #[.pointer none, .int .i64 0] 53)).alloc (.cells #[.bool false, .slice none 0 0] 102)) (w.heap.size + 1 + 1) := by have := (IntB.made ((w.alloc (.cells #[.pointer (some ⟨g, 0, none⟩), .int .i64 E] 53)).alloc (.cells #[.pointer none, .int .i64 0] 53))).ty; simpa using this
  clear he hk hk2 hl
  go_enter Tryz.func104, Tryz.ntmps104
  go_wp2_with fail
  refine (CL.out _ _ (by exact hT) (HI.out.of ((((Within.refl w).alloc _).alloc _).alloc _))).mono ?_; rintro e5 w5 ⟨rfl, hJ, hG⟩
  have hz5 := (hG.block (w.heap.size + 1) (by simp) (by simp)).trans ((((Within.refl ((w.alloc (.cells #[.pointer (some ⟨g, 0, none⟩), .int .i64 E] 53)).alloc (.cells #[.pointer none, .int .i64 0] 53))).alloc _).block _ (by simp)).trans hz)
  obtain ⟨y0, y1, yf⟩ := ex_cells hz5
  have yl : w.heap.size + 1 < w5.heap.size := World.block_lt_of_cell? _ _ y0
  obtain ⟨r0, r1, rI⟩ := ex_set (E := e) hz5 hJ (by simp)
  have hv5 : Within w w5 := Within.grown ((((Within.refl w).alloc _).alloc _).alloc _) hG (by omega)
  go_wp2
  refine bodyPost_ret (v := .agg #[.pointer (some ⟨(w.heap.size + 1 + 1), 0, none⟩), .int .i64 e]) (by simp [results, Tryz.results104, go_sem, r0, r1, yl]) rfl ⟨_, rfl, rI, ?_⟩
  exact (hv5.setCell (by show _ ≤ w.heap.size + 1; omega) _).setCell (by show _ ≤ w.heap.size + 1; omega) _
end Go.Proofs.YtjmaggfddinbkaaGreatDoor
end

section
namespace Go.Proofs.YtjmaggfddinbkaaGreatDoor
open Go.RowKit
set_option maxRecDepth 100000 in
set_option maxHeartbeats 600000 in
theorem Bsign_zero (x : Nat) (v : Int) (h : v = 0) (w : World) (hx : IntB w x v) : Calls Tryz.prog 62 #[.pointer (some ⟨x, 0, none⟩)] w (fun e w' => e = .returned (.int .i64 (0)) ∧ w = w') := by
  obtain ⟨A, c, c0, c1, _⟩ := hx.rd
  subst h
  rw [show (dg (0 : Int).natAbs) = [] from dg_zero] at c1
  have d : (((List.length ([] : List Nat) : Nat) : Int) == 0) = true := rfl
  clear hx
  go_enter Tryz.func62, Tryz.ntmps62
  go_wp2
  go_ret
  exact ⟨rfl, rfl⟩
set_option maxRecDepth 100000 in
set_option maxHeartbeats 600000 in
theorem Bsign_neg (x : Nat) (v : Int) (h : v < 0) (w : World) (hx : IntB w x v) : Calls Tryz.prog 62 #[.pointer (some ⟨x, 0, none⟩)] w (fun e w' => e = .returned (.int .i64 (-1)) ∧ w = w') := by
  obtain ⟨A, c, c0, c1, _⟩ := hx.rd
  have hp := dg_len_pos (n := v.natAbs) (by omega)
  rw [decide_eq_true (by omega)] at c0
  obtain ⟨k, hk⟩ : ∃ k, k = (dg v.natAbs).length := ⟨_, rfl⟩
  rw [← hk] at c1 hp
  clear hk
  have d : ((k : Int) == 0) = false := beq_eq_false_iff_ne.2 (by omega)
  clear hx h
  go_enter Tryz.func62, Tryz.ntmps62
  go_wp2
  go_ret
  exact ⟨rfl, rfl⟩
set_option maxRecDepth 100000 in
set_option maxHeartbeats 600000 in
theorem Bsign_pos (x : Nat) (v : Int) (h : 0 < v) (w : World) (hx : IntB w x v) : Calls Tryz.prog 62 #[.pointer (some ⟨x, 0, none⟩)] w (fun e w' => e = .returned (.int .i64 (1)) ∧ w = w') := by
  obtain ⟨A, c, c0, c1, _⟩ := hx.rd
  have hp := dg_len_pos (n := v.natAbs) (by omega)
  rw [decide_eq_false (by omega)] at c0
  obtain ⟨k, hk⟩ : ∃ k, k = (dg v.natAbs).length := ⟨_, rfl⟩
  rw [← hk] at c1 hp
  clear hk
  have d : ((k : Int) == 0) = false := beq_eq_false_iff_ne.2 (by omega)
  clear hx h
  go_enter Tryz.func62, Tryz.ntmps62
  go_wp2
  go_ret
  exact ⟨rfl, rfl⟩
theorem Bsign (x : Nat) (v : Int) (w : World) (hx : IntB w x v) : Calls Tryz.prog 62 #[.pointer (some ⟨x, 0, none⟩)] w (fun e w' => e = .returned (.int .i64 v.sign) ∧ w = w') := by
  rcases Int.lt_trichotomy v 0 with h | h | h
  · rw [Int.sign_eq_neg_one_of_neg h]; exact Bsign_neg x v h w hx
  · subst h; exact Bsign_zero x 0 rfl w hx
  · rw [Int.sign_eq_one_of_pos h]; exact Bsign_pos x v h w hx
def cmpI (a b : Int) : Int := if a < b then -1 else if b < a then 1 else 0
theorem cmpN_range (a b : Nat) : -1 ≤ cmpN a b ∧ cmpN a b ≤ 1 := by unfold cmpN; split <;> (try split) <;> omega
end Go.Proofs.YtjmaggfddinbkaaGreatDoor
end

section
namespace Go.Proofs.YtjmaggfddinbkaaGreatDoor
open Go.RowKit
@[go_sem] theorem run_field_ex (a b : Value) (w : World) : (Instr.field 53 (.agg #[a, b]) 0).run Tryz.prog w = .ok a w := by
  kernel_rfl
theorem Xlow (n E e : Int) (g k : Nat) (he : E - e = (k : Int)) (hk2 : k ≤ 16000) (hl : (dg n.natAbs).length ≤ 1000) (w : World) (hI : IntB w g n) : Calls Tryz.prog 104 #[.agg #[.pointer (some ⟨g, 0, none⟩), .int .i64 E], .int .i64 e] w (ExS w (n * 2 ^ k) e) := by
  rcases Nat.eq_zero_or_pos k with h | h
  · subst h
    obtain rfl : E = e := by omega
    rw [Int.pow_zero, Int.mul_one]
    exact Xlow_same n E E g (Int.le_refl _) w hI
  · exact Xlow_less n E e g k he h hk2 hl w hI
theorem wp_new_int {o : Oper} {a : Act} {w : World} {K : Act → World → Prop} {Q : Exit → Act → World → Prop} (ho : o.op = .alloc 102)
    (h : ∀ z w', IntTy w' z → Within w w' → w.heap.size ≤ z → K (a.put o.dst (.pointer (some ⟨z, 0, none⟩))) w') : o.wp Tryz.prog a w K Q := by
  have h1 := h w.heap.size (w.alloc (.cells #[.bool false, .slice none 0 0] 102)) (IntB.made w).ty ((Within.refl w).alloc _) (Nat.le_refl _)
  unfold Oper.wp execOp
  rw [ho]
  go_simp
  exact h1
set_option maxRecDepth 100000 in
set_option maxHeartbeats 600000 in
theorem Xadd_l (n2 E1 E2 e : Int) (g1 g2 : Nat) (he : min E1 E2 = e) (w : World) (hI1 : IntB w g1 0) (hI2 : IntB w g2 n2) : Calls Tryz.prog 48 #[.agg #[.pointer (some ⟨g1, 0, none⟩), .int .i64 E1], .agg #[.pointer (some ⟨g2, 0, none⟩), .int .i64 E2]] w (ExS w n2 E2) := by
  have S1 := Lib.hid (fun w (h : IntB w g1 0) => Bsign g1 0 w h)
  rw [show (0 : Int).sign = 0 from rfl] at S1
  have J1 := Lib.hid (hI1.of ((((Within.refl w).alloc (.cells #[.pointer (some ⟨g1, 0, none⟩), .int .i64 E1] 53)).alloc (.cells #[.pointer (some ⟨g2, 0, none⟩), .int .i64 E2] 53)).alloc (.cells #[.pointer none, .int .i64 0] 53)))
  have HI2 := Lib.hid hI2; clear hI1 hI2
  go_enter Tryz.func48, Tryz.ntmps48
  go_wp2_with fail
  refine (S1.out _ J1.out).mono ?_; rintro e5 w5 ⟨rfl, rfl⟩
  go_wp2
  refine bodyPost_ret (v := .agg #[.pointer (some ⟨g2, 0, none⟩), .int .i64 E2]) (by simp [results, Tryz.results48, go_sem]) rfl ⟨g2, rfl, HI2.out.of ((((Within.refl w).alloc _).alloc _).alloc _), ((((Within.refl w).alloc _).alloc _).alloc _)⟩
set_option maxRecDepth 100000 in
set_option maxHeartbeats 600000 in
theorem Xadd_r (n1 E1 E2 e : Int) (g1 g2 : Nat) (he : min E1 E2 = e) (h1 : n1 ≠ 0) (w : World) (hI1 : IntB w g1 n1) (hI2 : IntB w g2 0) : Calls Tryz.prog 48 #[.agg #[.pointer (some ⟨g1, 0, none⟩), .int .i64 E1], .agg #[.pointer (some ⟨g2, 0, none⟩), .int .i64 E2]] w (ExS w n1 E1) := by
  have S1 := Lib.hid (fun w (h : IntB w g1 n1) => Bsign g1 n1 w h)
  have S2 := Lib.hid (fun w (h : IntB w g2 0) => Bsign g2 0 w h)
  rw [show (0 : Int).sign = 0 from rfl] at S2
  have d1 : (n1.sign == 0) = false := by rw [beq_eq_false_iff_ne]; intro h; exact h1 (Int.sign_eq_zero_iff_zero.1 h)
  clear h1
  have J1 := Lib.hid (hI1.of ((((Within.refl w).alloc (.cells #[.pointer (some ⟨g1, 0, none⟩), .int .i64 E1] 53)).alloc (.cells #[.pointer (some ⟨g2, 0, none⟩), .int .i64 E2] 53)).alloc (.cells #[.pointer none, .int .i64 0] 53)))
  have J2 := Lib.hid (hI2.of ((((Within.refl w).alloc (.cells #[.pointer (some ⟨g1, 0, none⟩), .int .i64 E1] 53)).alloc (.cells #[.pointer (some ⟨g2, 0, none⟩), .int .i64 E2] 53)).alloc (.cells #[.pointer none, .int .i64 0] 53)))
  have HI1 := Lib.hid hI1; clear hI1 hI2
  go_enter Tryz.func48, Tryz.ntmps48
  go_wp2_with fail
  refine (S1.out _ J1.out).mono ?_; rintro e5 w5 ⟨rfl, rfl⟩
  go_wp2_with fail
  refine (S2.out _ J2.out).mono ?_; rintro e5 w5 ⟨rfl, rfl⟩
  go_wp2
  refine bodyPost_ret (v := .agg #[.pointer (some ⟨g1, 0, none⟩), .int .i64 E1]) (by simp [results, Tryz.results48, go_sem]) rfl ⟨g1, rfl, HI1.out.of ((((Within.refl w).alloc _).alloc _).alloc _), ((((Within.refl w).alloc _).alloc _).alloc _)⟩
set_option maxRecDepth 100000 in
set_option maxHeartbeats 600000 in
theorem Xadd_sum (n1 n2 E1 E2 e : Int) (g1 g2 : Nat) (he : min E1 E2 = e) (v1 v2 : Int) (h1 : n1 ≠ 0) (h2 : n2 ≠ 0) (hv : (dg v1.natAbs).length ≤ 1000000 ∧ (dg v2.natAbs).length ≤ 1000000) (L1 : Hid (∀ w, IntB w g1 n1 → Calls Tryz.prog 104 #[.agg #[.pointer (some ⟨g1, 0, none⟩), .int .i64 E1], .int .i64 e] w (ExS w v1 e))) (L2 : Hid (∀ w, IntB w g2 n2 → Calls Tryz.prog 104 #[.agg #[.pointer (some ⟨g2, 0, none⟩), .int .i64 E2], .int .i64 e] w (ExS w v2 e))) (w : World) (hI1 : IntB w g1 n1) (hI2 : IntB w g2 n2) : Calls Tryz.prog 48 #[.agg #[.pointer (some ⟨g1, 0, none⟩), .int .i64 E1], .agg #[.pointer (some ⟨g2, 0, none⟩), .int .i64 E2]] w (ExS w (v1 + v2) e) := by
  have S1 := Lib.hid (fun w (h : IntB w g1 n1) => Bsign g1 n1 w h)
  have S2 := Lib.hid (fun w (h : IntB w g2 n2) => Bsign g2 n2 w h)
  have d1 : (n1.sign == 0) = false := by rw [beq_eq_false_iff_ne]; intro h; exact h1 (Int.sign_eq_zero_iff_zero.1 h)
  have d2 : (n2.sign == 0) = false := by rw [beq_eq_false_iff_ne]; intro h; exact h2 (Int.sign_eq_zero_iff_zero.1 h)
  have HV := Lib.hid hv; clear h1 h2 hv
  have J1 := Lib.hid (hI1.of ((((Within.refl w).alloc (.cells #[.pointer (some ⟨g1, 0, none⟩), .int .i64 E1] 53)).alloc (.cells #[.pointer (some ⟨g2, 0, none⟩), .int .i64 E2] 53)).alloc (.cells #[.pointer none, .int .i64 0] 53)))
  have J2 := Lib.hid (hI2.of ((((Within.refl w).alloc (.cells #[.pointer (some ⟨g1, 0, none⟩), .int .i64 E1] 53)).alloc (.cells #[.pointer (some ⟨g2, 0, none⟩), .int .i64 E2] 53)).alloc (.cells #[.pointer none, .int .i64 0] 53)))
  go_enter Tryz.func48, Tryz.ntmps48
  go_wp2_with fail
  refine (S1.out _ J1.out).mono ?_; rintro e5 w5 ⟨rfl, rfl⟩
  go_wp2_with fail
  refine (S2.out _ J2.out).mono ?_; rintro e5 w5 ⟨rfl, rfl⟩
  go_wp2
  refine wp_region_schG (fun W => W.cell? ⟨w.heap.size, 0, none⟩ = some (.pointer (some ⟨g1, 0, none⟩)) ∧ W.cell? ⟨w.heap.size, 1, none⟩ = some (.int .i64 E1) ∧ W.cell? ⟨w.heap.size + 1, 0, none⟩ = some (.pointer (some ⟨g2, 0, none⟩)) ∧ W.cell? ⟨w.heap.size + 1, 1, none⟩ = some (.int .i64 E2) ∧ W.heap[w.heap.size + 2]? = some (.cells #[.pointer none, .int .i64 0] 53 (0, 0)) ∧ IntB W g1 n1 ∧ IntB W g2 n2 ∧ w.heap.size < W.heap.size ∧ w.heap.size + 1 < W.heap.size ∧ w.heap.size + 2 < W.heap.size ∧ Within w W) 12 (.firm 1 (.firm 2 (.firm 5 (.firm 6 (.firm 10 (.two 0 (.one 3 (.firm 4 (.one 7 (.firm 8 (.one 9 (.firm 11 (.one 12 .nil))))))) 3 (.firm 4 (.two 0 (.one 7 (.firm 8 (.one 9 (.firm 11 (.one 12 .nil))))) 7 (.firm 8 (.one 0 (.one 9 (.firm 11 (.one 12 .nil))))))))))))) (by kernel_rfl) (by kernel_rfl) ⟨by go_simp, by go_simp, by go_simp, by go_simp, (by have := heap_alloc_new ((w.alloc (.cells #[.pointer (some ⟨g1, 0, none⟩), .int .i64 E1] 53)).alloc (.cells #[.pointer (some ⟨g2, 0, none⟩), .int .i64 E2] 53)) (.cells #[.pointer none, .int .i64 0] 53); simpa using this), hI1.of (by repeat (first | with_reducible exact Within.refl _ | with_reducible assumption | with_reducible refine Within.alloc ?_ _ | with_reducible refine Within.drew ?_ | with_reducible refine Within.drewN ?_ _ | with_reducible refine Within.setCell ?_ (by first | (simp; done) | (simp; omega)) _ | with_reducible refine Within.trans ?_ (by assumption))), hI2.of (by repeat (first | with_reducible exact Within.refl _ | with_reducible assumption | with_reducible refine Within.alloc ?_ _ | with_reducible refine Within.drew ?_ | with_reducible refine Within.drewN ?_ _ | with_reducible refine Within.setCell ?_ (by first | (simp; done) | (simp; omega)) _ | with_reducible refine Within.trans ?_ (by assumption))), by first | (simp; done) | (simp; omega), by first | (simp; done) | (simp; omega), by first | (simp; done) | (simp; omega), (by repeat (first | with_reducible exact Within.refl _ | with_reducible assumption | with_reducible refine Within.alloc ?_ _ | with_reducible refine Within.drew ?_ | with_reducible refine Within.drewN ?_ _ | with_reducible refine Within.setCell ?_ (by first | (simp; done) | (simp; omega)) _ | with_reducible refine Within.trans ?_ (by assumption)))⟩ ?_
  rintro w0 ⟨c0, c1, d0, d1, hz, hI1, hI2, l0, l1, l2, hw0⟩
  try simp only [Act.put, List.setIfInBounds_toArray, List.set_cons_zero, List.set_cons_succ]
  apply sch_firm rfl rfl (by repeat (first | with_reducible exact Within.refl _ | with_reducible assumption | with_reducible refine Within.alloc ?_ _ | with_reducible refine Within.drew ?_ | with_reducible refine Within.drewN ?_ _ | with_reducible refine Within.setCell ?_ (by first | (simp; done) | (simp; omega)) _ | with_reducible refine Within.trans ?_ (by assumption)))
  · intro wq hq
    have hcq := hq.cells
    clear hq
    go_simp
    first | rfl | (trace_state; fail)
  try simp only [Act.put, List.setIfInBounds_toArray, List.set_cons_zero, List.set_cons_succ]
  apply sch_firm rfl rfl (by repeat (first | with_reducible exact Within.refl _ | with_reducible assumption | with_reducible refine Within.alloc ?_ _ | with_reducible refine Within.drew ?_ | with_reducible refine Within.drewN ?_ _ | with_reducible refine Within.setCell ?_ (by first | (simp; done) | (simp; omega)) _ | with_reducible refine Within.trans ?_ (by assumption)))
  · intro wq hq
    have hcq := hq.cells
    clear hq
    go_simp
    first | rfl | (trace_state; fail)
  try simp only [Act.put, List.setIfInBounds_toArray, List.set_cons_zero, List.set_cons_succ]
  apply sch_firm rfl rfl (by repeat (first | with_reducible exact Within.refl _ | with_reducible assumption | with_reducible refine Within.alloc ?_ _ | with_reducible refine Within.drew ?_ | with_reducible refine Within.drewN ?_ _ | with_reducible refine Within.setCell ?_ (by first | (simp; done) | (simp; omega)) _ | with_reducible refine Within.trans ?_ (by assumption)))
  · intro wq hq
    have hcq := hq.cells
    clear hq
    go_simp
    first | rfl | (trace_state; fail)
  try simp only [Act.put, List.setIfInBounds_toArray, List.set_cons_zero, List.set_cons_succ]
  apply sch_firm rfl rfl (by repeat (first | with_reducible exact Within.refl _ | with_reducible assumption | with_reducible refine Within.alloc ?_ _ | with_reducible refine Within.drew ?_ | with_reducible refine Within.drewN ?_ _ | with_reducible refine Within.setCell ?_ (by first | (simp; done) | (simp; omega)) _ | with_reducible refine Within.trans ?_ (by assumption)))
  · intro wq hq
    have hcq := hq.cells
    clear hq
    go_simp
    first | rfl | (trace_state; fail)
  try simp only [Act.put, List.setIfInBounds_toArray, List.set_cons_zero, List.set_cons_succ]
  apply sch_firm rfl rfl (by repeat (first | with_reducible exact Within.refl _ | with_reducible assumption | with_reducible refine Within.alloc ?_ _ | with_reducible refine Within.drew ?_ | with_reducible refine Within.drewN ?_ _ | with_reducible refine Within.setCell ?_ (by first | (simp; done) | (simp; omega)) _ | with_reducible refine Within.trans ?_ (by assumption)))
  · intro wq hq
    have hcq := hq.cells
    clear hq
    go_simp
    first | rfl | (trace_state; fail)
  try simp only [Act.put, List.setIfInBounds_toArray, List.set_cons_zero, List.set_cons_succ]
  refine sch_two rfl rfl rfl rfl (fun K hK => ?_) (fun K hK => ?_)
  · refine wp_new_int rfl ?_
    intro z w4 hT hb4 hge
    have hz0 : w0.heap.size ≤ z := Nat.le_trans (Below.size (by show Within w0 _; repeat (first | with_reducible exact Within.refl _ | with_reducible assumption | with_reducible refine Within.alloc ?_ _ | with_reducible refine Within.drew ?_ | with_reducible refine Within.drewN ?_ _ | with_reducible refine Within.setCell ?_ (by first | (simp; done) | (simp; omega)) _ | with_reducible refine Within.trans ?_ (by assumption)))) hge
    refine hK _ _ (by repeat (first | with_reducible exact Within.refl _ | with_reducible assumption | with_reducible refine Within.alloc ?_ _ | with_reducible refine Within.drew ?_ | with_reducible refine Within.drewN ?_ _ | with_reducible refine Within.setCell ?_ (by first | (simp; done) | (simp; omega)) _ | with_reducible refine Within.trans ?_ (by assumption))) ?_
    clear hK K
    try simp only [Act.put, List.setIfInBounds_toArray, List.set_cons_zero, List.set_cons_succ]
    refine sch_one rfl rfl (fun K hK => ?_)
    go_simp
    refine (L1.out _ (IntB.of hI1 (by repeat (first | with_reducible exact Within.refl _ | with_reducible assumption | with_reducible refine Within.alloc ?_ _ | with_reducible refine Within.drew ?_ | with_reducible refine Within.drewN ?_ _ | with_reducible refine Within.setCell ?_ (by first | (simp; done) | (simp; omega)) _ | with_reducible refine Within.trans ?_ (by assumption))))).mono ?_; rintro e5 w5 ⟨q1, rfl, hA1, hb5⟩
    refine hK _ _ (fun _ => (by repeat (first | with_reducible exact Within.refl _ | with_reducible assumption | with_reducible refine Within.alloc ?_ _ | with_reducible refine Within.drew ?_ | with_reducible refine Within.drewN ?_ _ | with_reducible refine Within.setCell ?_ (by first | (simp; done) | (simp; omega)) _ | with_reducible refine Within.trans ?_ (by assumption)))) ?_
    clear hK K
    try simp only [Act.put, List.setIfInBounds_toArray, List.set_cons_zero, List.set_cons_succ]
    apply sch_firm rfl rfl (by repeat (first | with_reducible exact Within.refl _ | with_reducible assumption | with_reducible refine Within.alloc ?_ _ | with_reducible refine Within.drew ?_ | with_reducible refine Within.drewN ?_ _ | with_reducible refine Within.setCell ?_ (by first | (simp; done) | (simp; omega)) _ | with_reducible refine Within.trans ?_ (by assumption)))
    · intro wq hq
      have hcq := hq.cells
      clear hq
      go_simp
      first | rfl | (trace_state; fail)
    try simp only [Act.put, List.setIfInBounds_toArray, List.set_cons_zero, List.set_cons_succ]
    refine sch_one rfl rfl (fun K hK => ?_)
    go_simp
    refine (L2.out _ (IntB.of hI2 (by repeat (first | with_reducible exact Within.refl _ | with_reducible assumption | with_reducible refine Within.alloc ?_ _ | with_reducible refine Within.drew ?_ | with_reducible refine Within.drewN ?_ _ | with_reducible refine Within.setCell ?_ (by first | (simp; done) | (simp; omega)) _ | with_reducible refine Within.trans ?_ (by assumption))))).mono ?_; rintro e6 w6 ⟨q2, rfl, hA2, hb6⟩
    refine hK _ _ (fun _ => (by repeat (first | with_reducible exact Within.refl _ | with_reducible assumption | with_reducible refine Within.alloc ?_ _ | with_reducible refine Within.drew ?_ | with_reducible refine Within.drewN ?_ _ | with_reducible refine Within.setCell ?_ (by first | (simp; done) | (simp; omega)) _ | with_reducible refine Within.trans ?_ (by assumption)))) ?_
    clear hK K
    try simp only [Act.put, List.setIfInBounds_toArray, List.set_cons_zero, List.set_cons_succ]
    apply sch_firm rfl rfl (by repeat (first | with_reducible exact Within.refl _ | with_reducible assumption | with_reducible refine Within.alloc ?_ _ | with_reducible refine Within.drew ?_ | with_reducible refine Within.drewN ?_ _ | with_reducible refine Within.setCell ?_ (by first | (simp; done) | (simp; omega)) _ | with_reducible refine Within.trans ?_ (by assumption)))
    · intro wq hq
      have hcq := hq.cells
      clear hq
      go_simp
      first | rfl | (trace_state; fail)
    try simp only [Act.put, List.setIfInBounds_toArray, List.set_cons_zero, List.set_cons_succ]
    refine sch_one rfl rfl (fun K hK => ?_)
    go_simp
    refine (BAdd z q1 q2 v1 v2 HV.out.1 HV.out.2 _ (IntTy.of hT (by repeat (first | with_reducible exact Within.refl _ | with_reducible assumption | with_reducible refine Within.alloc ?_ _ | with_reducible refine Within.drew ?_ | with_reducible refine Within.drewN ?_ _ | with_reducible refine Within.setCell ?_ (by first | (simp; done) | (simp; omega)) _ | with_reducible refine Within.trans ?_ (by assumption)))) (IntB.of hA1 (by repeat (first | with_reducible exact Within.refl _ | with_reducible assumption | with_reducible refine Within.alloc ?_ _ | with_reducible refine Within.drew ?_ | with_reducible refine Within.drewN ?_ _ | with_reducible refine Within.setCell ?_ (by first | (simp; done) | (simp; omega)) _ | with_reducible refine Within.trans ?_ (by assumption)))) (IntB.of hA2 (by repeat (first | with_reducible exact Within.refl _ | with_reducible assumption | with_reducible refine Within.alloc ?_ _ | with_reducible refine Within.drew ?_ | with_reducible refine Within.drewN ?_ _ | with_reducible refine Within.setCell ?_ (by first | (simp; done) | (simp; omega)) _ | with_reducible refine Within.trans ?_ (by assumption))))).mono ?_; rintro e7 w7 ⟨rfl, hJ, hG⟩
    have hv7 : Within w0 w7 := Within.grown (by repeat (first | with_reducible exact Within.refl _ | with_reducible assumption | with_reducible refine Within.alloc ?_ _ | with_reducible refine Within.drew ?_ | with_reducible refine Within.drewN ?_ _ | with_reducible refine Within.setCell ?_ (by first | (simp; done) | (simp; omega)) _ | with_reducible refine Within.trans ?_ (by assumption))) hG hz0
    have hz5 := (hv7.block _ l2).trans hz
    obtain ⟨y0, y1, yf⟩ := ex_cells hz5
    have yl := Nat.lt_of_lt_of_le l2 hv7.sizes
    refine hK _ _ (fun _ => (by repeat (first | with_reducible exact Within.refl _ | with_reducible assumption | with_reducible refine Within.alloc ?_ _ | with_reducible refine Within.drew ?_ | with_reducible refine Within.drewN ?_ _ | with_reducible refine Within.setCell ?_ (by first | (simp; done) | (simp; omega)) _ | with_reducible refine Within.trans ?_ (by assumption)))) ?_
    clear hK K
    try simp only [Act.put, List.setIfInBounds_toArray, List.set_cons_zero, List.set_cons_succ]
    apply sch_firm rfl rfl (by repeat (first | with_reducible exact Within.refl _ | with_reducible assumption | with_reducible refine Within.alloc ?_ _ | with_reducible refine Within.drew ?_ | with_reducible refine Within.drewN ?_ _ | with_reducible refine Within.setCell ?_ (by first | (simp; done) | (simp; omega)) _ | with_reducible refine Within.trans ?_ (by assumption)))
    · intro wq hq
      have hcq := hq.cells
      clear hq
      go_simp
      first | rfl | (trace_state; fail)
    try simp only [Act.put, List.setIfInBounds_toArray, List.set_cons_zero, List.set_cons_succ]
    refine sch_one rfl rfl (fun K hK => ?_)
    go_simp
    refine hK _ _ (fun h => absurd h (by decide)) ?_
    clear hK K
    try simp only [Act.put, List.setIfInBounds_toArray, List.set_cons_zero, List.set_cons_succ]
    refine sch_nil ?_
    obtain ⟨r0, r1, rI⟩ := ex_set (E := e) hz5 hJ (show z ≠ (w.heap.size + 2) by omega)
    have rl : (w.heap.size + 2) < w7.heap.size := by have := yl; omega
    go_wp2
    refine bodyPost_ret (v := .agg #[.pointer (some ⟨z, 0, none⟩), .int .i64 e]) (by simp [results, Tryz.results48, go_sem, r0, r1, rl]) rfl ⟨z, rfl, rI, ?_⟩
    exact ((hw0.trans hv7).setCell (by show _ ≤ (w.heap.size + 2); omega) _).setCell (by show _ ≤ (w.heap.size + 2); omega) _
  · go_simp
    refine (L1.out _ (IntB.of hI1 (by repeat (first | with_reducible exact Within.refl _ | with_reducible assumption | with_reducible refine Within.alloc ?_ _ | with_reducible refine Within.drew ?_ | with_reducible refine Within.drewN ?_ _ | with_reducible refine Within.setCell ?_ (by first | (simp; done) | (simp; omega)) _ | with_reducible refine Within.trans ?_ (by assumption))))).mono ?_; rintro e5 w5 ⟨q1, rfl, hA1, hb5⟩
    refine hK _ _ (by repeat (first | with_reducible exact Within.refl _ | with_reducible assumption | with_reducible refine Within.alloc ?_ _ | with_reducible refine Within.drew ?_ | with_reducible refine Within.drewN ?_ _ | with_reducible refine Within.setCell ?_ (by first | (simp; done) | (simp; omega)) _ | with_reducible refine Within.trans ?_ (by assumption))) ?_
    clear hK K
    try simp only [Act.put, List.setIfInBounds_toArray, List.set_cons_zero, List.set_cons_succ]
    apply sch_firm rfl rfl (by repeat (first | with_reducible exact Within.refl _ | with_reducible assumption | with_reducible refine Within.alloc ?_ _ | with_reducible refine Within.drew ?_ | with_reducible refine Within.drewN ?_ _ | with_reducible refine Within.setCell ?_ (by first | (simp; done) | (simp; omega)) _ | with_reducible refine Within.trans ?_ (by assumption)))
    · intro wq hq
      have hcq := hq.cells
      clear hq
      go_simp
      first | rfl | (trace_state; fail)
    try simp only [Act.put, List.setIfInBounds_toArray, List.set_cons_zero, List.set_cons_succ]
    refine sch_two rfl rfl rfl rfl (fun K hK => ?_) (fun K hK => ?_)
    · refine wp_new_int rfl ?_
      intro z w4 hT hb4 hge
      have hz0 : w0.heap.size ≤ z := Nat.le_trans (Below.size (by show Within w0 _; repeat (first | with_reducible exact Within.refl _ | with_reducible assumption | with_reducible refine Within.alloc ?_ _ | with_reducible refine Within.drew ?_ | with_reducible refine Within.drewN ?_ _ | with_reducible refine Within.setCell ?_ (by first | (simp; done) | (simp; omega)) _ | with_reducible refine Within.trans ?_ (by assumption)))) hge
      refine hK _ _ (by repeat (first | with_reducible exact Within.refl _ | with_reducible assumption | with_reducible refine Within.alloc ?_ _ | with_reducible refine Within.drew ?_ | with_reducible refine Within.drewN ?_ _ | with_reducible refine Within.setCell ?_ (by first | (simp; done) | (simp; omega)) _ | with_reducible refine Within.trans ?_ (by assumption))) ?_
      clear hK K
      try simp only [Act.put, List.setIfInBounds_toArray, List.set_cons_zero, List.set_cons_succ]
      refine sch_one rfl rfl (fun K hK => ?_)
      go_simp
      refine (L2.out _ (IntB.of hI2 (by repeat (first | with_reducible exact Within.refl _ | with_reducible assumption | with_reducible refine Within.alloc ?_ _ | with_reducible refine Within.drew ?_ | with_reducible refine Within.drewN ?_ _ | with_reducible refine Within.setCell ?_ (by first | (simp; done) | (simp; omega)) _ | with_reducible refine Within.trans ?_ (by assumption))))).mono ?_; rintro e6 w6 ⟨q2, rfl, hA2, hb6⟩
      refine hK _ _ (fun _ => (by repeat (first | with_reducible exact Within.refl _ | with_reducible assumption | with_reducible refine Within.alloc ?_ _ | with_reducible refine Within.drew ?_ | with_reducible refine Within.drewN ?_ _ | with_reducible refine Within.setCell ?_ (by first | (simp; done) | (simp; omega)) _ | with_reducible refine Within.trans ?_ (by assumption)))) ?_
      clear hK K
      try simp only [Act.put, List.setIfInBounds_toArray, List.set_cons_zero, List.set_cons_succ]
      apply sch_firm rfl rfl (by repeat (first | with_reducible exact Within.refl _ | with_reducible assumption | with_reducible refine Within.alloc ?_ _ | with_reducible refine Within.drew ?_ | with_reducible refine Within.drewN ?_ _ | with_reducible refine Within.setCell ?_ (by first | (simp; done) | (simp; omega)) _ | with_reducible refine Within.trans ?_ (by assumption)))
      · intro wq hq
        have hcq := hq.cells
        clear hq
        go_simp
        first | rfl | (trace_state; fail)
      try simp only [Act.put, List.setIfInBounds_toArray, List.set_cons_zero, List.set_cons_succ]
      refine sch_one rfl rfl (fun K hK => ?_)
      go_simp
      refine (BAdd z q1 q2 v1 v2 HV.out.1 HV.out.2 _ (IntTy.of hT (by repeat (first | with_reducible exact Within.refl _ | with_reducible assumption | with_reducible refine Within.alloc ?_ _ | with_reducible refine Within.drew ?_ | with_reducible refine Within.drewN ?_ _ | with_reducible refine Within.setCell ?_ (by first | (simp; done) | (simp; omega)) _ | with_reducible refine Within.trans ?_ (by assumption)))) (IntB.of hA1 (by repeat (first | with_reducible exact Within.refl _ | with_reducible assumption | with_reducible refine Within.alloc ?_ _ | with_reducible refine Within.drew ?_ | with_reducible refine Within.drewN ?_ _ | with_reducible refine Within.setCell ?_ (by first | (simp; done) | (simp; omega)) _ | with_reducible refine Within.trans ?_ (by assumption)))) (IntB.of hA2 (by repeat (first | with_reducible exact Within.refl _ | with_reducible assumption | with_reducible refine Within.alloc ?_ _ | with_reducible refine Within.drew ?_ | with_reducible refine Within.drewN ?_ _ | with_reducible refine Within.setCell ?_ (by first | (simp; done) | (simp; omega)) _ | with_reducible refine Within.trans ?_ (by assumption))))).mono ?_; rintro e7 w7 ⟨rfl, hJ, hG⟩
      have hv7 : Within w0 w7 := Within.grown (by repeat (first | with_reducible exact Within.refl _ | with_reducible assumption | with_reducible refine Within.alloc ?_ _ | with_reducible refine Within.drew ?_ | with_reducible refine Within.drewN ?_ _ | with_reducible refine Within.setCell ?_ (by first | (simp; done) | (simp; omega)) _ | with_reducible refine Within.trans ?_ (by assumption))) hG hz0
      have hz5 := (hv7.block _ l2).trans hz
      obtain ⟨y0, y1, yf⟩ := ex_cells hz5
      have yl := Nat.lt_of_lt_of_le l2 hv7.sizes
      refine hK _ _ (fun _ => (by repeat (first | with_reducible exact Within.refl _ | with_reducible assumption | with_reducible refine Within.alloc ?_ _ | with_reducible refine Within.drew ?_ | with_reducible refine Within.drewN ?_ _ | with_reducible refine Within.setCell ?_ (by first | (simp; done) | (simp; omega)) _ | with_reducible refine Within.trans ?_ (by assumption)))) ?_
      clear hK K
      try simp only [Act.put, List.setIfInBounds_toArray, List.set_cons_zero, List.set_cons_succ]
      apply sch_firm rfl rfl (by repeat (first | with_reducible exact Within.refl _ | with_reducible assumption | with_reducible refine Within.alloc ?_ _ | with_reducible refine Within.drew ?_ | with_reducible refine Within.drewN ?_ _ | with_reducible refine Within.setCell ?_ (by first | (simp; done) | (simp; omega)) _ | with_reducible refine Within.trans ?_ (by assumption)))
      · intro wq hq
        have hcq := hq.cells
        clear hq
        go_simp
        first | rfl | (trace_state; fail)
      try simp only [Act.put, List.setIfInBounds_toArray, List.set_cons_zero, List.set_cons_succ]
      refine sch_one rfl rfl (fun K hK => ?_)
      go_simp
      refine hK _ _ (fun h => absurd h (by decide)) ?_
      clear hK K
      try simp only [Act.put, List.setIfInBounds_toArray, List.set_cons_zero, List.set_cons_succ]
      refine sch_nil ?_
      obtain ⟨r0, r1, rI⟩ := ex_set (E := e) hz5 hJ (show z ≠ (w.heap.size + 2) by omega)
      have rl : (w.heap.size + 2) < w7.heap.size := by have := yl; omega
      go_wp2
      refine bodyPost_ret (v := .agg #[.pointer (some ⟨z, 0, none⟩), .int .i64 e]) (by simp [results, Tryz.results48, go_sem, r0, r1, rl]) rfl ⟨z, rfl, rI, ?_⟩
      exact ((hw0.trans hv7).setCell (by show _ ≤ (w.heap.size + 2); omega) _).setCell (by show _ ≤ (w.heap.size + 2); omega) _
    · go_simp
      refine (L2.out _ (IntB.of hI2 (by repeat (first | with_reducible exact Within.refl _ | with_reducible assumption | with_reducible refine Within.alloc ?_ _ | with_reducible refine Within.drew ?_ | with_reducible refine Within.drewN ?_ _ | with_reducible refine Within.setCell ?_ (by first | (simp; done) | (simp; omega)) _ | with_reducible refine Within.trans ?_ (by assumption))))).mono ?_; rintro e6 w6 ⟨q2, rfl, hA2, hb6⟩
      refine hK _ _ (by repeat (first | with_reducible exact Within.refl _ | with_reducible assumption | with_reducible refine Within.alloc ?_ _ | with_reducible refine Within.drew ?_ | with_reducible refine Within.drewN ?_ _ | with_reducible refine Within.setCell ?_ (by first | (simp; done) | (simp; omega)) _ | with_reducible refine Within.trans ?_ (by assumption))) ?_
      clear hK K
      try simp only [Act.put, List.setIfInBounds_toArray, List.set_cons_zero, List.set_cons_succ]
      apply sch_firm rfl rfl (by repeat (first | with_reducible exact Within.refl _ | with_reducible assumption | with_reducible refine Within.alloc ?_ _ | with_reducible refine Within.drew ?_ | with_reducible refine Within.drewN ?_ _ | with_reducible refine Within.setCell ?_ (by first | (simp; done) | (simp; omega)) _ | with_reducible refine Within.trans ?_ (by assumption)))
      · intro wq hq
        have hcq := hq.cells
        clear hq
        go_simp
        first | rfl | (trace_state; fail)
      try simp only [Act.put, List.setIfInBounds_toArray, List.set_cons_zero, List.set_cons_succ]
      refine sch_one rfl rfl (fun K hK => ?_)
      refine wp_new_int rfl ?_
      intro z w4 hT hb4 hge
      have hz0 : w0.heap.size ≤ z := Nat.le_trans (Below.size (by show Within w0 _; repeat (first | with_reducible exact Within.refl _ | with_reducible assumption | with_reducible refine Within.alloc ?_ _ | with_reducible refine Within.drew ?_ | with_reducible refine Within.drewN ?_ _ | with_reducible refine Within.setCell ?_ (by first | (simp; done) | (simp; omega)) _ | with_reducible refine Within.trans ?_ (by assumption)))) hge
      refine hK _ _ (fun _ => (by repeat (first | with_reducible exact Within.refl _ | with_reducible assumption | with_reducible refine Within.alloc ?_ _ | with_reducible refine Within.drew ?_ | with_reducible refine Within.drewN ?_ _ | with_reducible refine Within.setCell ?_ (by first | (simp; done) | (simp; omega)) _ | with_reducible refine Within.trans ?_ (by assumption)))) ?_
      clear hK K
      try simp only [Act.put, List.setIfInBounds_toArray, List.set_cons_zero, List.set_cons_succ]
      refine sch_one rfl rfl (fun K hK => ?_)
      go_simp
      refine (BAdd z q1 q2 v1 v2 HV.out.1 HV.out.2 _ (IntTy.of hT (by repeat (first | with_reducible exact Within.refl _ | with_reducible assumption | with_reducible refine Within.alloc ?_ _ | with_reducible refine Within.drew ?_ | with_reducible refine Within.drewN ?_ _ | with_reducible refine Within.setCell ?_ (by first | (simp; done) | (simp; omega)) _ | with_reducible refine Within.trans ?_ (by assumption)))) (IntB.of hA1 (by repeat (first | with_reducible exact Within.refl _ | with_reducible assumption | with_reducible refine Within.alloc ?_ _ | with_reducible refine Within.drew ?_ | with_reducible refine Within.drewN ?_ _ | with_reducible refine Within.setCell ?_ (by first | (simp; done) | (simp; omega)) _ | with_reducible refine Within.trans ?_ (by assumption)))) (IntB.of hA2 (by repeat (first | with_reducible exact Within.refl _ | with_reducible assumption | with_reducible refine Within.alloc ?_ _ | with_reducible refine Within.drew ?_ | with_reducible refine Within.drewN ?_ _ | with_reducible refine Within.setCell ?_ (by first | (simp; done) | (simp; omega)) _ | with_reducible refine Within.trans ?_ (by assumption))))).mono ?_; rintro e7 w7 ⟨rfl, hJ, hG⟩
      have hv7 : Within w0 w7 := Within.grown (by repeat (first | with_reducible exact Within.refl _ | with_reducible assumption | with_reducible refine Within.alloc ?_ _ | with_reducible refine Within.drew ?_ | with_reducible refine Within.drewN ?_ _ | with_reducible refine Within.setCell ?_ (by first | (simp; done) | (simp; omega)) _ | with_reducible refine Within.trans ?_ (by assumption))) hG hz0
      have hz5 := (hv7.block _ l2).trans hz
      obtain ⟨y0, y1, yf⟩ := ex_cells hz5
      have yl := Nat.lt_of_lt_of_le l2 hv7.sizes
      refine hK _ _ (fun _ => (by repeat (first | with_reducible exact Within.refl _ | with_reducible assumption | with_reducible refine Within.alloc ?_ _ | with_reducible refine Within.drew ?_ | with_reducible refine Within.drewN ?_ _ | with_reducible refine Within.setCell ?_ (by first | (simp; done) | (simp; omega)) _ | with_reducible refine Within.trans ?_ (by assumption)))) ?_
      clear hK K
      try simp only [Act.put, List.setIfInBounds_toArray, List.set_cons_zero, List.set_cons_succ]
      apply sch_firm rfl rfl (by repeat (first | with_reducible exact Within.refl _ | with_reducible assumption | with_reducible refine Within.alloc ?_ _ | with_reducible refine Within.drew ?_ | with_reducible refine Within.drewN ?_ _ | with_reducible refine Within.setCell ?_ (by first | (simp; done) | (simp; omega)) _ | with_reducible refine Within.trans ?_ (by assumption)))
      · intro wq hq
        have hcq := hq.cells
        clear hq
        go_simp
        first | rfl | (trace_state; fail)
      try simp only [Act.put, List.setIfInBounds_toArray, List.set_cons_zero, List.set_cons_succ]
      refine sch_one rfl rfl (fun K hK => ?_)
      go_simp
      refine hK _ _ (fun h => absurd h (by decide)) ?_
      clear hK K
      try simp only [Act.put, List.setIfInBounds_toArray, List.set_cons_zero, List.set_cons_succ]
      refine sch_nil ?_
      obtain ⟨r0, r1, rI⟩ := ex_set (E := e) hz5 hJ (show z ≠ (w.heap.size + 2) by omega)
      have rl : (w.heap.size + 2) < w7.heap.size := by have := yl; omega
      go_wp2
      refine bodyPost_ret (v := .agg #[.pointer (some ⟨z, 0, none⟩), .int .i64 e]) (by simp [results, Tryz.results48, go_sem, r0, r1, rl]) rfl ⟨z, rfl, rI, ?_⟩
      exact ((hw0.trans hv7).setCell (by show _ ≤ (w.heap.size + 2); omega) _).setCell (by show _ ≤ (w.heap.size + 2); omega) _
end Go.Proofs.YtjmaggfddinbkaaGreatDoor
end

section
namespace Go.Proofs.YtjmaggfddinbkaaGreatDoor
open Go.RowKit
def valE (n E : Int) (L : Nat) : Int := n * 2 ^ (E + L).toNat
theorem val_low {n E e : Int} {L k : Nat} (he : E - e = (k : Int)) (hL : -(L : Int) ≤ e) : valE (n * 2 ^ k) e L = valE n E L := by
  unfold valE
  rw [Int.mul_assoc, ← Int.pow_add, show k + (e + L).toNat = (E + L).toNat by omega]
theorem val_zero (E : Int) (L : Nat) : valE 0 E L = 0 := by unfold valE; rw [Int.zero_mul]
theorem val_add (n m E : Int) (L : Nat) : valE n E L + valE m E L = valE (n + m) E L := by unfold valE; rw [Int.add_mul]
theorem val_neg (n E : Int) (L : Nat) : valE (-n) E L = -valE n E L := by unfold valE; rw [Int.neg_mul]
theorem val_len (n E : Int) (L : Nat) : (dg n.natAbs).length ≤ (dg (valE n E L).natAbs).length := by
  apply dg_len_mono
  unfold valE
  rw [Int.natAbs_mul, Int.natAbs_pow]
  exact Nat.le_mul_of_pos_right _ (Nat.pow_pos (by decide))
theorem val_sign (n E : Int) (L : Nat) : (valE n E L).sign = n.sign := by
  unfold valE
  rw [Int.sign_mul, Int.sign_eq_one_of_pos (Int.pow_pos (by decide)), Int.mul_one]
def ExW (L U : Nat) (z : Int) (W : World) (e : Ending) (w' : World) : Prop := ∃ h n E, e = .returned (.agg #[.pointer (some ⟨h, 0, none⟩), .int .i64 E]) ∧ IntB w' h n ∧ -(L : Int) ≤ E ∧ E ≤ (U : Int) ∧ valE n E L = z ∧ Within W w'
theorem ExS.w {W w' : World} {n E : Int} {e : Ending} (L U : Nat) (h : ExS W n E e w') (h1 : -(L : Int) ≤ E) (h2 : E ≤ (U : Int)) : ExW L U (valE n E L) W e w' := by
  obtain ⟨g, k1, k2, k3⟩ := h
  exact ⟨g, n, E, k1, k2, h1, h2, rfl, k3⟩
theorem Xadd (n1 n2 E1 E2 : Int) (g1 g2 L U : Nat) (hL : L ≤ 9000) (hU : U ≤ 6000) (a1 : -(L : Int) ≤ E1) (a2 : E1 ≤ (U : Int)) (b1 : -(L : Int) ≤ E2) (b2 : E2 ≤ (U : Int)) (hl1 : (dg n1.natAbs).length ≤ 900) (hl2 : (dg n2.natAbs).length ≤ 900) (w : World) (hI1 : IntB w g1 n1) (hI2 : IntB w g2 n2) : Calls Tryz.prog 48 #[.agg #[.pointer (some ⟨g1, 0, none⟩), .int .i64 E1], .agg #[.pointer (some ⟨g2, 0, none⟩), .int .i64 E2]] w (ExW L U (valE n1 E1 L + valE n2 E2 L) w) := by
  by_cases h1 : n1 = 0
  · subst h1
    rw [val_zero, Int.zero_add]
    exact (Xadd_l n2 E1 E2 _ g1 g2 rfl w hI1 hI2).mono fun e w' h => h.w L U b1 b2
  · by_cases h2 : n2 = 0
    · subst h2
      rw [val_zero, Int.add_zero]
      exact (Xadd_r n1 E1 E2 _ g1 g2 rfl h1 w hI1 hI2).mono fun e w' h => h.w L U a1 a2
    · obtain ⟨e, he⟩ : ∃ e, min E1 E2 = e := ⟨_, rfl⟩
      obtain ⟨k1, hk1⟩ : ∃ k1 : Nat, E1 - e = (k1 : Int) := ⟨(E1 - e).toNat, by omega⟩
      obtain ⟨k2, hk2⟩ : ∃ k2 : Nat, E2 - e = (k2 : Int) := ⟨(E2 - e).toNat, by omega⟩
      have len : ∀ (n : Int) (k : Nat), k ≤ 16000 → (dg n.natAbs).length ≤ 900 → (dg (n * 2 ^ k).natAbs).length ≤ 1000000 := by
        intro n k hk hl
        rw [Int.natAbs_mul, Int.natAbs_pow]
        exact Nat.le_trans (dg_shl_le (k := 500) hl (by omega)) (by decide)
      refine (Xadd_sum n1 n2 E1 E2 e g1 g2 he (n1 * 2 ^ k1) (n2 * 2 ^ k2) h1 h2 ⟨len n1 k1 (by omega) hl1, len n2 k2 (by omega) hl2⟩ (Lib.hid fun w h => Xlow n1 E1 e g1 k1 hk1 (by omega) (Nat.le_trans hl1 (by decide)) w h) (Lib.hid fun w h => Xlow n2 E2 e g2 k2 hk2 (by omega) (Nat.le_trans hl2 (by decide)) w h) w hI1 hI2).mono fun e' w' h => ?_
      have := h.w L U (by omega) (by omega)
      rw [← val_add, val_low hk1 (by omega), val_low hk2 (by omega)] at this
      exact this
set_option maxRecDepth 100000 in
set_option maxHeartbeats 600000 in
theorem Xcmp0 (n1 n2 E1 E2 z : Int) (g1 g2 L U : Nat) (CN : Hid (∀ w, IntB w g2 n2 → Calls Tryz.prog 50 #[.agg #[.pointer (some ⟨g2, 0, none⟩), .int .i64 E2]] w (ExR w (-n2) E2))) (CA : Hid (∀ h w, IntB w g1 n1 → IntB w h (-n2) → Calls Tryz.prog 48 #[.agg #[.pointer (some ⟨g1, 0, none⟩), .int .i64 E1], .agg #[.pointer (some ⟨h, 0, none⟩), .int .i64 E2]] w (ExW L U z w))) (w : World) (hI1 : IntB w g1 n1) (hI2 : IntB w g2 n2) : Calls Tryz.prog 30 #[.agg #[.pointer (some ⟨g1, 0, none⟩), .int .i64 E1], .agg #[.pointer (some ⟨g2, 0, none⟩), .int .i64 E2]] w (fun e w' => e = .returned (.int .i64 z.sign) ∧ Within w w') := by
  go_enter Tryz.func30, Tryz.ntmps30
  go_wp2
  refine wp_region_schG (fun W => W.cell? ⟨w.heap.size, 0, none⟩ = some (.pointer (some ⟨g1, 0, none⟩)) ∧ W.cell? ⟨w.heap.size, 1, none⟩ = some (.int .i64 E1) ∧ W.cell? ⟨w.heap.size + 1, 0, none⟩ = some (.pointer (some ⟨g2, 0, none⟩)) ∧ W.cell? ⟨w.heap.size + 1, 1, none⟩ = some (.int .i64 E2) ∧ IntB W g1 n1 ∧ IntB W g2 n2 ∧ w.heap.size < W.heap.size ∧ w.heap.size + 1 < W.heap.size ∧ Within w W) 6 (.firm 0 (.firm 1 (.one 2 (.one 3 (.firm 4 (.one 5 (.one 6 .nil))))))) (by kernel_rfl) (by kernel_rfl) ⟨by go_simp, by go_simp, by go_simp, by go_simp, hI1.of (by repeat (first | with_reducible exact Within.refl _ | with_reducible assumption | with_reducible refine Within.alloc ?_ _ | with_reducible refine Within.drew ?_ | with_reducible refine Within.drewN ?_ _ | with_reducible refine Within.setCell ?_ (by first | (simp; done) | (simp; omega)) _ | with_reducible refine Within.trans ?_ (by assumption))), hI2.of (by repeat (first | with_reducible exact Within.refl _ | with_reducible assumption | with_reducible refine Within.alloc ?_ _ | with_reducible refine Within.drew ?_ | with_reducible refine Within.drewN ?_ _ | with_reducible refine Within.setCell ?_ (by first | (simp; done) | (simp; omega)) _ | with_reducible refine Within.trans ?_ (by assumption))), by first | (simp; done) | (simp; omega), by first | (simp; done) | (simp; omega), (by repeat (first | with_reducible exact Within.refl _ | with_reducible assumption | with_reducible refine Within.alloc ?_ _ | with_reducible refine Within.drew ?_ | with_reducible refine Within.drewN ?_ _ | with_reducible refine Within.setCell ?_ (by first | (simp; done) | (simp; omega)) _ | with_reducible refine Within.trans ?_ (by assumption)))⟩ ?_
  rintro w0 ⟨c0, c1, d0, d1, hI1, hI2, l0, l1, hw0⟩
  try simp only [Act.put, List.setIfInBounds_toArray, List.set_cons_zero, List.set_cons_succ]
  apply sch_firm rfl rfl (by repeat (first | with_reducible exact Within.refl _ | with_reducible assumption | with_reducible refine Within.alloc ?_ _ | with_reducible refine Within.drew ?_ | with_reducible refine Within.drewN ?_ _ | with_reducible refine Within.setCell ?_ (by first | (simp; done) | (simp; omega)) _ | with_reducible refine Within.trans ?_ (by assumption)))
  · intro wq hq
    have hcq := hq.cells
    clear hq
    go_simp
    first | rfl | (trace_state; fail)
  try simp only [Act.put, List.setIfInBounds_toArray, List.set_cons_zero, List.set_cons_succ]
  apply sch_firm rfl rfl (by repeat (first | with_reducible exact Within.refl _ | with_reducible assumption | with_reducible refine Within.alloc ?_ _ | with_reducible refine Within.drew ?_ | with_reducible refine Within.drewN ?_ _ | with_reducible refine Within.setCell ?_ (by first | (simp; done) | (simp; omega)) _ | with_reducible refine Within.trans ?_ (by assumption)))
  · intro wq hq
    have hcq := hq.cells
    clear hq
    go_simp
    first | rfl | (trace_state; fail)
  try simp only [Act.put, List.setIfInBounds_toArray, List.set_cons_zero, List.set_cons_succ]
  refine sch_one rfl rfl (fun K hK => ?_)
  go_simp
  refine (CN.out _ (IntB.of hI2 (by repeat (first | with_reducible exact Within.refl _ | with_reducible assumption | with_reducible refine Within.alloc ?_ _ | with_reducible refine Within.drew ?_ | with_reducible refine Within.drewN ?_ _ | with_reducible refine Within.setCell ?_ (by first | (simp; done) | (simp; omega)) _ | with_reducible refine Within.trans ?_ (by assumption))))).mono ?_; rintro e5 w5 ⟨h, rfl, hN, _, hb5⟩
  refine hK _ _ (fun _ => (by repeat (first | with_reducible exact Within.refl _ | with_reducible assumption | with_reducible refine Within.alloc ?_ _ | with_reducible refine Within.drew ?_ | with_reducible refine Within.drewN ?_ _ | with_reducible refine Within.setCell ?_ (by first | (simp; done) | (simp; omega)) _ | with_reducible refine Within.trans ?_ (by assumption)))) ?_
  clear hK K
  try simp only [Act.put, List.setIfInBounds_toArray, List.set_cons_zero, List.set_cons_succ]
  refine sch_one rfl rfl (fun K hK => ?_)
  go_simp
  refine (CA.out h _ (IntB.of hI1 (by repeat (first | with_reducible exact Within.refl _ | with_reducible assumption | with_reducible refine Within.alloc ?_ _ | with_reducible refine Within.drew ?_ | with_reducible refine Within.drewN ?_ _ | with_reducible refine Within.setCell ?_ (by first | (simp; done) | (simp; omega)) _ | with_reducible refine Within.trans ?_ (by assumption)))) (IntB.of hN (by repeat (first | with_reducible exact Within.refl _ | with_reducible assumption | with_reducible refine Within.alloc ?_ _ | with_reducible refine Within.drew ?_ | with_reducible refine Within.drewN ?_ _ | with_reducible refine Within.setCell ?_ (by first | (simp; done) | (simp; omega)) _ | with_reducible refine Within.trans ?_ (by assumption))))).mono ?_; rintro e6 w6 ⟨q, m, F, rfl, hM, _, _, hv, hb6⟩
  refine hK _ _ (fun _ => (by repeat (first | with_reducible exact Within.refl _ | with_reducible assumption | with_reducible refine Within.alloc ?_ _ | with_reducible refine Within.drew ?_ | with_reducible refine Within.drewN ?_ _ | with_reducible refine Within.setCell ?_ (by first | (simp; done) | (simp; omega)) _ | with_reducible refine Within.trans ?_ (by assumption)))) ?_
  clear hK K
  try simp only [Act.put, List.setIfInBounds_toArray, List.set_cons_zero, List.set_cons_succ]
  apply sch_firm rfl rfl (by repeat (first | with_reducible exact Within.refl _ | with_reducible assumption | with_reducible refine Within.alloc ?_ _ | with_reducible refine Within.drew ?_ | with_reducible refine Within.drewN ?_ _ | with_reducible refine Within.setCell ?_ (by first | (simp; done) | (simp; omega)) _ | with_reducible refine Within.trans ?_ (by assumption)))
  · intro wq hq
    have hcq := hq.cells
    clear hq
    go_simp
    first | rfl | (trace_state; fail)
  try simp only [Act.put, List.setIfInBounds_toArray, List.set_cons_zero, List.set_cons_succ]
  refine sch_one rfl rfl (fun K hK => ?_)
  go_simp
  refine (Bsign q m _ hM).mono ?_; rintro e7 w7 ⟨rfl, rfl⟩
  refine hK _ _ (fun _ => (by repeat (first | with_reducible exact Within.refl _ | with_reducible assumption | with_reducible refine Within.alloc ?_ _ | with_reducible refine Within.drew ?_ | with_reducible refine Within.drewN ?_ _ | with_reducible refine Within.setCell ?_ (by first | (simp; done) | (simp; omega)) _ | with_reducible refine Within.trans ?_ (by assumption)))) ?_
  clear hK K
  try simp only [Act.put, List.setIfInBounds_toArray, List.set_cons_zero, List.set_cons_succ]
  refine sch_one rfl rfl (fun K hK => ?_)
  go_simp
  refine hK _ _ (fun h => absurd h (by decide)) ?_
  clear hK K
  try simp only [Act.put, List.setIfInBounds_toArray, List.set_cons_zero, List.set_cons_succ]
  refine sch_nil ?_
  go_wp2
  go_ret
  exact ⟨ret_int (by rw [← hv, val_sign]), ((hw0.drew.trans hb5).trans hb6)⟩
theorem Xcmp (n1 n2 E1 E2 : Int) (g1 g2 L U : Nat) (hL : L ≤ 9000) (hU : U ≤ 6000) (a1 : -(L : Int) ≤ E1) (a2 : E1 ≤ (U : Int)) (b1 : -(L : Int) ≤ E2) (b2 : E2 ≤ (U : Int)) (hl1 : (dg n1.natAbs).length ≤ 900) (hl2 : (dg n2.natAbs).length ≤ 900) (w : World) (hI1 : IntB w g1 n1) (hI2 : IntB w g2 n2) : Calls Tryz.prog 30 #[.agg #[.pointer (some ⟨g1, 0, none⟩), .int .i64 E1], .agg #[.pointer (some ⟨g2, 0, none⟩), .int .i64 E2]] w (fun e w' => e = .returned (.int .i64 (valE n1 E1 L - valE n2 E2 L).sign) ∧ Within w w') :=
  Xcmp0 n1 n2 E1 E2 _ g1 g2 L U (Lib.hid fun w h => Xneg n2 E2 g2 (Nat.le_trans hl2 (by decide)) w h) (Lib.hid fun h w k1 k2 => by
    have := Xadd n1 (-n2) E1 E2 g1 h L U hL hU a1 a2 b1 b2 hl1 (by rw [Int.natAbs_neg]; exact hl2) w k1 k2
    rw [val_neg, ← Int.sub_eq_add_neg] at this
    exact this) w hI1 hI2
end Go.Proofs.YtjmaggfddinbkaaGreatDoor
end

section
namespace Go.Proofs.YtjmaggfddinbkaaGreatDoor
open Go.RowKit
theorem of_val (b : Nat) : valE (ofN b) (pExpD b) 1074 = P64.wholeI b := rfl
theorem dg_len_of {n e k : Nat} (h : n < 2 ^ e) (he : e ≤ 32 * k) : (dg n).length ≤ k :=
  dg_len_le (Nat.lt_of_lt_of_le h (by rw [show (4294967296 : Nat) = 2 ^ 32 from rfl, ← Nat.pow_mul]; exact Nat.pow_le_pow_right (by decide) he))
theorem lim80 {k : Nat} (h : k ≤ 2174) : 64 + k ≤ 32 * 80 := by omega
theorem whole_len (b : Nat) : (dg (P64.wholeI b).natAbs).length ≤ 80 := dg_len_of (P64.wholeI_lt b) (lim80 (by have := (P64.pExpD_range b).2; omega))
theorem XofW (b : Nat) (hb : b < 18446744073709551616) (w : World) : Calls Tryz.prog 44 #[.float .f64 b] w (ExW 1074 1100 (P64.wholeI b) w) := by
  refine (Xof b hb w).mono fun e w' ⟨h, h1, h2, _, h4⟩ => ⟨h, ofN b, pExpD b, h1, h2, (P64.pExpD_range b).1, (P64.pExpD_range b).2, of_val b, h4⟩
theorem ne_ex {w : World} {g b : Nat} {v : Int} {cs : Array Value} (hI : IntB w g v) (hz : w.heap[b]? = some (.cells cs 53 (0, 0))) : g ≠ b := by
  rintro rfl
  obtain ⟨A, c, hb, _⟩ := hI
  rw [hz] at hb
  injection hb with hb
  injection hb with _ h2
  exact absurd h2 (by decide)
theorem val_mul (n m E F : Int) (L M : Nat) (h1 : -(L : Int) ≤ E) (h2 : -(M : Int) ≤ F) : valE (n * m) (E + F) (L + M) = valE n E L * valE m F M := by
  unfold valE
  rw [show (E + F + ((L + M : Nat) : Int)).toNat = (E + L).toNat + (F + M).toNat by omega, Int.pow_add]
  rw [Int.mul_assoc, Int.mul_assoc, Int.mul_left_comm m]
end Go.Proofs.YtjmaggfddinbkaaGreatDoor
end

section
namespace Go.Proofs.YtjmaggfddinbkaaGreatDoor
def FzL : List (Option Nat) → List Int → Prop
  | [], [] => True
  | v :: vs, z :: zs => Fz v z ∧ FzL vs zs
  | _, _ => False
theorem FzL.length : ∀ {vs : List (Option Nat)} {zs : List Int}, FzL vs zs → vs.length = zs.length
  | [], [], _ => rfl
  | _ :: _, _ :: _, h => by simp [h.2.length]
  | [], _ :: _, h => h.elim
  | _ :: _, [], h => h.elim
theorem FzL.append : ∀ {vs : List (Option Nat)} {zs : List Int} {us : List (Option Nat)} {ys : List Int}, FzL vs zs → FzL us ys → FzL (vs ++ us) (zs ++ ys)
  | [], [], _, _, _, g => g
  | _ :: _, _ :: _, _, _, h, g => ⟨h.1, h.2.append g⟩
  | [], _ :: _, _, _, h, _ => h.elim
  | _ :: _, [], _, _, h, _ => h.elim
theorem FzL.one {v : Option Nat} {z : Int} (h : Fz v z) : FzL [v] [z] := ⟨h, trivial⟩
theorem FzL.rep : ∀ {vs : List (Option Nat)} {zs : List Int}, FzL vs zs → ∀ z ∈ zs, RepZ z
  | [], [], _ => fun z hz => absurd hz (by simp)
  | _ :: _, _ :: _, h => fun z hz => by
    rcases List.mem_cons.1 hz with rfl | hz
    · exact h.1.rep
    · exact h.2.rep z hz
  | [], _ :: _, h => h.elim
  | _ :: _, [], h => h.elim
theorem FzL.reverse : ∀ {vs : List (Option Nat)} {zs : List Int}, FzL vs zs → FzL vs.reverse zs.reverse
  | [], [], _ => trivial
  | v :: vs, z :: zs, h => by
    rw [List.reverse_cons, List.reverse_cons]
    exact h.2.reverse.append (FzL.one h.1)
  | [], _ :: _, h => h.elim
  | _ :: _, [], h => h.elim
theorem un_zero {x : Nat} : Fp.un Ieee.double x = 0 ↔ x % 9223372036854775808 = 0 := by
  have h : (Fp.un Ieee.double x).natAbs = Fp.mag Ieee.double (x % 9223372036854775808) := by rw [un_abs, Fp.rg64]
  constructor
  · intro h0
    rw [h0] at h
    have : Fp.mag Ieee.double 0 = Fp.mag Ieee.double (x % 9223372036854775808) := by rw [Fp.mag_zero]; exact h
    exact ((Fp.mag_inj Ieee.double).1 this).symm
  · intro h0
    rw [h0, Fp.mag_zero] at h
    omega
end Go.Proofs.YtjmaggfddinbkaaGreatDoor
end

section
namespace Go.Proofs.YtjmaggfddinbkaaGreatDoor
theorem pMant_odd {b : Nat} (h : b % 9223372036854775808 < 9218868437227405312) (h0 : Fp.un Ieee.double b ≠ 0) : ∃ m, pMantD b = 2 * m + 1 := by
  have hm : Fp.mag Ieee.double (b % 9223372036854775808) ≠ 0 := by
    have := un_abs b
    rw [Fp.rg64] at this
    omega
  obtain ⟨_, _, h3⟩ := fin_exp h
  have h1 : mantD b ≠ 0 := by
    intro h1
    rw [mag_parts h, h1, Nat.zero_mul] at hm
    exact hm rfl
  obtain ⟨m, e1, _, _⟩ := odd_split h1 (by have := mantD_lt b; omega)
  unfold pMantD
  rw [if_neg (by omega)]
  exact ⟨m, e1⟩
theorem abs_parts {b : Nat} (h : b % 9223372036854775808 < 9218868437227405312) : (Fp.un Ieee.double b).natAbs = pMantD b * 2 ^ (pExpD b + 1074).toNat := by
  rw [un_abs, Fp.rg64, mag_odd h]
theorem mu_nat {k c : Nat} {z : Int} (h : z.natAbs = c * 2 ^ k) : Mu k z := by
  rcases Int.natAbs_eq z with e | e
  · exact ⟨c, by rw [e, h, Int.natCast_mul, cast_pow]⟩
  · exact ⟨-c, by rw [e, h, Int.natCast_mul, cast_pow, Int.neg_mul]⟩
end Go.Proofs.YtjmaggfddinbkaaGreatDoor
end

section
namespace Go.Proofs.YtjmaggfddinbkaaGreatDoor
open Go.RowKit
set_option maxRecDepth 100000 in
set_option maxHeartbeats 600000 in
theorem Xpower (E : Int) (w : World) : Calls Tryz.prog 61 #[.int .i64 E] w (ExR w 1 E) := by
  have CN := Lib.hid (fun w => BnewInt 1 (by decide) (by decide) w)
  go_enter Tryz.func61, Tryz.ntmps61
  go_wp2_with fail
  refine (CN.out _).mono ?_; rintro e1 w1 ⟨h, rfl, hI, hg, hb1⟩
  have hz5 : w1.heap[w.heap.size]? = some (.cells #[.pointer none, .int .i64 0] 53 (0, 0)) := (hb1.block _ (by simp)).trans (heap_alloc_new w _)
  obtain ⟨y0, y1, yf⟩ := ex_cells hz5
  have yl : w.heap.size < w1.heap.size := World.block_lt_of_cell? _ _ y0
  have hne : h ≠ w.heap.size := by have : (w.alloc (.cells #[.pointer none, .int .i64 0] 53)).heap.size ≤ h := hg; simp at this; omega
  obtain ⟨r0, r1, rI⟩ := ex_set (E := E) hz5 hI hne
  go_wp2
  refine bodyPost_ret (v := .agg #[.pointer (some ⟨h, 0, none⟩), .int .i64 E]) (by simp [results, Tryz.results61, go_sem, r0, r1, yl]) rfl ⟨h, rfl, rI, (by have : (w.alloc (.cells #[.pointer none, .int .i64 0] 53)).heap.size ≤ h := hg; simp at this; omega), ?_⟩
  exact ((((Within.refl w).alloc _).trans hb1).setCell (by show _ ≤ w.heap.size; omega) _).setCell (by show _ ≤ w.heap.size; omega) _
end Go.Proofs.YtjmaggfddinbkaaGreatDoor
end

section
namespace Go.Proofs.YtjmaggfddinbkaaGreatDoor
/-! Compress -/
def ds (q : Nat) (d : List Nat) (k : Nat) : Lay := ((d.map fv).take k).foldl downStep ⟨fv q, [], false⟩
def us (D : Lay) (k : Nat) : Lay := (D.l.reverse.take k).foldl upStep ⟨D.q, [], D.ov⟩
/-! Value -/
def vs (es : List Nat) (k : Nat) : Option Nat := ((es.map fv).take k).foldl (fop .add) (some 0)
end Go.Proofs.YtjmaggfddinbkaaGreatDoor
end

section
namespace Go.Proofs.YtjmaggfddinbkaaGreatDoor
open Go.RowKit
def Tab32 (w : World) : Prop := ∀ j, j < 32 → w.cell? ⟨1, j, none⟩ = some (.int .u8 (Lib.deBruijn32tab.getD j 0))
theorem Tab32.of {w w' : World} (h : Tab32 w) (k : Within w w') : Tab32 w' := fun j hj => by
  rw [k.cells _ _ (World.block_lt_of_cell? w _ (h j hj))]
  exact h j hj
set_option maxRecDepth 100000 in
set_option maxHeartbeats 600000 in
theorem tz32_core (x k idx : Nat) (w : World) (hx0 : ((x : Int) == 0) = false)
    (key : IntKind.u32.wrap (bits BinOp.and IntKind.u32 (x : Int) (IntKind.u32.wrap (-(x : Int))) * 125613361) / 134217728 = (idx : Int))
    (hi : idx < 32) (hk : k < 32) (hcell : w.cell? ⟨1, idx, none⟩ = some (.int .u8 k)) :
    Calls Tryz.prog 131 #[.int .u32 x] w fun e w' => e = .returned (.int .i64 k) ∧ w = w' := by
  rw [IntKind.wrap_u32, IntKind.wrap_u32] at key
  have k2 : (bits BinOp.and IntKind.u32 (x : Int) (-(x : Int) % 4294967296) * 125613361 % 4294967296 / 134217728).toNat = idx := by rw [key]; rfl
  go_enter Tryz.func131, Tryz.ntmps131
  go_wp2_with (simp only [key])
  go_ret
  exact ⟨rfl, rfl⟩
theorem tz32_key (x a : Nat) (hx : x < 4294967296) (hx0 : x ≠ 0) (hlow : x &&& (4294967296 - x) = a) :
    IntKind.u32.wrap (bits BinOp.and IntKind.u32 (x : Int) (IntKind.u32.wrap (-(x : Int))) * 125613361) / 134217728 = ((a * 125613361 % 4294967296 / 134217728 : Nat) : Int) := by
  have e1 : IntKind.u32.wrap (-(x : Int)) = ((4294967296 - x : Nat) : Int) := by rw [IntKind.wrap_u32]; omega
  have e2 : bits BinOp.and IntKind.u32 (x : Int) ((4294967296 - x : Nat) : Int) = ((x &&& (4294967296 - x) : Nat) : Int) := u32_and_nat x _ hx (by omega)
  rw [e1, e2, hlow, IntKind.wrap_u32]
  omega
theorem bits_tz32 (x : Nat) (h0 : x ≠ 0) (hx : x < 4294967296) (w : World) (hT : Tab32 w) :
    Calls Tryz.prog 131 #[.int .u32 x] w fun e w' => e = .returned (.int .i64 (Lib.ctz 32 x)) ∧ w = w' := by
  obtain ⟨hlow, hk⟩ := Lib.lowest_bit 32 x h0 hx
  obtain ⟨hi, htab⟩ := Lib.deBruijn32_at _ hk
  have hcell := hT _ hi
  rw [htab] at hcell
  exact tz32_core x _ _ w (by simp; omega) (tz32_key x _ hx h0 hlow) hi hk hcell
theorem ctz32_split {x : Nat} (h0 : x ≠ 0) (hx : x < 4294967296) : ∃ m, x = 2 ^ Lib.ctz 32 x * (2 * m + 1) ∧ Lib.ctz 32 x < 32 := by
  have := Lib.ctzFrom_spec 32 x (Nat.pos_of_ne_zero h0) hx
  unfold Lib.ctz
  first | exact this | (rw [if_neg h0]; exact this)
theorem OwnW.one (w : World) : OwnW (w.alloc (.cells #[.int .u32 1] 133)) w.heap.size [1] := by
  have h := World.rowIs_alloc w #[.int .u32 1] 133 (fun i => .int .u32 ((([1] : List Nat).getD i 0 : Nat) : Int)) (fun i hi => by
    have : i = 0 := by simpa using hi
    subst this
    rfl)
  exact h
theorem dg_one : dg 1 = [1] := by rw [dg_pos (by decide), show 1 / 4294967296 = 0 by decide, dg_zero]
set_option maxRecDepth 100000 in
set_option maxHeartbeats 600000 in
theorem Brsh_neg (z x n a : Nat) (h0 : 0 < a) (A : Option Addr) (ca : Nat) (ha : (dg a).length ≤ 1000000) (hn : n ≤ 40000000) (w : World) (hz : IntTy w z) (a0 : w.cell? ⟨x, 0, none⟩ = some (.bool true)) (a1 : w.cell? ⟨x, 1, none⟩ = some (.slice A (dg a).length ca)) (hra : RowAt w A (dg a)) : Calls Tryz.prog 100 #[.pointer (some ⟨z, 0, none⟩), .pointer (some ⟨x, 0, none⟩), .int .u64 (n : Int)] w (PutI w z (-(((a - 1) / 2 ^ n + 1 : Nat) : Int))) := by
  have HZ := Lib.hid hz; have HRA := Lib.hid hra; clear hz hra
  have MI := Lib.hid (fun w (Bv : Option Addr) (hra : RowAt w A (dg a)) (hrb : RowAt w Bv [1]) => (show Calls Tryz.prog 133 #[.slice A (dg a).length ca, .slice Bv 1 1] w (RetW w (a - 1)) from by
    have := Bminus a 1 A Bv ca 1 (Nat.le_trans ha (by decide)) h0 w hra (by rw [dg_one]; exact hrb)
    rw [dg_one] at this
    exact this))
  have RI := Lib.hid (fun w (A' : Option Addr) (c' : Nat) (hr : RowAt w A' (dg (a - 1))) => Bright (a - 1) A' c' n (Nat.le_trans (dg_len_mono (Nat.sub_le a 1)) (Nat.le_trans ha (by decide))) hn w hr)
  obtain ⟨q, hq⟩ : ∃ q, q = (a - 1) / 2 ^ n := ⟨_, rfl⟩
  have hql : (dg q).length ≤ 1000000 := by rw [hq]; exact Nat.le_trans (dg_len_mono (Nat.le_trans (Nat.div_le_self _ _) (Nat.sub_le a 1))) ha
  have hql2 : (dg (q + 1)).length ≤ 1000000 := Nat.le_trans (dg_len_mono (by rw [hq]; have := Nat.div_le_self (a - 1) (2 ^ n); omega)) ha
  rw [← hq] at RI ⊢
  have HQL := Lib.hid (And.intro hql hql2)
  have PL := Lib.hid (fun w (A' Bv : Option Addr) (c' : Nat) (hra : RowAt w A' (dg q)) (hrb : RowAt w Bv [1]) => (show Calls Tryz.prog 134 #[.slice A' (dg q).length c', .slice Bv 1 1] w (RetW w (q + 1)) from by
    have := Bplus q 1 A' Bv c' 1 (Nat.le_trans hql (by decide)) (by rw [dg_one]; decide) w hra (by rw [dg_one]; exact hrb)
    rw [dg_one] at this
    exact this))
  clear hq hql hql2 h0 ha hn
  have hw1 : Within w (w.alloc (.cells #[.int .u32 1] 133)) := (Within.refl w).alloc _
  go_enter Tryz.func100, Tryz.ntmps100
  go_wp2_with fail
  refine (MI.out _ _ (HRA.out.of hw1) (OwnW.one w).at).mono ?_; rintro e2 w2 ⟨A2, c2, rfl, hc2, hr2, hb2⟩
  go_wp2_with fail
  refine (RI.out _ A2 c2 hr2).mono ?_; rintro e3 w3 ⟨A3, c3, rfl, hc3, hr3, hb3⟩
  go_wp2_with fail
  refine (PL.out _ A3 _ c3 (hr3.of ((Within.refl w3).alloc _)) (OwnW.one w3).at).mono ?_; rintro e4 w4 ⟨A4, c4, rfl, hc4, hr4, hb4⟩
  have hb : Within w w4 := ((hw1.trans hb2).trans hb3).trans (((Within.refl w3).alloc _).trans hb4)
  go_wp2_with fail
  refine (Bput z true (dg (q + 1)) A4 c4 (words_dg _) hc4 (Nat.le_trans HQL.out.2 (by decide)) w4 hr4 (HZ.out.of hb)).mono ?_
  rintro e5 w5 ⟨rfl, hI, hG⟩
  go_wp2
  go_ret
  rw [wval_dg] at hI
  exact ⟨rfl, hI, grown_trans (grown_within z hb) hG⟩
theorem BrshD (z x t : Nat) (v r : Int) (h0 : v ≠ 0) (hv : v = r * 2 ^ t) (hl : (dg v.natAbs).length ≤ 1000000) (ht : t ≤ 40000000) (w : World) (hz : IntTy w z) (hx : IntB w x v) : Calls Tryz.prog 100 #[.pointer (some ⟨z, 0, none⟩), .pointer (some ⟨x, 0, none⟩), .int .u64 (t : Int)] w (PutI w z r) := by
  have ha : v.natAbs = r.natAbs * 2 ^ t := by rw [hv, natAbs_mul_pow]
  have hp := Nat.two_pow_pos t
  rcases Int.lt_or_le v 0 with g | g
  · obtain ⟨A, ca, a0, a1, hra⟩ := hx.rd
    rw [decide_eq_true g] at a0
    have h1 := Brsh_neg z x t v.natAbs (by omega) A ca hl ht w hz a0 a1 hra
    have hr0 : r < 0 := by
      rcases Int.lt_or_le r 0 with h | h
      · exact h
      · have := Int.mul_nonneg h (Int.le_of_lt (Int.pow_pos (show (0 : Int) < 2 by decide) : (0 : Int) < 2 ^ t))
        rw [← hv] at this; omega
    have e : (v.natAbs - 1) / 2 ^ t + 1 = r.natAbs := by
      obtain ⟨k, hk⟩ : ∃ k, r.natAbs = k + 1 := ⟨r.natAbs - 1, by omega⟩
      rw [ha, hk, Nat.add_mul, Nat.one_mul]
      have h3 : (k * 2 ^ t + 2 ^ t - 1) / 2 ^ t = k := by
        have : k * 2 ^ t + 2 ^ t - 1 = (2 ^ t - 1) + 2 ^ t * k := by rw [Nat.mul_comm]; omega
        rw [this, Nat.add_mul_div_left _ _ hp, Nat.div_eq_of_lt (by omega), Nat.zero_add]
      rw [h3]
    rw [e, show -((r.natAbs : Nat) : Int) = r by omega] at h1
    exact h1
  · have h1 := Brsh z x t v.natAbs (Nat.le_trans hl (by decide)) ht w hz (by rw [Int.natAbs_of_nonneg g]; exact hx)
    have hr0 : 0 ≤ r := by
      rcases Int.lt_or_le r 0 with h | h
      · have := Int.mul_neg_of_neg_of_pos h (Int.pow_pos (show (0 : Int) < 2 by decide) : (0 : Int) < 2 ^ t)
        rw [← hv] at this; omega
      · exact h
    have e : v.natAbs / 2 ^ t = r.natAbs := by rw [ha, Nat.mul_div_cancel _ hp]
    rw [e, Int.natAbs_of_nonneg hr0] at h1
    exact h1
theorem lo_none {l : List Nat} : ∀ k, (∀ j, j < k → l.getD j 0 = 0) → lo l k = 0
  | 0, _ => lo_zero l
  | k + 1, h => by rw [lo_succ, lo_none k fun j hj => h j (by omega), h k (by omega), Nat.mul_zero]
theorem tzb_split {l : List Nat} (hw : Words l) {k : Nat} (hk : k < l.length) (hz : ∀ j, j < k → l.getD j 0 = 0) (h0 : l.getD k 0 ≠ 0) : ∃ m, wval l = 2 ^ (32 * k + Lib.ctz 32 (l.getD k 0)) * (2 * m + 1) := by
  obtain ⟨m, h1, h2⟩ := ctz32_split h0 (hw.getD k)
  have e : l.drop k = l.getD k 0 :: l.drop (k + 1) := by rw [List.drop_eq_getElem_cons hk, List.getD, List.getElem?_eq_getElem hk]; rfl
  have h3 := wval_split l k
  rw [lo_none k hz, Nat.zero_add, e] at h3
  have h4 : wval (l.getD k 0 :: l.drop (k + 1)) = l.getD k 0 + 4294967296 * wval (l.drop (k + 1)) := rfl
  rw [h4] at h3
  generalize Lib.ctz 32 (l.getD k 0) = c at *
  refine ⟨m + 2 ^ (31 - c) * wval (l.drop (k + 1)), ?_⟩
  rw [h3, h1, show (4294967296 : Nat) = 2 ^ c * (2 * 2 ^ (31 - c)) by rw [← Nat.pow_succ', ← Nat.pow_add, show c + (31 - c + 1) = 32 by omega], show (2 ^ c * (2 * 2 ^ (31 - c))) ^ k = 2 ^ (32 * k) by rw [← Nat.pow_succ', ← Nat.pow_add, show c + (31 - c + 1) = 32 by omega, ← Nat.pow_mul], Nat.pow_add]
  generalize 2 ^ c = X
  generalize 2 ^ (31 - c) = Y
  generalize 2 ^ (32 * k) = Z
  generalize wval (l.drop (k + 1)) = V
  grind
set_option maxRecDepth 100000 in
set_option maxHeartbeats 600000 in
theorem Btzb (x : Nat) (v : Int) (h0 : v ≠ 0) (hl : (dg v.natAbs).length ≤ 1000000) (w : World) (hT : Tab32 w) (hx : IntB w x v) : Calls Tryz.prog 99 #[.pointer (some ⟨x, 0, none⟩)] w (fun e w' => ∃ t m : Nat, e = .returned (.int .u64 (t : Int)) ∧ v.natAbs = 2 ^ t * (2 * m + 1) ∧ t ≤ 32000000 ∧ w = w') := by
  obtain ⟨A, ca, a0, a1, hra⟩ := hx.rd
  have hxl := World.block_lt_of_cell? _ _ a1
  obtain ⟨l, hl'⟩ : ∃ l, l = dg v.natAbs := ⟨_, rfl⟩
  have hwl : Words l := by rw [hl']; exact words_dg _
  have hvl : wval l = v.natAbs := by rw [hl', wval_dg]
  rw [← hl'] at a1 hra hl
  clear hl' hx a0
  have HW := Lib.hid hwl; have HV := Lib.hid hvl; have HR := Lib.hid hra; have HT := Lib.hid hT; have H0 := Lib.hid h0; clear hwl hvl hra hT h0
  go_enter Tryz.func99, Tryz.ntmps99
  go_wp2
  go_loopw [3] (fun iv wr => ∃ k : Nat, k ≤ l.length ∧ iv = .int .i64 (k : Int) ∧ (∀ j, j < k → l.getD j 0 = 0) ∧ w = wr) (fun iv _ => l.length - (intOf iv).toNat)
  case atStart => exact ⟨0, Nat.zero_le _, rfl, fun j hj => absurd hj (Nat.not_lt_zero _), rfl⟩
  case round =>
    obtain ⟨k, hk, rfl, hzs, rfl⟩ := hrel
    have HZ := Lib.hid hzs; clear hzs
    by_cases hlt : k < l.length
    · obtain ⟨g, rfl, hg, hc⟩ := HR.out.cell hlt
      by_cases hx0 : l.getD k 0 = 0
      · rw [hx0] at hc
        have HZ2 := Lib.hid (show ∀ j, j < k + 1 → l.getD j 0 = 0 from fun j hj => (Nat.lt_succ_iff_lt_or_eq.1 hj).elim (HZ.out j) (fun h => h ▸ hx0))
        clear hx0
        go_wp2
        go_roundw
        case rel => exact ⟨k + 1, hlt, by go_num, HZ2.out, (by first | rfl | trivial)⟩
        case measure => first | (simp [intOf]; done) | (simp [intOf]; omega)
      · obtain ⟨m, hm⟩ := tzb_split HW.out hlt HZ.out hx0
        rw [HV.out] at hm
        have hx32 := HW.out.getD k
        obtain ⟨_, _, hct⟩ := ctz32_split hx0 hx32
        obtain ⟨y, hy⟩ : ∃ y, y = l.getD k 0 := ⟨_, rfl⟩
        rw [← hy] at hc hm hx0 hx32 hct
        have TZ := Lib.hid (fun w hT => bits_tz32 y hx0 hx32 w hT)
        have n0 : ((y : Int) != 0) = true := by rw [bne_iff_ne]; omega
        obtain ⟨c, hc2⟩ : ∃ c, c = Lib.ctz 32 y := ⟨_, rfl⟩
        rw [← hc2] at TZ hm hct
        have HM := Lib.hid hm; clear hc2 hm hy hx0 hx32
        have e1 : IntKind.i64.wrap (32 * (k : Int)) = 32 * (k : Int) := IntWalk.i64_in _ ⟨by omega, by omega⟩
        have e2 : IntKind.i64.wrap (32 * (k : Int) + (c : Int)) = 32 * (k : Int) + (c : Int) := IntWalk.i64_in _ ⟨by omega, by omega⟩
        have e3 : IntKind.u64.wrap (32 * (k : Int) + (c : Int)) = ((32 * k + c : Nat) : Int) := by rw [IntKind.wrap_u64]; omega
        go_wp2_with fail
        refine (TZ.out _ HT.out).mono ?_; rintro e5 w5 ⟨rfl, rfl⟩
        go_wp2
        go_ret
        exact ⟨32 * k + c, m, rfl, HM.out, by omega, rfl⟩
    · obtain rfl : k = l.length := by omega
      exfalso
      have h1 := lo_none l.length HZ.out
      rw [lo_all l (Nat.le_refl _), HV.out] at h1
      exact H0.out (by omega)
end Go.Proofs.YtjmaggfddinbkaaGreatDoor
end
