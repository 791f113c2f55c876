/- The card of EftFresh: whatever the input, the call returns true and the input reads as it did; the format holds what the program's text lays. -/
import Derived.Test.YtjmaggfddinbkaaDoorRows
import Derived.WalkKit
import Derived.WalkSpells
import Derived.WalkLawsBesides
import Derived.BigQuiet
import Derived.Lib.Hide
import Ieee.Arith
import Derived.Deep.OwnRows
import Derived.OwnWalk
import Derived.LoopTactic
import Derived.Outline
import Derived.IntWalk
import Derived.Shelf.Bits.Mul64
import Derived.Laws.Externs
import Derived.Deep.QuietTactic
import Derived.Deep.RegionWith
import Derived.OrdersHeld
import Derived.StillTail
import Derived.Deep.RegionHeld3
import Derived.Maps.AppendAt
import Derived.Lib.TrailingZeros
import Derived.Lib.BitFns
import Derived.Lib.Strings
import Derived.Lib.Slices
import Derived.Lib.Small
import Derived.Lib.Walk
import Derived.Deep.AppendLies
import Derived.Deep.Draws
import Derived.Laws.OwnMore
import Derived.Deep.DeepCutAuto
import Derived.Test.YtjmaggfddinbkaaDoorCards
import Derived.Test.YtjmaggfddinbkaaDoorTie
import Derived.ProofKit
import Derived.OpenShut
import Derived.ShutString
import Derived.ChangeOld
import Derived.Below
import Derived.Deep.DeepHandedRow
import Derived.Lib.LaidTab
import Derived.ChangeSlices
import Derived.Carry
import Derived.SizedLaws
import Derived.Deep.Strs
import Derived.Lib.SmallJoins
import Derived.Test.YtjmaggfddinbkaaDoorZEFr2
set_option linter.unusedVariables false
set_option linter.unusedSimpArgs false
section
namespace Go.Proofs.YtjmaggfddinbkaaDoor
open Go.RowKit
def chkE (l : List Nat) : Int := if l.all finD = false then 4 else if 64 < l.length then 2 else if isB l = false then 40 else 0
theorem chkE_zero {l : List Nat} : chkE l = 0 ↔ isB l = true := by
  unfold chkE
  constructor
  · intro h
    split at h
    · cases h
    · split at h
      · cases h
      · split at h
        · cases h
        · rename_i h3; simpa using h3
  · intro h
    have h1 : l.all finD = true := by
      unfold isB at h; simp only [Bool.and_eq_true] at h; exact h.1.2
    have h2 : l.length ≤ 64 := by
      unfold isB at h; simp only [Bool.and_eq_true, decide_eq_true_eq] at h; exact h.1.1
    rw [h1, if_neg (by decide), if_neg (by omega), h, if_neg (by decide)]
theorem chk_len {l : List Nat} (h : chkE l = 0) : l.length ≤ 64 := by
  have := chkE_zero.1 h
  unfold isB at this; simp only [Bool.and_eq_true, decide_eq_true_eq] at this; exact this.1.1
def growL (es : List Nat) (b : Nat) : List (Option Nat) := if chkE es = 0 then (if finW b then (growSt (es.map fv) (fv b)).out else []) else []
def growEr (es : List Nat) (b : Nat) : Int := if chkE es = 0 then (if finW b then (growSt (es.map fv) (fv b)).err else 4) else chkE es
theorem ResF.none_ {W w : World} (er : Int) (h : Within W w) : ResF W [] er (.returned (.tuple #[.slice none 0 0, .int .i64 er])) w := ⟨_, [], rfl, OwnF.nil_ _ _, (fun x hx => by cases hx), rfl, h⟩
set_option maxRecDepth 100000 in
set_option maxHeartbeats 600000 in
theorem echeck_fin (A : Option Addr) (c : Nat) (es : List Nat) (hw : Words64 es) (hl : es.length ≤ 1152921504606846976) (hf : es.all finD = false) (w : World) (hT : Tab w) (hr : SlAt w A (f64v es)) : Calls Tryd.prog 30 #[.slice A es.length c] w fun e w' => e = .returned (.int .i64 (4)) ∧ Within w w' := by
  have CF := Lib.hid (Finite_any A c es hw (by omega) w hr)
  rw [hf] at CF
  clear hw hr hT hf
  go_enter Tryd.func30, Tryd.ntmps30
  go_wp2_with fail
  refine CF.out.mono ?_; rintro e1 w1 ⟨rfl, hb1⟩
  go_wp2
  go_ret
  exact ⟨rfl, hb1⟩
set_option maxRecDepth 100000 in
set_option maxHeartbeats 600000 in
theorem echeck_long (A : Option Addr) (c : Nat) (es : List Nat) (hw : Words64 es) (hl : es.length ≤ 1152921504606846976) (hf : es.all finD = true) (h64 : 64 < es.length) (w : World) (hT : Tab w) (hr : SlAt w A (f64v es)) : Calls Tryd.prog 30 #[.slice A es.length c] w fun e w' => e = .returned (.int .i64 (2)) ∧ Within w w' := by
  have CF := Lib.hid (Finite_any A c es hw (by omega) w hr)
  rw [hf] at CF
  have d : decide ((es.length : Int) > 64) = true := decide_eq_true (by omega)
  clear hw hr hT hf
  go_enter Tryd.func30, Tryd.ntmps30
  go_wp2_with fail
  refine CF.out.mono ?_; rintro e1 w1 ⟨rfl, hb1⟩
  go_wp2
  go_ret
  exact ⟨rfl, hb1⟩
set_option maxRecDepth 100000 in
set_option maxHeartbeats 600000 in
theorem echeck_is (A : Option Addr) (c : Nat) (es : List Nat) (hw : Words64 es) (hl : es.length ≤ 1152921504606846976) (hf : es.all finD = true) (h64 : es.length ≤ 64) (v : Int) (b : Bool) (hb : isB es = b) (hv : (if b then 0 else 40) = v) (w : World) (hT : Tab w) (hr : SlAt w A (f64v es)) : Calls Tryd.prog 30 #[.slice A es.length c] w fun e w' => e = .returned (.int .i64 (v)) ∧ Within w w' := by
  have CF := Lib.hid (Finite_any A c es hw (by omega) w hr)
  rw [hf] at CF
  have d : decide ((es.length : Int) > 64) = false := decide_eq_false (by omega)
  have CI := Lib.hid (fun w hT hr => eis_any A c es hw (by omega) w hT hr)
  rw [hb] at CI
  have HT := Lib.hid hT; have HR := Lib.hid hr; clear hw hr hT hf hb
  cases b
  · obtain rfl : v = 40 := by simpa using hv.symm
    clear hv
    go_enter Tryd.func30, Tryd.ntmps30
    go_wp2_with fail
    refine CF.out.mono ?_; rintro e1 w1 ⟨rfl, hb1⟩
    go_wp2_with fail
    refine (CI.out _ (HT.out.of hb1) (HR.out.of hb1)).mono ?_; rintro e2 w2 ⟨rfl, hb2⟩
    go_wp2
    go_ret
    exact ⟨rfl, hb1.trans hb2⟩
  · obtain rfl : v = 0 := by simpa using hv.symm
    clear hv
    go_enter Tryd.func30, Tryd.ntmps30
    go_wp2_with fail
    refine CF.out.mono ?_; rintro e1 w1 ⟨rfl, hb1⟩
    go_wp2_with fail
    refine (CI.out _ (HT.out.of hb1) (HR.out.of hb1)).mono ?_; rintro e2 w2 ⟨rfl, hb2⟩
    go_wp2
    go_ret
    exact ⟨rfl, hb1.trans hb2⟩
theorem echeck_any (A : Option Addr) (c : Nat) (es : List Nat) (hw : Words64 es) (hl : es.length ≤ 1152921504606846976) (w : World) (hT : Tab w) (hr : SlAt w A (f64v es)) : Calls Tryd.prog 30 #[.slice A es.length c] w fun e w' => e = .returned (.int .i64 (chkE es)) ∧ Within w w' := by
  unfold chkE
  cases hf : es.all finD
  · rw [if_pos rfl]; exact echeck_fin A c es hw hl hf w hT hr
  · rw [if_neg (by decide)]
    by_cases h64 : 64 < es.length
    · rw [if_pos h64]; exact echeck_long A c es hw hl hf h64 w hT hr
    · rw [if_neg h64]
      refine echeck_is A c es hw hl hf (by omega) _ (isB es) rfl ?_ w hT hr
      cases isB es <;> rfl
set_option maxRecDepth 100000 in
set_option maxHeartbeats 600000 in
theorem eGrow_any (A : Option Addr) (c : Nat) (es : List Nat) (hw : Words64 es) (hl : es.length ≤ 1152921504606846976) (b : Nat) (hb : b < 18446744073709551616) (w : World) (hT : Tab w) (hr : SlAt w A (f64v es)) : Calls Tryd.prog 15 #[.slice A es.length c, .float .f64 b] w (ResF w (growL es b) (growEr es b)) := by
  have CK := Lib.hid (echeck_any A c es hw hl w hT hr)
  have HR := Lib.hid hr; clear hr hT
  unfold growL growEr
  by_cases h0 : chkE es = 0
  · rw [if_pos h0, if_pos h0]
    have CG := Lib.hid (fun w hr => egrow_any A c es b hw (Nat.le_trans (chk_len h0) (by decide)) hb w hr)
    rw [h0] at CK
    clear h0 hw hb
    have CN := Lib.hid (fun w => efinite_any b w)
    cases hf : finW b
    · rw [if_neg (by decide), if_neg (by decide)]
      rw [hf] at CN
      clear hf
      go_enter Tryd.func15, Tryd.ntmps15
      go_wp2_with fail
      refine CK.out.mono ?_; rintro e1 w1 ⟨rfl, hb1⟩
      go_wp2_with fail
      refine (CN.out _).mono ?_; rintro e2 w2 ⟨rfl, hb2⟩
      go_wp2
      go_ret2
      exact ResF.none_ 4 (hb1.trans hb2)
    · rw [if_pos rfl, if_pos rfl]
      rw [hf] at CN
      clear hf
      obtain ⟨go, hgo⟩ : ∃ go, go = (growSt (es.map fv) (fv b)).out := ⟨_, rfl⟩
      obtain ⟨ge, hge⟩ : ∃ ge, ge = (growSt (es.map fv) (fv b)).err := ⟨_, rfl⟩
      rw [← hgo, ← hge] at CG ⊢
      clear hgo hge
      go_enter Tryd.func15, Tryd.ntmps15
      go_wp2_with fail
      refine CK.out.mono ?_; rintro e1 w1 ⟨rfl, hb1⟩
      go_wp2_with fail
      refine (CN.out _).mono ?_; rintro e2 w2 ⟨rfl, hb2⟩
      go_wp2_with fail
      refine (CG.out _ (HR.out.of (hb1.trans hb2))).mono ?_; rintro e3 w3 ⟨sv, ls, rfl, ho, hws, hm, hb3⟩
      go_wp2
      go_ret2
      exact ⟨sv, ls, rfl, OwnF.less ho (hb1.trans hb2).size, hws, hm, (hb1.trans hb2).trans hb3⟩
  · clear hw hb
    rw [if_neg h0, if_neg h0]
    obtain ⟨v, hv⟩ : ∃ v, v = chkE es := ⟨_, rfl⟩
    rw [← hv] at CK h0 ⊢
    have hne : (v != 0) = true := by simpa using h0
    clear hv h0
    go_enter Tryd.func15, Tryd.ntmps15
    go_wp2_with fail
    refine CK.out.mono ?_; rintro e1 w1 ⟨rfl, hb1⟩
    go_wp2
    go_ret2
    exact ResF.none_ v hb1
end Go.Proofs.YtjmaggfddinbkaaDoor
end

section
namespace Go.Proofs.YtjmaggfddinbkaaDoor
theorem chain_at : ∀ l : List Int, Chain l ↔ ∀ i, i < l.length → l.getD i 0 ≠ 0 ∧ (i = 0 ∨ Low (l.getD (i - 1) 0) (l.getD i 0))
  | [] => ⟨fun _ i hi => absurd hi (by simp), fun _ => trivial⟩
  | [x] => ⟨fun h i hi => by
      obtain rfl : i = 0 := by simp at hi; omega
      exact ⟨h, .inl rfl⟩, fun h => (h 0 (by simp)).1⟩
  | x :: y :: l => by
    have ih := chain_at (y :: l)
    constructor
    · rintro ⟨h1, h2, h3⟩ i hi
      have g := ih.1 h3
      match i, hi with
      | 0, _ => exact ⟨h1, .inl rfl⟩
      | 1, _ => exact ⟨(g 0 (by simp)).1, .inr h2⟩
      | i + 2, hi =>
        obtain ⟨g1, g2⟩ := g (i + 1) (by simp at hi ⊢; omega)
        refine ⟨g1, .inr ?_⟩
        rcases g2 with g2 | g2
        · omega
        · exact g2
    · intro h
      refine ⟨(h 0 (by simp)).1, ?_, ih.2 fun i hi => ?_⟩
      · rcases (h 1 (by simp)).2 with g | g
        · omega
        · exact g
      · obtain ⟨g1, g2⟩ := h (i + 1) (by simp at hi ⊢; omega)
        refine ⟨g1, ?_⟩
        match i with
        | 0 => exact .inl rfl
        | i + 1 =>
          rcases g2 with g2 | g2
          · omega
          · exact .inr g2
theorem pMant_odd {b : Nat} (h : b % 9223372036854775808 < 9218868437227405312) (h0 : Fp.un Ieee.double b ≠ 0) : ∃ m, pMantD b = 2 * m + 1 := by
  have hm : Fp.mag Ieee.double (b % 9223372036854775808) ≠ 0 := by
    have := un_abs b
    rw [Fp.rg64] at this
    omega
  obtain ⟨_, _, h3⟩ := fin_exp h
  have h1 : mantD b ≠ 0 := by
    intro h1
    rw [mag_parts h, h1, Nat.zero_mul] at hm
    exact hm rfl
  obtain ⟨m, e1, _, _⟩ := odd_split h1 (by have := mantD_lt b; omega)
  unfold pMantD
  rw [if_neg (by omega)]
  exact ⟨m, e1⟩
theorem abs_parts {b : Nat} (h : b % 9223372036854775808 < 9218868437227405312) : (Fp.un Ieee.double b).natAbs = pMantD b * 2 ^ (pExpD b + 1074).toNat := by
  rw [un_abs, Fp.rg64, mag_odd h]
theorem mu_nat {k c : Nat} {z : Int} (h : z.natAbs = c * 2 ^ k) : Mu k z := by
  rcases Int.natAbs_eq z with e | e
  · exact ⟨c, by rw [e, h, Int.natCast_mul, cast_pow]⟩
  · exact ⟨-c, by rw [e, h, Int.natCast_mul, cast_pow, Int.neg_mul]⟩
theorem low_iff {a b : Nat} (fb : b % 9223372036854775808 < 9218868437227405312) (ha : Fp.un Ieee.double a ≠ 0) (hb : Fp.un Ieee.double b ≠ 0) : lowB a b = true ↔ Low (Fp.un Ieee.double a) (Fp.un Ieee.double b) := by
  unfold lowB
  rw [decide_eq_true_iff]
  have hp := abs_parts fb
  constructor
  · intro h
    exact Low.of ha h (mu_nat hp)
  · intro h
    obtain ⟨m, hm⟩ := pMant_odd fb hb
    obtain ⟨c, hc⟩ := Mu.abs h
    have hz : zl (Fp.un Ieee.double a) ≤ (pExpD b + 1074).toNat := by
      rcases Nat.lt_or_ge (pExpD b + 1074).toNat (zl (Fp.un Ieee.double a)) with g | g
      · exfalso
        obtain ⟨d, hd⟩ : ∃ d, zl (Fp.un Ieee.double a) = (pExpD b + 1074).toNat + 1 + d := ⟨zl (Fp.un Ieee.double a) - ((pExpD b + 1074).toNat + 1), by omega⟩
        rw [hp, hd, hm, Nat.pow_add, Nat.pow_succ] at hc
        have e : (2 * m + 1) * 2 ^ (pExpD b + 1074).toNat = (c * 2 ^ d * 2) * 2 ^ (pExpD b + 1074).toNat := by rw [hc]; ac_rfl
        have := Nat.eq_of_mul_eq_mul_right (Nat.two_pow_pos _) e
        omega
      · exact g
    exact Nat.lt_of_lt_of_le (zl_lt _) (Nat.pow_le_pow_right (by decide) hz)
def unL (es : List Nat) : List Int := es.map (Fp.un Ieee.double)
theorem unL_len (es : List Nat) : (unL es).length = es.length := List.length_map ..
theorem unL_at (es : List Nat) {i : Nat} (h : i < es.length) : (unL es).getD i 0 = Fp.un Ieee.double (es.getD i 0) := by
  unfold unL
  rw [List.getD, List.getElem?_map, List.getD, List.getElem?_eq_getElem h]
  rfl
theorem range_all {n : Nat} {p : Nat → Bool} : (List.range n).all p = true ↔ ∀ i, i < n → p i = true := by
  rw [List.all_eq_true]
  exact ⟨fun h i hi => h i (List.mem_range.2 hi), fun h i hi => h i (List.mem_range.1 hi)⟩
theorem isB_iff {es : List Nat} (hw : Words64 es) : isB es = true ↔ es.length ≤ 64 ∧ (∀ x ∈ es, x % 9223372036854775808 < 9218868437227405312) ∧ Expn (unL es) := by
  have hall : es.all finD = true ↔ ∀ x ∈ es, x % 9223372036854775808 < 9218868437227405312 := by
    rw [List.all_eq_true]
    exact forall_congr' fun x => ⟨fun h hx => by have := h hx; rw [finD_is (hw x hx)] at this; exact of_decide_eq_true this, fun h hx => by rw [finD_is (hw x hx)]; exact decide_eq_true (h hx)⟩
  unfold isB
  rw [Bool.and_eq_true, Bool.and_eq_true, decide_eq_true_iff, hall, and_assoc]
  refine and_congr_right fun _ => and_congr_right fun hf => ?_
  rw [range_all, ← chain_expn, chain_at, unL_len]
  have fin : ∀ i, i < es.length → es.getD i 0 % 9223372036854775808 < 9218868437227405312 := fun i hi => hf _ (by rw [List.getD, List.getElem?_eq_getElem hi]; exact List.getElem_mem ..)
  constructor
  · intro h i hi
    have h1 := h i hi
    unfold okAt at h1
    rw [Bool.and_eq_true, Bool.or_eq_true, decide_eq_true_iff, decide_eq_true_iff] at h1
    rw [unL_at es hi]
    refine ⟨fun g => h1.1 (un_zero.1 g), ?_⟩
    rcases h1.2 with g | g
    · exact .inl g
    · rcases Nat.eq_zero_or_pos i with h0 | h0
      · exact .inl h0
      · refine .inr ?_
        rw [unL_at es (by omega)]
        have h2 := h (i - 1) (by omega)
        unfold okAt at h2
        rw [Bool.and_eq_true, decide_eq_true_iff] at h2
        exact (low_iff (fin i hi) (fun g => h2.1 (un_zero.1 g)) (fun g => h1.1 (un_zero.1 g))).1 g
  · intro h i hi
    unfold okAt
    rw [Bool.and_eq_true, Bool.or_eq_true, decide_eq_true_iff, decide_eq_true_iff]
    obtain ⟨h1, h2⟩ := h i hi
    rw [unL_at es hi] at h1 h2
    refine ⟨fun g => h1 (un_zero.2 g), ?_⟩
    rcases Nat.eq_zero_or_pos i with h0 | h0
    · exact .inl h0
    · refine .inr ?_
      rcases h2 with g | g
      · omega
      · rw [unL_at es (by omega)] at g
        have h3 := (h (i - 1) (by omega)).1
        rw [unL_at es (by omega)] at h3
        exact (low_iff (fin i hi) h3 h1).2 g
theorem fzL_words : ∀ {es : List Nat}, (∀ x ∈ es, x % 9223372036854775808 < 9218868437227405312) → FzL (es.map fv) (unL es)
  | [], _ => trivial
  | x :: es, h => ⟨fz_of (h x (List.mem_cons_self ..)), fzL_words fun y hy => h y (List.mem_cons_of_mem _ hy)⟩
theorem fzL_unL : ∀ {es : List Nat} {zs : List Int}, FzL (es.map fv) zs → (∀ x ∈ es, x % 9223372036854775808 < 9218868437227405312) ∧ unL es = zs
  | [], [], _ => ⟨fun x hx => absurd hx (by simp), rfl⟩
  | x :: es, z :: zs, h => by
    obtain ⟨h1, h2⟩ := fzL_unL (es := es) h.2
    obtain ⟨h3, h4⟩ := Fz.fv h.1
    refine ⟨fun y hy => ?_, ?_⟩
    · rcases List.mem_cons.1 hy with rfl | hy
      · exact h3
      · exact h1 y hy
    · unfold unL at h2 ⊢
      rw [List.map_cons, h2, h4]
  | [], _ :: _, h => h.elim
  | _ :: _, [], h => h.elim
theorem isB_words {es : List Nat} (hw : Words64 es) (h : isB es = true) : FzL (es.map fv) (unL es) ∧ Expn (unL es) ∧ (∀ z ∈ unL es, RepZ z) := by
  obtain ⟨_, h2, h3⟩ := (isB_iff hw).1 h
  have := fzL_words h2
  exact ⟨this, h3, this.rep⟩
theorem isB_res {ls : List Nat} {zs : List Int} (hw : Words64 ls) (h : FzL (ls.map fv) zs) (hl : ls.length ≤ 64) (hE : Expn zs) : isB ls = true ∧ unL ls = zs := by
  obtain ⟨h1, h2⟩ := fzL_unL h
  exact ⟨(isB_iff hw).2 ⟨hl, h1, by rw [h2]; exact hE⟩, h2⟩
end Go.Proofs.YtjmaggfddinbkaaDoor
end

section
namespace Go.Proofs.YtjmaggfddinbkaaDoor
/-! Scale -/
theorem pow_split {i j u : Nat} (h : u ≤ i + j) : (2 : Int) ^ i * 2 ^ j = 2 ^ (i + j - u) * 2 ^ u := by rw [← Int.pow_add, ← Int.pow_add, Nat.sub_add_cancel h]
theorem prod_at {a y P : Int} {j k : Nat} (hk : upl ≤ k + j) (h : P * 2 ^ upl = y * 2 ^ k * (a * 2 ^ j)) : P = y * (a * 2 ^ (k + j - upl)) := by
  refine eq_of_shift (j := upl) ?_
  rw [h, Int.mul_assoc, Int.mul_assoc, Int.mul_assoc, ← pow_split hk]
  congr 1
  ac_rfl
theorem mu_gap {p k : Nat} {z : Int} (h : Mu p z) (hz : z.natAbs < 2 ^ k) (h0 : z ≠ 0) : p ≤ k ∧ z.natAbs + 2 ^ p ≤ 2 ^ k := by
  have hp : p ≤ k := by
    have := Nat.lt_of_le_of_lt (h.least h0) hz
    have := (Nat.pow_lt_pow_iff_right (show 1 < 2 by decide)).1 this
    omega
  refine ⟨hp, mu_beyond h.abs ⟨2 ^ (k - p), ?_⟩ hz⟩
  rw [← Nat.pow_add, Nat.sub_add_cancel hp]
theorem sc_of {a : Int} {j : Nat} (ha : RepZ a) : ∀ {l Ps : List Int} {k : Nat}, upl ≤ k + j → Ps.map (· * 2 ^ upl) = l.map (· * (a * 2 ^ j)) → Expn l → (∀ y ∈ l, Mu k y) → (∀ P ∈ Ps, RepZ (P - rn P)) →
    Sc Ps (a * 2 ^ (k + j - upl))
  | [], [], _, _, _, _, _, _ => trivial
  | y :: l, P :: Ps, k, hk, hP, hE, hM, hR => by
    rw [List.map_cons, List.map_cons, List.cons.injEq] at hP
    obtain ⟨hE1, hE2, hE3⟩ := hE
    obtain ⟨m, hm⟩ := hM y (List.mem_cons_self ..)
    have hm0 : m ≠ 0 := fun h => hE1 (by rw [hm, h, Int.zero_mul])
    have eP : P = m * (a * 2 ^ (k + j - upl)) := prod_at hk (by rw [hP.1, hm])
    obtain ⟨g1, g2⟩ := mu_gap (hM y (List.mem_cons_self ..)) (zl_lt y) hE1
    refine ⟨⟨m, hm0, eP⟩, hR P (List.mem_cons_self ..), a * 2 ^ (zl y + j - upl), repz_shift.2 ha, ?_, ⟨2 ^ (zl y - k), ?_⟩, sc_of ha (by omega) hP.2 hE3 hE2 fun Q hQ => hR Q (List.mem_cons_of_mem _ hQ)⟩
    · have e : zl y + j - upl = (k + j - upl) + (zl y - k) := by omega
      have g3 : m.natAbs + 1 ≤ 2 ^ (zl y - k) := by
        have e2 : zl y = (zl y - k) + k := by omega
        rw [hm, natAbs_mul_pow] at g2
        have g4 : (m.natAbs + 1) * 2 ^ k ≤ 2 ^ (zl y - k) * 2 ^ k := by rw [← Nat.pow_add, ← e2, Nat.add_mul, Nat.one_mul, hm]; exact g2
        exact Nat.le_of_mul_le_mul_right g4 (Nat.two_pow_pos k)
      rw [eP, Int.natAbs_mul, natAbs_mul_pow, natAbs_mul_pow, e, Nat.pow_add]
      have g5 := Nat.mul_le_mul_right (a.natAbs * 2 ^ (k + j - upl)) g3
      rw [Nat.add_mul, Nat.one_mul] at g5
      refine Nat.le_trans g5 (Nat.le_of_eq ?_)
      generalize 2 ^ (zl y - k) = X
      generalize 2 ^ (k + j - upl) = Y
      rw [Nat.mul_comm Y X, Nat.mul_left_comm]
    · have e : zl y + j - upl = (zl y - k) + (k + j - upl) := by omega
      rw [e, Int.pow_add]
      generalize (2 : Int) ^ (zl y - k) = X
      generalize (2 : Int) ^ (k + j - upl) = Y
      rw [Int.mul_left_comm]
  | [], _ :: _, _, _, h, _, _, _ => by cases h
  | _ :: _, [], _, _, h, _, _, _ => by cases h
theorem scale_all {a : Int} {j : Nat} (ha : RepZ a) (ha0 : a ≠ 0) {z : Int} {l : List Int} {P : Int} {Ps : List Int} (hE : Expn (z :: l)) (hz : ∃ i, Mu i z ∧ upl ≤ i + j) (hP : P * 2 ^ upl = z * (a * 2 ^ j)) (hPs : Ps.map (· * 2 ^ upl) = l.map (· * (a * 2 ^ j)))
    (hR : RepZ (P - rn P)) (hRs : ∀ P ∈ Ps, RepZ (P - rn P)) :
    Expn (layZ (P - rn P) (scaleS (Ps.map fun P => (rn P, P - rn P)) (rn P))) ∧ (layZ (P - rn P) (scaleS (Ps.map fun P => (rn P, P - rn P)) (rn P))).sum * 2 ^ upl = (z :: l).sum * (a * 2 ^ j) := by
  obtain ⟨hE1, hE2, hE3⟩ := hE
  obtain ⟨i, ⟨m, hm⟩, hi⟩ := hz
  have eP : P = m * (a * 2 ^ (i + j - upl)) := prod_at hi (by rw [hP, hm])
  obtain ⟨g1, _⟩ := mu_gap ⟨m, hm⟩ (zl_lt z) hE1
  have hc : upl ≤ zl z + j := by omega
  have hlt : P.natAbs < (a * 2 ^ (zl z + j - upl)).natAbs := by
    have e : zl z + j - upl = (i + j - upl) + (zl z - i) := by omega
    have hz := zl_lt z
    have e2 : zl z = (zl z - i) + i := by omega
    have h1 : z.natAbs = m.natAbs * 2 ^ i := by rw [← natAbs_mul_pow, ← hm]
    have h2 : m.natAbs < 2 ^ (zl z - i) := by
      refine Nat.lt_of_mul_lt_mul_right (a := 2 ^ i) ?_
      rw [← Nat.pow_add, ← e2, ← h1]; exact hz
    rw [eP, Int.natAbs_mul, natAbs_mul_pow, natAbs_mul_pow, e, Nat.pow_add]
    have hpos : 0 < a.natAbs * 2 ^ (i + j - upl) := Nat.mul_pos (by omega) (Nat.two_pow_pos _)
    have h3 := Nat.mul_lt_mul_of_pos_right h2 hpos
    refine Nat.lt_of_lt_of_le h3 (Nat.le_of_eq ?_)
    generalize 2 ^ (zl z - i) = X
    generalize 2 ^ (i + j - upl) = Y
    rw [Nat.mul_comm Y X, Nat.mul_left_comm]
  obtain ⟨k1, k2⟩ := scale_first (repz_shift.2 ha) hlt hR (sc_of ha hc hPs hE3 hE2 hRs)
  rw [k2]
  refine ⟨k1, ?_⟩
  rw [lay_sum, scale_sum, show P - rn P + (Ps.sum + rn P) = P + Ps.sum by omega, Int.add_mul, hP, List.sum_cons, Int.add_mul]
  congr 1
  clear hRs hlt hP k1 k2 eP hE2 hE3
  induction l generalizing Ps with
  | nil =>
    cases Ps with
    | nil => rw [List.sum_nil, Int.zero_mul, Int.zero_mul]
    | cons _ _ => cases hPs
  | cons y l ih =>
    cases Ps with
    | nil => cases hPs
    | cons Q Ps =>
      rw [List.map_cons, List.map_cons, List.cons.injEq] at hPs
      rw [List.sum_cons, List.sum_cons, Int.add_mul, Int.add_mul, hPs.1, ih hPs.2]
theorem rev_sum : ∀ l : List Int, l.reverse.sum = l.sum
  | [] => rfl
  | x :: l => by rw [List.reverse_cons, List.sum_append, rev_sum l, List.sum_cons, List.sum_cons, List.sum_nil]; omega
/-! Grow, Add -/
def toW (L : List (Option Nat)) : List Nat := L.map fun v => v.getD 0
theorem toW_fv : ∀ {ls : List Nat}, (∀ x ∈ ls, x % 9223372036854775808 < 9218868437227405312) → toW (ls.map fv) = ls
  | [], _ => rfl
  | x :: ls, h => by
    have h1 : fv x = some x := if_neg (by have := h x (List.mem_cons_self ..); omega)
    have h2 := toW_fv (ls := ls) fun y hy => h y (List.mem_cons_of_mem _ hy)
    unfold toW at h2 ⊢
    rw [List.map_cons, List.map_cons, h2, h1]; rfl
def addL : List Nat → List Nat → List (Option Nat) × Int
  | es, [] => (es.map fv, 0)
  | es, b :: fs => if growEr es b = 0 then addL (toW (growL es b)) fs else ([], growEr es b)
def addR (es fs : List Nat) : List (Option Nat) × Int := if chkE es = 0 then (if chkE fs = 0 then addL es fs else ([], chkE fs)) else ([], chkE es)
theorem growEr_zero {es : List Nat} {b : Nat} (h : growEr es b = 0) : chkE es = 0 ∧ finW b = true ∧ (growSt (es.map fv) (fv b)).err = 0 ∧ growL es b = (growSt (es.map fv) (fv b)).all := by
  unfold growEr at h
  by_cases h0 : chkE es = 0
  · rw [if_pos h0] at h
    cases hb : finW b
    · rw [hb, if_neg Bool.false_ne_true] at h; cases h
    · rw [hb, if_pos rfl] at h
      refine ⟨h0, rfl, h, ?_⟩
      unfold growL Lay.out
      rw [if_pos h0, hb, if_pos rfl, if_pos h]
  · rw [if_neg h0] at h; exact absurd h h0
theorem err_zero {s : Lay} (h : s.err = 0) : s.ov = false ∧ s.all.length ≤ 64 := by
  unfold Lay.err at h
  cases ho : s.ov
  · rw [ho, if_neg Bool.false_ne_true] at h
    refine ⟨rfl, ?_⟩
    split at h
    · cases h
    · omega
  · rw [ho, if_pos rfl] at h; cases h
theorem grow_res {es ls : List Nat} {b : Nat} (hw : Words64 es) (h0 : growEr es b = 0) (hws : Words64 ls) (hm : ls.map fv = growL es b) :
    ls = toW (growL es b) ∧ isB ls = true ∧ unL ls = growZ (unL es) (Fp.un Ieee.double b) := by
  obtain ⟨h1, h2, h3, h4⟩ := growEr_zero h0
  obtain ⟨h5, h6⟩ := err_zero h3
  obtain ⟨k1, k2, k3⟩ := isB_words hw (chkE_zero.1 h1)
  have hb : Fz (fv b) (Fp.un Ieee.double b) := fz_of (of_decide_eq_true h2)
  have hf := grow_keeps k1 hb h5
  rw [← h4, ← hm] at hf
  have hl : ls.length ≤ 64 := by rw [← h4, ← hm, List.length_map] at h6; exact h6
  obtain ⟨r1, r2⟩ := isB_res hws hf hl (grow_exp _ _ k2 k3 hb.rep)
  exact ⟨by rw [← hm, toW_fv (fzL_unL hf).1], r1, r2⟩
theorem isB_len {es : List Nat} (h : isB es = true) : es.length ≤ 64 := by
  unfold isB at h; simp only [Bool.and_eq_true, decide_eq_true_eq] at h; exact h.1.1
end Go.Proofs.YtjmaggfddinbkaaDoor
end

section
namespace Go.Proofs.YtjmaggfddinbkaaDoor
open Go.RowKit
theorem canon_fin {ls : List Nat} (h : ∀ x ∈ ls, x % 9223372036854775808 < 9218868437227405312) : ∀ x ∈ ls, canonD x = x := fun x hx => fin_canon (h x hx)
theorem fv_nil {ls : List Nat} (h : ls.map fv = []) : ls = [] := List.map_eq_nil_iff.1 h
theorem isB_fins {ls : List Nat} (hw : Words64 ls) (h : isB ls = true) : ∀ x ∈ ls, x % 9223372036854775808 < 9218868437227405312 := ((isB_iff hw).1 h).2.1
theorem grow_alike {es l1 l2 : List Nat} {b : Nat} (hw : Words64 es) (w1 : Words64 l1) (w2 : Words64 l2) (h1 : l1.map fv = growL es b) (h2 : l2.map fv = growL es b) : l1 = l2 ∧ (∀ x ∈ l1, canonD x = x) ∧ l1.length ≤ 1152921504606846976 := by
  by_cases h0 : growEr es b = 0
  · obtain ⟨r1, r2, _⟩ := grow_res hw h0 w1 h1
    obtain ⟨r3, _, _⟩ := grow_res hw h0 w2 h2
    exact ⟨r1.trans r3.symm, canon_fin (isB_fins w1 r2), Nat.le_trans (isB_len r2) (by decide)⟩
  · have e : growL es b = [] := by
      unfold growEr at h0
      unfold growL
      by_cases c : chkE es = 0
      · rw [if_pos c] at h0 ⊢
        cases hb : finW b
        · rw [if_neg Bool.false_ne_true]
        · rw [hb, if_pos rfl] at h0
          rw [if_pos rfl]; unfold Lay.out; rw [if_neg h0]
      · rw [if_neg c]
    rw [e] at h1 h2
    rw [fv_nil h1, fv_nil h2]
    exact ⟨rfl, fun x hx => absurd hx (by simp), by decide⟩
def Bd (v : Option Nat) : Prop := ∀ x, v = some x → x < 18446744073709551616
theorem fop_bd (op : BinOp) (a b : Option Nat) : Bd (fop op a b) := by
  intro r h
  cases a with
  | none => cases h
  | some x =>
    cases b with
    | none => cases h
    | some y => exact (floatBits_sane (show floatBits op .f64 x y = some r from h)).1
theorem fv_bd {x : Nat} (h : x < 18446744073709551616) : Bd (fv x) := by
  intro r hr
  unfold fv at hr
  split at hr
  · cases hr
  · rw [← Option.some.inj hr]; exact h
theorem layV_bd {l : List (Option Nat)} {v : Option Nat} (h : ∀ u ∈ l, Bd u) (hv : Bd v) : ∀ u ∈ layV l v, Bd u := by
  unfold layV
  split
  · intro u hu
    rcases List.mem_append.1 hu with g | g
    · exact h u g
    · rw [List.mem_singleton.1 g]; exact hv
  · exact h
theorem grow_bd : ∀ (es : List (Option Nat)) (s : Lay), Bd s.q → (∀ u ∈ s.l, Bd u) → Bd (es.foldl growStep s).q ∧ ∀ u ∈ (es.foldl growStep s).l, Bd u
  | [], _, h1, h2 => ⟨h1, h2⟩
  | e :: es, s, h1, h2 => grow_bd es (growStep s e) (fop_bd _ _ _) (layV_bd h2 (fop_bd _ _ _))
theorem toW_words {L : List (Option Nat)} (h : ∀ u ∈ L, Bd u) : Words64 (toW L) := by
  intro x hx
  unfold toW at hx
  obtain ⟨v, hv, rfl⟩ := List.mem_map.1 hx
  cases v with
  | none => exact (by decide : (0 : Nat) < 18446744073709551616)
  | some y => exact h _ hv y rfl
theorem toW_back : ∀ {L : List (Option Nat)} {zs : List Int}, FzL L zs → (toW L).map fv = L
  | [], [], _ => rfl
  | v :: L, z :: zs, h => by
    obtain ⟨x, rfl, hx, _⟩ := h.1
    have h2 := toW_back (L := L) h.2
    unfold toW at h2 ⊢
    rw [List.map_cons, List.map_cons, h2]
    show fv x :: L = _
    rw [show fv x = some x from if_neg (by omega)]
  | [], _ :: _, h => h.elim
  | _ :: _, [], h => h.elim
theorem words_toW {es : List Nat} {b : Nat} (h0 : growEr es b = 0) (hw : Words64 es) (hb64 : b < 18446744073709551616) : Words64 (toW (growL es b)) ∧ (toW (growL es b)).map fv = growL es b := by
  obtain ⟨h1, h2, h3, h4⟩ := growEr_zero h0
  obtain ⟨h5, h6⟩ := err_zero h3
  obtain ⟨k1, k2, k3⟩ := isB_words hw (chkE_zero.1 h1)
  have hb : Fz (fv b) (Fp.un Ieee.double b) := fz_of (of_decide_eq_true h2)
  have hf := grow_keeps k1 hb h5
  rw [← h4] at hf
  refine ⟨toW_words ?_, toW_back hf⟩
  rw [h4]
  obtain ⟨g1, g2⟩ := grow_bd (es.map fv) ⟨fv b, [], false⟩ (fv_bd hb64) (fun u hu => absurd hu (by simp))
  exact layV_bd g2 g1
theorem addL_res : ∀ {fs es : List Nat}, Words64 es → isB es = true → Words64 fs → (addL es fs).2 = 0 → ∀ {ls : List Nat}, Words64 ls → ls.map fv = (addL es fs).1 → isB ls = true ∧ ls = toW (addL es fs).1 ∧ (unL ls).sum = (unL es).sum + (unL fs).sum
  | [], es, hw, he, _, _, ls, hws, hm => by
    have hf := isB_fins hw he
    have hm' : ls.map fv = es.map fv := hm
    have e1 : toW (es.map fv) = es := toW_fv hf
    have hl : ls = es := by
      obtain ⟨h1, h2⟩ := fzL_unL (es := ls) (zs := unL es) (by rw [hm']; exact fzL_words hf)
      rw [← toW_fv h1, hm', e1]
    subst hl
    exact ⟨he, e1.symm, by unfold unL; rw [List.map_nil, List.sum_nil, Int.add_zero]⟩
  | b :: fs, es, hw, he, hwf, h0, ls, hws, hm => by
    unfold addL at h0 hm ⊢
    by_cases hg : growEr es b = 0
    · rw [if_pos hg] at h0 hm ⊢
      have hb := hwf b (List.mem_cons_self ..)
      obtain ⟨r1, r2⟩ := words_toW hg hw hb
      obtain ⟨r3, r4, r5⟩ := grow_res hw hg r1 r2
      obtain ⟨q1, q2, q3⟩ := addL_res r1 r4 (fun x hx => hwf x (List.mem_cons_of_mem _ hx)) h0 hws hm
      refine ⟨q1, q2, ?_⟩
      rw [q3, r5, grow_sum]
      unfold unL
      rw [List.map_cons, List.sum_cons]; omega
    · rw [if_neg hg] at h0
      exact absurd h0 hg
theorem addL_nil : ∀ {fs es : List Nat}, (addL es fs).2 ≠ 0 → (addL es fs).1 = []
  | [], _, h => absurd rfl h
  | b :: fs, es, h => by
    unfold addL at h ⊢
    by_cases hg : growEr es b = 0
    · rw [if_pos hg] at h ⊢; exact addL_nil h
    · rw [if_neg hg]
theorem addR_zero {es fs : List Nat} (h : (addR es fs).2 = 0) : isB es = true ∧ isB fs = true ∧ addR es fs = addL es fs := by
  unfold addR at h ⊢
  by_cases h1 : chkE es = 0
  · rw [if_pos h1] at h ⊢
    by_cases h2 : chkE fs = 0
    · rw [if_pos h2]; exact ⟨chkE_zero.1 h1, chkE_zero.1 h2, rfl⟩
    · rw [if_neg h2] at h; exact absurd h h2
  · rw [if_neg h1] at h; exact absurd h h1
theorem addR_res {es fs ls : List Nat} (hw : Words64 es) (hwf : Words64 fs) (h0 : (addR es fs).2 = 0) (hws : Words64 ls) (hm : ls.map fv = (addR es fs).1) : isB ls = true ∧ ls = toW (addR es fs).1 ∧ (unL ls).sum = (unL es).sum + (unL fs).sum := by
  obtain ⟨h1, h2, h3⟩ := addR_zero h0
  rw [h3] at h0 hm ⊢
  exact addL_res hw h1 hwf h0 hws hm
theorem addR_nil {es fs : List Nat} (h : (addR es fs).2 ≠ 0) : (addR es fs).1 = [] := by
  unfold addR at h ⊢
  by_cases h1 : chkE es = 0
  · rw [if_pos h1] at h ⊢
    by_cases h2 : chkE fs = 0
    · rw [if_pos h2] at h ⊢; exact addL_nil h
    · rw [if_neg h2]
  · rw [if_neg h1]
theorem add_alike {es fs l1 l2 : List Nat} (hw : Words64 es) (hwf : Words64 fs) (w1 : Words64 l1) (w2 : Words64 l2) (h1 : l1.map fv = (addR es fs).1) (h2 : l2.map fv = (addR es fs).1) : l1 = l2 ∧ (∀ x ∈ l1, canonD x = x) ∧ l1.length ≤ 1152921504606846976 := by
  by_cases h0 : (addR es fs).2 = 0
  · obtain ⟨r1, r2, _⟩ := addR_res hw hwf h0 w1 h1
    obtain ⟨r3, r4, _⟩ := addR_res hw hwf h0 w2 h2
    exact ⟨r2.trans r4.symm, canon_fin (isB_fins w1 r1), Nat.le_trans (isB_len r1) (by decide)⟩
  · rw [addR_nil h0] at h1 h2
    rw [fv_nil h1, fv_nil h2]
    exact ⟨rfl, fun x hx => absurd hx (by simp), by decide⟩
end Go.Proofs.YtjmaggfddinbkaaDoor
end

section
namespace Go.Proofs.YtjmaggfddinbkaaDoor
def lostB (a b : Nat) : Bool := decide (pExpD a + pExpD b < -1074)
def scale0 (e b : Nat) : Lay := ⟨proP (fv e) (fv b), layV [] (proE (fv e) (fv b)), !finV (proP (fv e) (fv b)) || !finV (proE (fv e) (fv b))⟩
def ss (e : Nat) (tl : List Nat) (b k : Nat) : Lay := ((tl.map fv).take k).foldl (scaleStep (fv b)) (scale0 e b)
theorem ss_zero (e : Nat) (tl : List Nat) (b : Nat) : ss e tl b 0 = scale0 e b := by unfold ss; rw [List.take_zero]; rfl
theorem ss_all (e : Nat) (tl : List Nat) (b : Nat) : ss e tl b tl.length = scaleSt (fv e) (tl.map fv) (fv b) := by
  unfold ss scaleSt
  rw [List.take_of_length_le (by rw [List.length_map]; exact Nat.le_refl _)]
  rfl
theorem ss_succ (e : Nat) (tl : List Nat) (b : Nat) {k : Nat} (h : k < tl.length) : ss e tl b (k + 1) = scaleStep (fv b) (ss e tl b k) (fv (tl.getD k 0)) := by
  unfold ss
  rw [fold_take (scaleStep (fv b)) _ (tl.map fv) none (by rw [List.length_map]; exact h), getD_fv tl h]
theorem scaleStep_len (b : Option Nat) (s : Lay) (e : Option Nat) : (scaleStep b s e).l.length ≤ s.l.length + 2 := by
  have h1 := layV_len (layV s.l (twoL s.q (proE e b))) (quiL (proP e b) (twoS s.q (proE e b)))
  have h2 := layV_len s.l (twoL s.q (proE e b))
  show (layV (layV s.l (twoL s.q (proE e b))) (quiL (proP e b) (twoS s.q (proE e b)))).length ≤ _
  omega
theorem ss_len (e : Nat) (tl : List Nat) (b : Nat) : ∀ k, k ≤ tl.length → (ss e tl b k).l.length ≤ 2 * k + 1
  | 0, _ => by
    rw [ss_zero]
    have := layV_len [] (proE (fv e) (fv b))
    show (layV [] (proE (fv e) (fv b))).length ≤ _
    rw [List.length_nil] at this
    omega
  | k + 1, h => by
    have h1 := ss_len e tl b k (by omega)
    have h2 := scaleStep_len (fv b) (ss e tl b k) (fv (tl.getD k 0))
    rw [ss_succ e tl b (by omega)]
    omega
def scaleR (es : List Nat) (b : Nat) : List (Option Nat) × Int :=
  if chkE es = 0 then
    if finW b then
      if b % 9223372036854775808 = 0 then ([], 0) else
        match es with
        | [] => ([], 0)
        | e :: tl => if (e :: tl).any (lostB · b) then ([], 41) else ((scaleSt (fv e) (tl.map fv) (fv b)).out, (scaleSt (fv e) (tl.map fv) (fv b)).err)
    else ([], 4)
  else ([], chkE es)
/-! Compress -/
def ds (q : Nat) (d : List Nat) (k : Nat) : Lay := ((d.map fv).take k).foldl downStep ⟨fv q, [], false⟩
theorem ds_zero (q : Nat) (d : List Nat) : ds q d 0 = ⟨fv q, [], false⟩ := by unfold ds; rw [List.take_zero]; rfl
theorem ds_all (q : Nat) (d : List Nat) : ds q d d.length = downSt (fv q) (d.map fv) := by
  unfold ds downSt
  rw [List.take_of_length_le (by rw [List.length_map]; exact Nat.le_refl _)]
theorem ds_succ (q : Nat) (d : List Nat) {k : Nat} (h : k < d.length) : ds q d (k + 1) = downStep (ds q d k) (fv (d.getD k 0)) := by
  unfold ds
  rw [fold_take downStep _ (d.map fv) none (by rw [List.length_map]; exact h), getD_fv d h]
theorem downStep_len (s : Lay) (e : Option Nat) : (downStep s e).l.length ≤ s.l.length + 1 := by
  unfold downStep
  dsimp only
  split
  · rw [List.length_append]; exact Nat.le_refl _
  · exact Nat.le_succ _
theorem ds_len (q : Nat) (d : List Nat) : ∀ k, k ≤ d.length → (ds q d k).l.length ≤ k
  | 0, _ => by rw [ds_zero]; exact Nat.le_refl _
  | k + 1, h => by
    have h1 := ds_len q d k (by omega)
    have h2 := downStep_len (ds q d k) (fv (d.getD k 0))
    rw [ds_succ q d (by omega)]
    omega
def us (D : Lay) (k : Nat) : Lay := (D.l.reverse.take k).foldl upStep ⟨D.q, [], D.ov⟩
theorem us_zero (D : Lay) : us D 0 = ⟨D.q, [], D.ov⟩ := by unfold us; rw [List.take_zero]; rfl
theorem us_all (D : Lay) : us D D.l.length = upSt D := by
  unfold us upSt
  rw [List.take_of_length_le (by rw [List.length_reverse]; exact Nat.le_refl _)]
theorem rev_at {α : Type} (l : List α) (d : α) {k : Nat} (h : k < l.length) : l.reverse.getD k d = l.getD (l.length - 1 - k) d := by
  rw [List.getD, List.getD, List.getElem?_reverse h]
theorem us_succ (D : Lay) {k : Nat} (h : k < D.l.length) : us D (k + 1) = upStep (us D k) (D.l.getD (D.l.length - 1 - k) none) := by
  unfold us
  rw [fold_take upStep _ D.l.reverse none (by rw [List.length_reverse]; exact h), rev_at D.l none h]
theorem us_len (D : Lay) : ∀ k, k ≤ D.l.length → (us D k).l.length ≤ k
  | 0, _ => by rw [us_zero]; exact Nat.le_refl _
  | k + 1, h => by
    have h1 := us_len D k (by omega)
    have h2 : (upStep (us D k) (D.l.getD (D.l.length - 1 - k) none)).l.length ≤ (us D k).l.length + 1 := layV_len _ _
    rw [us_succ D (by omega)]
    omega
def dwn (es : List Nat) : List Nat := es.dropLast.reverse
theorem dwn_len (es : List Nat) : (dwn es).length = es.length - 1 := by unfold dwn; rw [List.length_reverse, List.length_dropLast]
theorem dwn_at (es : List Nat) {k : Nat} (h : k + 1 < es.length) : (dwn es).getD k 0 = es.getD (es.length - 2 - k) 0 := by
  unfold dwn
  rw [rev_at _ _ (by rw [List.length_dropLast]; omega), List.length_dropLast]
  rw [List.getD, List.getD, List.getElem?_dropLast, if_pos (by omega), show es.length - 1 - 1 - k = es.length - 2 - k by omega]
def compSt (es : List Nat) : Lay := upSt (downSt (fv (es.getD (es.length - 1) 0)) ((dwn es).map fv))
def compR (es : List Nat) : List (Option Nat) × Int := if chkE es = 0 then (if es.length = 0 then ([], 0) else ((compSt es).out, (compSt es).err)) else ([], chkE es)
/-! Value -/
def vs (es : List Nat) (k : Nat) : Option Nat := ((es.map fv).take k).foldl (fop .add) (some 0)
theorem last_split {es : List Nat} (h : es.length ≠ 0) : es = es.dropLast ++ [es.getD (es.length - 1) 0] := by
  have hne : es ≠ [] := fun h0 => h (by rw [h0]; rfl)
  rw [List.getD, ← List.getLast?_eq_getElem?, List.getLast?_eq_some_getLast hne]
  exact (List.dropLast_concat_getLast hne).symm
end Go.Proofs.YtjmaggfddinbkaaDoor
end

section
namespace Go.Proofs.YtjmaggfddinbkaaDoor
theorem fz_list_eq {l1 l2 : List Nat} {zs : List Int} (h1 : FzL (l1.map fv) zs) (h : l2.map fv = l1.map fv) : l1 = l2 ∧ ∀ x ∈ l1, canonD x = x := by
  obtain ⟨f1, _⟩ := fzL_unL h1
  obtain ⟨f2, _⟩ := fzL_unL (es := l2) (zs := zs) (by rw [h]; exact h1)
  refine ⟨?_, canon_fin f1⟩
  rw [← toW_fv f1, ← toW_fv f2, h]
theorem num_parts {b : Nat} (fb : b % 9223372036854775808 < 9218868437227405312) : ∃ a : Int, Fp.un Ieee.double b = a * 2 ^ (pExpD b + 1074).toNat := mu_nat (abs_parts fb)
theorem mem_fin {es : List Nat} (hw : Words64 es) (h : isB es = true) {x : Nat} (hx : x ∈ es) : x % 9223372036854775808 < 9218868437227405312 := isB_fins hw h x hx
theorem not_lost {x b : Nat} (h : lostB x b = false) : upl ≤ (pExpD x + 1074).toNat + (pExpD b + 1074).toNat := by
  have h1 := (P64.pExpD_range x).1
  have h2 := (P64.pExpD_range b).1
  have h3 : ¬ pExpD x + pExpD b < -1074 := of_decide_eq_false h
  rw [upl_is]
  omega
theorem scale_fz {e b : Nat} {tl : List Nat} (hw : Words64 (e :: tl)) (hE : isB (e :: tl) = true) (fb : b % 9223372036854775808 < 9218868437227405312) (nb : b % 9223372036854775808 ≠ 0)
    (hno : ∀ x ∈ e :: tl, lostB x b = false) (ho : (scaleSt (fv e) (tl.map fv) (fv b)).ov = false) :
    ∃ Z, FzL (scaleSt (fv e) (tl.map fv) (fv b)).all Z ∧ Expn Z ∧ Z.sum * 2 ^ upl = (unL (e :: tl)).sum * Fp.un Ieee.double b := by
  obtain ⟨k1, k2, k3⟩ := isB_words hw hE
  obtain ⟨a, ha⟩ := num_parts fb
  have hB : Fz (fv b) (Fp.un Ieee.double b) := fz_of fb
  have hb0 : Fp.un Ieee.double b ≠ 0 := fun h => nb (un_zero.1 h)
  have ha0 : a ≠ 0 := fun h => hb0 (by rw [ha, h, Int.zero_mul])
  have hRa : RepZ a := by have := hB.rep; rw [ha] at this; exact repz_shift.1 this
  have hj : Mu (pExpD b + 1074).toNat (Fp.un Ieee.double b) := ⟨a, ha⟩
  have mus : ∀ x ∈ e :: tl, Mu (pExpD x + 1074).toNat (Fp.un Ieee.double x) ∧ upl ≤ (pExpD x + 1074).toNat + (pExpD b + 1074).toNat := fun x hx => ⟨mu_nat (abs_parts (mem_fin hw hE hx)), not_lost (hno x hx)⟩
  have hov0 : (scale0 e b).ov = false := by
    cases hh : (scale0 e b).ov
    · rfl
    · have := scale_ov (b := fv b) (tl.map fv) (scale0 e b) hh
      rw [show (scaleSt (fv e) (tl.map fv) (fv b)).ov = true from this] at ho
      cases ho
  obtain ⟨g0, g1, g2⟩ := or_not (a := false) (b := finV (proP (fv e) (fv b))) (c := finV (proE (fv e) (fv b))) hov0
  obtain ⟨T, fT⟩ := fz_some g1
  obtain ⟨t, ft⟩ := fz_some g2
  obtain ⟨A, B', hA, hB', hP⟩ := pro_fin fT ft
  obtain rfl := hA.eq k1.1
  obtain rfl := hB'.eq hB
  obtain ⟨m1, m2⟩ := mus e (List.mem_cons_self ..)
  obtain ⟨P, p1, p2, p3⟩ := hP _ _ m1 hj m2
  have hl : FzL (layV [] (proE (fv e) (fv b))) ([] ++ layZ t []) := lay_fz trivial ft
  have hz : ∀ z ∈ unL tl, ∃ i, Mu i z ∧ upl ≤ i + (pExpD b + 1074).toNat := by
    intro z hz
    obtain ⟨x, hx, rfl⟩ := List.mem_map.1 hz
    exact ⟨_, mus x (List.mem_cons_of_mem _ hx)⟩
  obtain ⟨Q', Ls', i1, i2, Ps, i3, i4, i5⟩ := scale_link (b := fv b) hB hj (es := tl.map fv) (zs := unL tl) (s := scale0 e b) (Q := T) (Ls := layZ t []) k1.2 hz fT hl ho
  have hR : RepZ (P - rn P) := by rw [← p3]; exact ft.rep
  rw [ha] at i3 p1
  obtain ⟨s1, s2⟩ := scale_all hRa ha0 (z := Fp.un Ieee.double e) (l := unL tl) k2 ⟨_, m1, m2⟩ p1.symm i3 hR i5
  refine ⟨Ls' ++ layZ Q' [], lay_fz i2 i1, ?_, ?_⟩
  · rw [i4, layZ_app, p3, p2]; exact s1
  · rw [i4, layZ_app, p3, p2, ha]; exact s2
theorem scaleR_zero {es : List Nat} {b : Nat} (h : (scaleR es b).2 = 0) : isB es = true ∧ finW b = true ∧
    (scaleR es b = ([], 0) ∧ (b % 9223372036854775808 = 0 ∨ es = []) ∨
     ∃ e tl, es = e :: tl ∧ b % 9223372036854775808 ≠ 0 ∧ (∀ x ∈ e :: tl, lostB x b = false) ∧ (scaleSt (fv e) (tl.map fv) (fv b)).err = 0 ∧ scaleR es b = ((scaleSt (fv e) (tl.map fv) (fv b)).all, 0)) := by
  unfold scaleR at h ⊢
  by_cases h1 : chkE es = 0
  · rw [if_pos h1] at h ⊢
    cases h2 : finW b
    · rw [h2, if_neg Bool.false_ne_true] at h; cases h
    · rw [h2, if_pos rfl] at h
      rw [if_pos rfl]
      refine ⟨chkE_zero.1 h1, rfl, ?_⟩
      by_cases h3 : b % 9223372036854775808 = 0
      · rw [if_pos h3]; exact .inl ⟨rfl, .inl h3⟩
      · rw [if_neg h3] at h ⊢
        cases es with
        | nil => exact .inl ⟨rfl, .inr rfl⟩
        | cons e tl =>
          right
          dsimp only at h ⊢
          cases h4 : (e :: tl).any (lostB · b)
          · rw [h4, if_neg Bool.false_ne_true] at h
            rw [if_neg Bool.false_ne_true]
            refine ⟨e, tl, rfl, h3, fun x hx => ?_, h, ?_⟩
            · have := List.any_eq_false.1 h4 x hx
              simpa using this
            · have h5 : (scaleSt (fv e) (tl.map fv) (fv b)).err = 0 := h
              unfold Lay.out
              rw [if_pos h5, h5]
          · rw [h4, if_pos rfl] at h; cases h
  · rw [if_neg h1] at h; exact absurd h h1
theorem err_ne_out {s : Lay} (h : s.err ≠ 0) : s.out = [] := by unfold Lay.out; rw [if_neg h]
theorem scaleR_none {es : List Nat} {b : Nat} (h : (scaleR es b).2 ≠ 0) : (scaleR es b).1 = [] := by
  unfold scaleR at h ⊢
  by_cases h1 : chkE es = 0
  · rw [if_pos h1] at h ⊢
    cases h2 : finW b
    · rw [if_neg Bool.false_ne_true]
    · rw [h2, if_pos rfl] at h
      rw [if_pos rfl]
      by_cases h3 : b % 9223372036854775808 = 0
      · rw [if_pos h3]
      · rw [if_neg h3] at h ⊢
        cases es with
        | nil => rfl
        | cons e tl =>
          dsimp only at h ⊢
          cases h4 : (e :: tl).any (lostB · b)
          · rw [h4, if_neg Bool.false_ne_true] at h
            rw [if_neg Bool.false_ne_true]; exact err_ne_out h
          · rw [if_pos rfl]
  · rw [if_neg h1]
theorem isB_nil : isB [] = true := by decide
theorem scale_res {es ls : List Nat} {b : Nat} (hw : Words64 es) (h0 : (scaleR es b).2 = 0) (hws : Words64 ls) (hm : ls.map fv = (scaleR es b).1) :
    ∃ Z, FzL (ls.map fv) Z ∧ isB ls = true ∧ (unL ls).sum * 2 ^ upl = (unL es).sum * Fp.un Ieee.double b := by
  obtain ⟨h1, h2, h3 | ⟨e, tl, rfl, h3, h4, h5, h6⟩⟩ := scaleR_zero h0
  · obtain ⟨h3, h4⟩ := h3
    rw [h3] at hm
    rw [fv_nil hm]
    refine ⟨[], trivial, isB_nil, ?_⟩
    show ([] : List Int).sum * _ = _
    rw [List.sum_nil, Int.zero_mul]
    rcases h4 with h4 | h4
    · rw [un_zero.2 h4, Int.mul_zero]
    · rw [h4]; show _ = ([] : List Int).sum * _; rw [List.sum_nil, Int.zero_mul]
  · obtain ⟨e1, e2⟩ := err_zero h5
    obtain ⟨Z, z1, z2, z3⟩ := scale_fz hw h1 (of_decide_eq_true h2) h3 h4 e1
    rw [h6] at hm
    have hm' : ls.map fv = (scaleSt (fv e) (tl.map fv) (fv b)).all := hm
    rw [← hm'] at z1 e2
    rw [List.length_map] at e2
    obtain ⟨r1, r2⟩ := isB_res hws z1 e2 z2
    exact ⟨Z, z1, r1, by rw [r2]; exact z3⟩
theorem scale_alike {es l1 l2 : List Nat} {b : Nat} (hw : Words64 es) (w1 : Words64 l1) (_w2 : Words64 l2) (h1 : l1.map fv = (scaleR es b).1) (h2 : l2.map fv = (scaleR es b).1) : l1 = l2 ∧ (∀ x ∈ l1, canonD x = x) ∧ l1.length ≤ 1152921504606846976 := by
  by_cases h0 : (scaleR es b).2 = 0
  · obtain ⟨Z, r1, r2, _⟩ := scale_res hw h0 w1 h1
    obtain ⟨r3, r4⟩ := fz_list_eq (l2 := l2) r1 (by rw [h1, h2])
    exact ⟨r3, r4, Nat.le_trans (isB_len r2) (by decide)⟩
  · rw [scaleR_none h0] at h1 h2
    rw [fv_nil h1, fv_nil h2]
    exact ⟨rfl, fun x hx => absurd hx (by simp), by decide⟩
/-! Compress -/
theorem unL_rev (es : List Nat) : unL es.reverse = (unL es).reverse := List.map_reverse ..
theorem unL_dwn {es : List Nat} (h0 : es.length ≠ 0) : (Fp.un Ieee.double (es.getD (es.length - 1) 0) :: unL (dwn es)).reverse = unL es := by
  conv => rhs; rw [last_split h0]
  unfold dwn
  rw [List.reverse_cons, ← unL_rev, List.reverse_reverse]
  unfold unL
  rw [List.map_append]; rfl
theorem compR_zero {es : List Nat} (h : (compR es).2 = 0) : isB es = true ∧ (es = [] ∧ compR es = ([], 0) ∨ es.length ≠ 0 ∧ (compSt es).err = 0 ∧ compR es = ((compSt es).all, 0)) := by
  unfold compR at h ⊢
  by_cases h1 : chkE es = 0
  · rw [if_pos h1] at h ⊢
    refine ⟨chkE_zero.1 h1, ?_⟩
    by_cases h2 : es.length = 0
    · rw [if_pos h2]; exact .inl ⟨List.eq_nil_of_length_eq_zero h2, rfl⟩
    · rw [if_neg h2] at h ⊢
      have h5 : (compSt es).err = 0 := h
      refine .inr ⟨h2, h5, ?_⟩
      unfold Lay.out
      rw [if_pos h5, h5]
  · rw [if_neg h1] at h; exact absurd h h1
theorem compR_none {es : List Nat} (h : (compR es).2 ≠ 0) : (compR es).1 = [] := by
  unfold compR at h ⊢
  by_cases h1 : chkE es = 0
  · rw [if_pos h1] at h ⊢
    by_cases h2 : es.length = 0
    · rw [if_pos h2]
    · rw [if_neg h2] at h ⊢; exact err_ne_out h
  · rw [if_neg h1]
theorem comp_fz {es : List Nat} (hw : Words64 es) (hE : isB es = true) (h0 : es.length ≠ 0) (ho : (compSt es).ov = false) :
    ∃ Z, FzL (compSt es).all Z ∧ Expn Z ∧ Z.sum = (unL es).sum ∧ ∃ (ini : List Int) (last : Int) (k : Nat), Z = ini ++ [last] ∧ last ≠ 0 ∧ RepZ last ∧ ((unL es).sum - last).natAbs < 2 ^ k ∧ Mu k last ∧ (k ≠ 0 → 4503599627370496 * 2 ^ k ≤ last.natAbs) := by
  obtain ⟨k1, k2, k3⟩ := isB_words hw hE
  have hlast : es.getD (es.length - 1) 0 ∈ es := by rw [List.getD, List.getElem?_eq_getElem (by omega)]; exact List.getElem_mem _
  have hq : Fz (fv (es.getD (es.length - 1) 0)) (Fp.un Ieee.double (es.getD (es.length - 1) 0)) := fz_of (mem_fin hw hE hlast)
  have hdm : ∀ x ∈ dwn es, x ∈ es := fun x hx => List.dropLast_subset _ (List.mem_reverse.1 hx)
  have hd : FzL ((dwn es).map fv) (unL (dwn es)) := fzL_words fun x hx => mem_fin hw hE (hdm x hx)
  have hrev := unL_dwn h0
  have hE2 : Expn (Fp.un Ieee.double (es.getD (es.length - 1) 0) :: unL (dwn es)).reverse := by rw [hrev]; exact k2
  have hR2 : ∀ x ∈ Fp.un Ieee.double (es.getD (es.length - 1) 0) :: unL (dwn es), RepZ x := fun x hx => k3 x (by rw [← hrev]; exact List.mem_reverse.2 hx)
  obtain ⟨c1, c2, c3, c4, c5, c6⟩ := comp_all hE2 hR2
  have hl := comp_link hq hd ho
  rw [c3, c4] at hl
  have hsum : (Fp.un Ieee.double (es.getD (es.length - 1) 0) :: unL (dwn es)).sum = (unL es).sum := by rw [← hrev, rev_sum]
  rw [hsum] at c5 c6
  exact ⟨_, hl, c1, c5, c6⟩
theorem comp_res {es ls : List Nat} (hw : Words64 es) (h0 : (compR es).2 = 0) (hws : Words64 ls) (hm : ls.map fv = (compR es).1) :
    FzL (ls.map fv) (unL ls) ∧ isB ls = true ∧ (unL ls).sum = (unL es).sum ∧ (ls.length = 0 ↔ es.length = 0) ∧ (es.length ≠ 0 → ∃ k : Nat, ((unL es).sum - Fp.un Ieee.double (ls.getD (ls.length - 1) 0)).natAbs < 2 ^ k ∧ Mu k (Fp.un Ieee.double (ls.getD (ls.length - 1) 0)) ∧ (k ≠ 0 → 4503599627370496 * 2 ^ k ≤ (Fp.un Ieee.double (ls.getD (ls.length - 1) 0)).natAbs)) := by
  obtain ⟨h1, ⟨rfl, h3⟩ | ⟨h2, h3, h4⟩⟩ := compR_zero h0
  · rw [h3] at hm
    rw [fv_nil hm]
    exact ⟨trivial, isB_nil, rfl, Iff.rfl, fun h => absurd rfl h⟩
  · obtain ⟨e1, e2⟩ := err_zero h3
    obtain ⟨Z, z1, z2, z3, ini, last, k, z4, z5, _, z7, z8, z9⟩ := comp_fz hw h1 h2 e1
    rw [h4] at hm
    have hm' : ls.map fv = (compSt es).all := hm
    rw [← hm'] at z1 e2
    rw [List.length_map] at e2
    obtain ⟨r1, r2⟩ := isB_res hws z1 e2 z2
    rw [← r2] at z1 z3 z4
    have hlen : ls.length ≠ 0 := by
      intro h
      have := congrArg List.length z4
      rw [unL_len, h, List.length_append] at this
      simp at this
    refine ⟨z1, r1, z3, ⟨fun h => absurd h hlen, fun h => absurd h h2⟩, fun _ => ⟨k, ?_⟩⟩
    have hl : Fp.un Ieee.double (ls.getD (ls.length - 1) 0) = last := by
      rw [← unL_at ls (show ls.length - 1 < ls.length by omega), ← unL_len ls, z4, List.getD, List.length_append, List.length_cons, List.length_nil, Nat.add_sub_cancel, List.getElem?_append_right (Nat.le_refl _), Nat.sub_self]
      rfl
    rw [hl]
    exact ⟨z7, z8, z9⟩
theorem comp_alike {es l1 l2 : List Nat} (hw : Words64 es) (w1 : Words64 l1) (_w2 : Words64 l2) (h1 : l1.map fv = (compR es).1) (h2 : l2.map fv = (compR es).1) : l1 = l2 ∧ (∀ x ∈ l1, canonD x = x) ∧ l1.length ≤ 1152921504606846976 := by
  by_cases h0 : (compR es).2 = 0
  · obtain ⟨r1, r2, _⟩ := comp_res hw h0 w1 h1
    obtain ⟨r3, r4⟩ := fz_list_eq (l2 := l2) r1 (by rw [h1, h2])
    exact ⟨r3, r4, Nat.le_trans (isB_len r2) (by decide)⟩
  · rw [compR_none h0] at h1 h2
    rw [fv_nil h1, fv_nil h2]
    exact ⟨rfl, fun x hx => absurd hx (by simp), by decide⟩
end Go.Proofs.YtjmaggfddinbkaaDoor
end

section
namespace Go.Proofs.YtjmaggfddinbkaaDoor
open Go.RowKit
theorem OwnF.lit0 (w : World) (base : Nat) (hb : base ≤ w.heap.size) : OwnF (w.alloc (.cells #[] 27)) base (.slice (some ⟨w.heap.size, 0, none⟩) 0 0) [] := by
  have h := World.ownsRow_lit (base := base) (e := 27) (size := 1) w #[] 0 hb (by decide) (by simp)
  unfold OwnF
  simpa [f64v] using h
set_option maxRecDepth 100000 in
set_option maxHeartbeats 600000 in
theorem eclone_any (A : Option Addr) (c : Nat) (l : List Nat) (hl : l.length * 8 ≤ 140737488355328) (w : World) (hr : SlAt w A (f64v l)) : Calls Tryd.prog 43 #[.slice A l.length c] w fun e w' => ∃ v, e = .returned v ∧ OwnF w' w.heap.size v l ∧ Within w w' := by
  rcases A with _ | ad
  · have h0 : l = [] := by
      rcases Nat.eq_zero_or_pos l.length with h | h
      · exact List.eq_nil_of_length_eq_zero h
      · obtain ⟨_, e, _⟩ := hr (by rw [f64v_len]; exact h); cases e
    subst h0
    clear hr
    have q : ∀ w : World, (binOp .eql 32 (.slice none 0 c) (.slice none 0 0)).run Tryd.prog w = .ok (.bool true) w := fun _ => by kernel_rfl
    go_enter Tryd.func43, Tryd.ntmps43
    go_wp2
    go_ret
    exact ⟨_, rfl, OwnF.nil_ _ _, Within.refl _⟩
  · have q : ∀ (n : Nat) (w : World), (binOp .eql 32 (.slice (some ad) n c) (.slice none 0 0)).run Tryd.prog w = .ok (.bool false) w := fun _ _ => by kernel_rfl
    have hin := (Within.refl w).alloc (.cells #[] 27)
    obtain ⟨v2, w2, hrun, hO2, hB2⟩ := run_app_f64 _ w.heap.size _ [] l (OwnF.lit0 w w.heap.size (Nat.le_refl _)) (some ad) c (hr.of hin) (by rw [List.length_nil]; omega) hin.size
    rw [List.nil_append] at hO2
    have hW2 : Within w w2 := Below.trans hin hB2
    have RUN := Lib.hid hrun; have HO := Lib.hid hO2; have HW := Lib.hid hW2; clear hrun hO2 hW2 hr hin hB2
    go_enter Tryd.func43, Tryd.ntmps43
    go_wp2_with (at_builtin; refine wpList_append_run rfl (.tmp 5) (.tmp 6) 32 rfl _ _ rfl rfl RUN.out ?_)
    go_ret
    exact ⟨_, rfl, HO.out, HW.out⟩
set_option maxRecDepth 100000 in
set_option maxHeartbeats 600000 in
theorem eAdd_bad1 (A B : Option Addr) (c d : Nat) (es fs : List Nat) (hw : Words64 es) (hwf : Words64 fs) (hl : es.length * 8 ≤ 140737488355328) (hlf : fs.length * 8 ≤ 140737488355328) (v : Int) (hv : chkE es = v) (h0 : (v != 0) = true) (w : World) (hT : Tab w) (hr : SlAt w A (f64v es)) (hrf : SlAt w B (f64v fs)) : Calls Tryd.prog 22 #[.slice A es.length c, .slice B fs.length d] w (ResF w [] v) := by
  have HWE := Lib.hid hw; have HWF := Lib.hid hwf; have HRE := Lib.hid hr; have HRF := Lib.hid hrf; clear hr hrf
  have HT := Lib.hid hT; clear hT
  have CE := Lib.hid (fun w hT hr => echeck_any A c es hw (by omega) w hT hr)
  rw [hv] at CE
  clear hv hw hwf
  go_enter Tryd.func22, Tryd.ntmps22
  go_wp2_with fail
  refine (CE.out _ HT.out HRE.out).mono ?_; rintro e1 w1 ⟨rfl, hb1⟩
  go_wp2
  go_ret2
  exact ResF.none_ v hb1
set_option maxRecDepth 100000 in
set_option maxHeartbeats 600000 in
theorem eAdd_bad2 (A B : Option Addr) (c d : Nat) (es fs : List Nat) (hw : Words64 es) (hwf : Words64 fs) (hl : es.length * 8 ≤ 140737488355328) (hlf : fs.length * 8 ≤ 140737488355328) (h1 : chkE es = 0) (v : Int) (hv : chkE fs = v) (h0 : (v != 0) = true) (w : World) (hT : Tab w) (hr : SlAt w A (f64v es)) (hrf : SlAt w B (f64v fs)) : Calls Tryd.prog 22 #[.slice A es.length c, .slice B fs.length d] w (ResF w [] v) := by
  have HWE := Lib.hid hw; have HWF := Lib.hid hwf; have HRE := Lib.hid hr; have HRF := Lib.hid hrf; clear hr hrf
  have HT := Lib.hid hT; clear hT
  have CE := Lib.hid (fun w hT hr => echeck_any A c es hw (by omega) w hT hr)
  have CF := Lib.hid (fun w hT hr => echeck_any B d fs hwf (by omega) w hT hr)
  rw [h1] at CE
  rw [hv] at CF
  clear hv h1 hw hwf
  go_enter Tryd.func22, Tryd.ntmps22
  go_wp2_with fail
  refine (CE.out _ HT.out HRE.out).mono ?_; rintro e1 w1 ⟨rfl, hb1⟩
  go_wp2_with fail
  refine (CF.out _ (HT.out.of hb1) (HRF.out.of hb1)).mono ?_; rintro e2 w2 ⟨rfl, hb2⟩
  go_wp2
  go_ret2
  exact ResF.none_ v (hb1.trans hb2)
set_option maxRecDepth 100000 in
set_option maxHeartbeats 2000000 in
theorem eAdd_main (A B : Option Addr) (c d : Nat) (es fs : List Nat) (hw : Words64 es) (hwf : Words64 fs) (hl : es.length * 8 ≤ 140737488355328) (hlf : fs.length * 8 ≤ 140737488355328) (h1 : chkE es = 0) (h2 : chkE fs = 0) (w : World) (hT : Tab w) (hr : SlAt w A (f64v es)) (hrf : SlAt w B (f64v fs)) : Calls Tryd.prog 22 #[.slice A es.length c, .slice B fs.length d] w (ResF w (addL es fs).1 (addL es fs).2) := by
  have HWE := Lib.hid hw; have HWF := Lib.hid hwf; have HRE := Lib.hid hr; have HRF := Lib.hid hrf; clear hr hrf
  have HT := Lib.hid hT; clear hT
  have CE := Lib.hid (fun w hT hr => echeck_any A c es hw (by omega) w hT hr)
  have CF := Lib.hid (fun w hT hr => echeck_any B d fs hwf (by omega) w hT hr)
  rw [h1] at CE
  rw [h2] at CF
  clear h1 h2 hw hwf
  go_enter Tryd.func22, Tryd.ntmps22
  go_wp2_with fail
  refine (CE.out _ HT.out HRE.out).mono ?_; rintro e1 w1 ⟨rfl, hb1⟩
  go_wp2_with fail
  refine (CF.out _ (HT.out.of hb1) (HRF.out.of hb1)).mono ?_; rintro e2 w2 ⟨rfl, hb2⟩
  have CC := Lib.hid (fun w hr => eclone_any A c es hl w hr)
  go_wp2_with fail
  refine (CC.out _ (HRE.out.of (hb1.trans hb2))).mono ?_; rintro e3 w3 ⟨v3, rfl, hO3, hb3⟩
  have hw3 := (hb1.trans hb2).trans hb3
  have hO3' := hO3.less (hb1.trans hb2).size
  obtain ⟨A3, c3, rfl, _, _, _⟩ := hO3'.form
  have HO3 := Lib.hid hO3'; clear hO3' hO3
  go_wp2
  go_loopw [8, 26] (fun sv iv wr => ∃ (k : Nat) (A' : Option Addr) (c' : Nat) (s : List Nat), k ≤ fs.length ∧ iv = .int .i64 (k : Int) ∧ sv = .slice A' s.length c' ∧ OwnF wr w.heap.size (.slice A' s.length c') s ∧ Words64 s ∧ s.length ≤ 1152921504606846976 ∧ addL es fs = addL s (fs.drop k) ∧ Within w wr) (fun _ iv _ => fs.length - (intOf iv).toNat)
  case atStart => exact ⟨0, A3, c3, es, Nat.zero_le _, rfl, rfl, HO3.out, HWE.out, by omega, rfl, hw3⟩
  case round =>
    obtain ⟨k, A', c', s, hk, rfl, rfl, hO, hws, hls, hadd, hin⟩ := hrel
    have HO := Lib.hid hO; have HWS := Lib.hid hws; have HLS := Lib.hid hls; have HADD := Lib.hid hadd; clear hO hws hls hadd
    by_cases hlt : k < fs.length
    · obtain ⟨ad, rfl, hblk, hc⟩ := (HRF.out.of hin).at hlt
      have hd : fs.drop k = fs.getD k 0 :: fs.drop (k + 1) := by rw [List.drop_eq_getElem_cons hlt, List.getD, List.getElem?_eq_getElem hlt]; rfl
      obtain ⟨x, hx⟩ : ∃ x, x = fs.getD k 0 := ⟨_, rfl⟩
      have hx64 : x < 18446744073709551616 := by rw [hx]; exact HWF.out.at hlt
      rw [← hx] at hc hd
      clear hx
      obtain ⟨A2, c2, he, _, hs2, _⟩ := HO.out.form
      obtain ⟨rfl, rfl⟩ : A' = A2 ∧ c' = c2 := by injection he with h1 _ h2; exact ⟨h1, h2⟩
      clear he
      have HS2 := Lib.hid hs2; clear hs2
      have GW := Lib.hid (eGrow_any A' c' s HWS.out HLS.out x hx64 _ (HT.out.of hin) HS2.out)
      have hsp : addL es fs = if growEr s x = 0 then addL (toW (growL s x)) (fs.drop (k + 1)) else ([], growEr s x) := by rw [HADD.out, hd]; rfl
      by_cases h0 : growEr s x = 0
      · rw [if_pos h0] at hsp
        have GR := Lib.hid (fun ls hls hm => grow_res (ls := ls) HWS.out h0 hls hm)
        rw [h0] at GW
        have HSP := Lib.hid hsp; clear hsp h0 hd hx64
        go_wp2_with fail
        refine GW.out.mono ?_; rintro e4 w4 ⟨sv, ls, rfl, hO4, hws4, hm4, hb4⟩
        obtain ⟨r1, r2, _⟩ := GR.out ls hws4 hm4
        rw [← r1] at HSP
        have hl4 : ls.length ≤ 1152921504606846976 := Nat.le_trans (isB_len r2) (by decide)
        have hO5 := hO4.less hin.size
        obtain ⟨A5, c5, rfl, _, _, _⟩ := hO5.form
        have HO5 := Lib.hid hO5; have HW4 := Lib.hid hws4; have HL4 := Lib.hid hl4; have HIN := Lib.hid (hin.trans hb4); clear hO4 hO5 hws4 hm4 hl4 r1 r2 hin hb4
        go_wp2
        go_roundw
        case rel => exact ⟨k + 1, A5, c5, ls, hlt, by go_num, rfl, HO5.out, HW4.out, HL4.out, HSP.out, HIN.out⟩
        case measure => simp [intOf]; omega
      · rw [if_neg h0] at hsp
        obtain ⟨er, her⟩ : ∃ er, er = growEr s x := ⟨_, rfl⟩
        rw [← her] at GW hsp h0
        have hne : (er != 0) = true := by simpa using h0
        have HSP := Lib.hid hsp; clear hsp h0 hd hx64 her
        go_wp2_with fail
        refine GW.out.mono ?_; rintro e4 w4 ⟨sv, ls, rfl, hO4, hws4, hm4, hb4⟩
        have HIN := Lib.hid (hin.trans hb4); clear hO4 hws4 hm4 hin hb4
        go_wp2
        go_ret2
        rw [HSP.out]
        exact ResF.none_ er HIN.out
    · obtain rfl : k = fs.length := by omega
      have hend : addL es fs = (s.map fv, 0) := by rw [HADD.out, List.drop_length]; rfl
      have HE := Lib.hid hend; clear hend
      go_wp2
      go_ret2
      rw [HE.out]
      exact ⟨_, s, rfl, HO.out, HWS.out, rfl, hin⟩
theorem eAdd_any (A B : Option Addr) (c d : Nat) (es fs : List Nat) (hw : Words64 es) (hwf : Words64 fs) (hl : es.length * 8 ≤ 140737488355328) (hlf : fs.length * 8 ≤ 140737488355328) (w : World) (hT : Tab w) (hr : SlAt w A (f64v es)) (hrf : SlAt w B (f64v fs)) : Calls Tryd.prog 22 #[.slice A es.length c, .slice B fs.length d] w (ResF w (addR es fs).1 (addR es fs).2) := by
  unfold addR
  by_cases h1 : chkE es = 0
  · rw [if_pos h1]
    by_cases h2 : chkE fs = 0
    · rw [if_pos h2]; exact eAdd_main A B c d es fs hw hwf hl hlf h1 h2 w hT hr hrf
    · rw [if_neg h2]; exact eAdd_bad2 A B c d es fs hw hwf hl hlf h1 _ rfl (by simpa using h2) w hT hr hrf
  · rw [if_neg h1]; exact eAdd_bad1 A B c d es fs hw hwf hl hlf _ rfl (by simpa using h1) w hT hr hrf
end Go.Proofs.YtjmaggfddinbkaaDoor
end

section
namespace Go.Proofs.YtjmaggfddinbkaaDoor
open Go.RowKit
set_option maxRecDepth 100000 in
set_option maxHeartbeats 600000 in
theorem elost_any (a b : Nat) (ha : a < 18446744073709551616) (hb : b < 18446744073709551616) (fa : a % 9223372036854775808 < 9218868437227405312) (fb : b % 9223372036854775808 < 9218868437227405312) (na : a % 9223372036854775808 ≠ 0) (nb : b % 9223372036854775808 ≠ 0) (w : World) (hT : Tab w) : Calls Tryd.prog 44 #[.float .f64 a, .float .f64 b] w fun e w' => e = .returned (.bool (lostB a b)) ∧ Within w w' := by
  have CA := Lib.hid (fun w hT => Parts_D a ha w hT)
  have CB := Lib.hid (fun w hT => Parts_D b hb w hT)
  obtain ⟨m, hm⟩ := pMant_odd fa (fun h => na (un_zero.1 h))
  obtain ⟨n, hn⟩ := pMant_odd fb (fun h => nb (un_zero.1 h))
  have r1 := P64.pExpD_range a; have r2 := P64.pExpD_range b
  have z1 : ((pMantD a : Int) != 0) = true := by rw [bne_iff_ne]; omega
  have z2 : ((pMantD b : Int) != 0) = true := by rw [bne_iff_ne]; omega
  have hs : IntKind.i64.wrap (pExpD a + pExpD b) = pExpD a + pExpD b := IntWalk.i64_in _ ⟨by omega, by omega⟩
  unfold lostB
  obtain ⟨M, hM⟩ : ∃ M, M = pMantD a := ⟨_, rfl⟩
  obtain ⟨N, hN⟩ : ∃ N, N = pMantD b := ⟨_, rfl⟩
  obtain ⟨p, hp⟩ : ∃ p, p = pExpD a := ⟨_, rfl⟩
  obtain ⟨q, hq⟩ : ∃ q, q = pExpD b := ⟨_, rfl⟩
  rw [← hM, ← hp] at CA
  rw [← hN, ← hq] at CB
  rw [← hM] at z1
  rw [← hN] at z2
  rw [← hp, ← hq] at hs ⊢
  have HT := Lib.hid hT; clear hT ha hb fa fb na nb hm hn r1 r2 hM hN hp hq
  go_enter Tryd.func44, Tryd.ntmps44
  go_wp2_with fail
  refine (CA.out _ (HT.out.of (by repeat (first | with_reducible exact Within.refl _ | with_reducible assumption | with_reducible refine arW_within ?_ _ _ _ | with_reducible refine Within.alloc ?_ _ | with_reducible refine Within.drew ?_ | with_reducible refine Within.trans ?_ (by assumption))))).mono ?_; rintro e1 w1 ⟨rfl, hb1⟩
  go_wp2_with fail
  refine (CB.out _ (HT.out.of (by repeat (first | with_reducible exact Within.refl _ | with_reducible assumption | with_reducible refine arW_within ?_ _ _ _ | with_reducible refine Within.alloc ?_ _ | with_reducible refine Within.drew ?_ | with_reducible refine Within.trans ?_ (by assumption))))).mono ?_; rintro e2 w2 ⟨rfl, hb2⟩
  have hA : Within (w1.alloc (.cells #[.bool (pNegD a), .int .u64 (M : Int), .int .i64 p] 62)) w2 := hb2
  have k1 : w2.cell? ⟨w1.heap.size, 1, none⟩ = some (.int .u64 (M : Int)) := (hA.cells _ _ (by simp)).trans (by go_simp)
  have k2 : w2.cell? ⟨w1.heap.size, 2, none⟩ = some (.int .i64 p) := (hA.cells _ _ (by simp)).trans (by go_simp)
  have kl : w1.heap.size < w2.heap.size := World.block_lt_of_cell? _ _ k1
  go_wp2
  go_ret
  exact ⟨rfl, (by repeat (first | with_reducible exact Within.refl _ | with_reducible assumption | with_reducible refine arW_within ?_ _ _ _ | with_reducible refine Within.alloc ?_ _ | with_reducible refine Within.drew ?_ | with_reducible refine Within.trans ?_ (by assumption)))⟩
theorem head_tail {es : List Nat} (h : es.length ≠ 0) : es = es.getD 0 0 :: es.tail := by
  cases es with
  | nil => exact absurd rfl h
  | cons x l => rfl
set_option maxRecDepth 100000 in
set_option maxHeartbeats 600000 in
theorem eScale_bad (A : Option Addr) (c : Nat) (es : List Nat) (hw : Words64 es) (hl : es.length ≤ 1152921504606846976) (b : Nat) (hb : b < 18446744073709551616) (v : Int) (hv : chkE es = v) (h0 : (v != 0) = true) (w : World) (hT : Tab w) (hr : SlAt w A (f64v es)) : Calls Tryd.prog 23 #[.slice A es.length c, .float .f64 b] w (ResF w [] v) := by
  have HW := Lib.hid hw; have HB := Lib.hid hb; have HR := Lib.hid hr; clear hr hb
  have HT := Lib.hid hT; clear hT
  have CE := Lib.hid (fun w hT hr => echeck_any A c es hw hl w hT hr)
  rw [hv] at CE
  clear hv hw
  go_enter Tryd.func23, Tryd.ntmps23
  go_wp2_with fail
  refine (CE.out _ HT.out HR.out).mono ?_; rintro e1 w1 ⟨rfl, hb1⟩
  go_wp2
  go_ret2
  exact ResF.none_ v hb1
set_option maxRecDepth 100000 in
set_option maxHeartbeats 600000 in
theorem eScale_num (A : Option Addr) (c : Nat) (es : List Nat) (hw : Words64 es) (hl : es.length ≤ 1152921504606846976) (b : Nat) (hb : b < 18446744073709551616) (h1 : chkE es = 0) (h2 : finW b = false) (w : World) (hT : Tab w) (hr : SlAt w A (f64v es)) : Calls Tryd.prog 23 #[.slice A es.length c, .float .f64 b] w (ResF w [] 4) := by
  have hb' := hb
  have HW := Lib.hid hw; have HB := Lib.hid hb; have HR := Lib.hid hr; clear hr hb
  have HT := Lib.hid hT; clear hT
  have CE := Lib.hid (fun w hT hr => echeck_any A c es hw hl w hT hr)
  have CN : Hid (∀ w, Calls Tryd.prog 31 #[.float .f64 b] w fun e w' => e = .returned (.bool (finW b)) ∧ Within w w') := Lib.hid (fun w => efinite_any b w)
  rw [h1] at CE
  rw [h2] at CN
  clear h1 h2 hw hb'
  go_enter Tryd.func23, Tryd.ntmps23
  go_wp2_with fail
  refine (CE.out _ HT.out HR.out).mono ?_; rintro e1 w1 ⟨rfl, hb1⟩
  go_wp2_with fail
  refine (CN.out _).mono ?_; rintro e2 w2 ⟨rfl, hb2⟩
  go_wp2
  go_ret2
  exact ResF.none_ 4 (by repeat (first | with_reducible exact Within.refl _ | with_reducible assumption | with_reducible refine arW_within ?_ _ _ _ | with_reducible refine Within.alloc ?_ _ | with_reducible refine Within.drew ?_ | with_reducible refine Within.trans ?_ (by assumption)))
set_option maxRecDepth 100000 in
set_option maxHeartbeats 600000 in
theorem eScale_nil (A : Option Addr) (c : Nat) (es : List Nat) (hw : Words64 es) (hl : es.length ≤ 1152921504606846976) (b : Nat) (hb : b < 18446744073709551616) (h1 : chkE es = 0) (h2 : finW b = true) (z : Bool) (hz : (FloatKind.f64.format.order b 0 == some .eq) = z) (h3 : z = true ∨ es.length = 0) (w : World) (hT : Tab w) (hr : SlAt w A (f64v es)) : Calls Tryd.prog 23 #[.slice A es.length c, .float .f64 b] w (ResF w [] 0) := by
  have hb' := hb
  have HW := Lib.hid hw; have HB := Lib.hid hb; have HR := Lib.hid hr; clear hr hb
  have HT := Lib.hid hT; clear hT
  have CE := Lib.hid (fun w hT hr => echeck_any A c es hw hl w hT hr)
  have CN : Hid (∀ w, Calls Tryd.prog 31 #[.float .f64 b] w fun e w' => e = .returned (.bool (finW b)) ∧ Within w w') := Lib.hid (fun w => efinite_any b w)
  rw [h1] at CE
  rw [h2] at CN
  clear h1 h2 hw hb'
  cases z with
  | true =>
    clear h3
    go_enter Tryd.func23, Tryd.ntmps23
    go_wp2_with fail
    refine (CE.out _ HT.out HR.out).mono ?_; rintro e1 w1 ⟨rfl, hb1⟩
    go_wp2_with fail
    refine (CN.out _).mono ?_; rintro e2 w2 ⟨rfl, hb2⟩
    go_wp2
    go_ret2
    exact ResF.none_ 0 (by repeat (first | with_reducible exact Within.refl _ | with_reducible assumption | with_reducible refine arW_within ?_ _ _ _ | with_reducible refine Within.alloc ?_ _ | with_reducible refine Within.drew ?_ | with_reducible refine Within.trans ?_ (by assumption)))
  | false =>
    obtain h3 : es.length = 0 := by rcases h3 with h | h; exact absurd h (by decide); exact h
    have g1 : ((es.length : Int) == 0) = true := by rw [h3]; rfl
    clear h3
    go_enter Tryd.func23, Tryd.ntmps23
    go_wp2_with fail
    refine (CE.out _ HT.out HR.out).mono ?_; rintro e1 w1 ⟨rfl, hb1⟩
    go_wp2_with fail
    refine (CN.out _).mono ?_; rintro e2 w2 ⟨rfl, hb2⟩
    go_wp2
    go_ret2
    exact ResF.none_ 0 (by repeat (first | with_reducible exact Within.refl _ | with_reducible assumption | with_reducible refine arW_within ?_ _ _ _ | with_reducible refine Within.alloc ?_ _ | with_reducible refine Within.drew ?_ | with_reducible refine Within.trans ?_ (by assumption)))
set_option maxRecDepth 100000 in
set_option maxHeartbeats 2000000 in
theorem eScale_main (A : Option Addr) (c : Nat) (es : List Nat) (hw : Words64 es) (hl : es.length ≤ 1152921504606846976) (b : Nat) (hb : b < 18446744073709551616) (h1 : chkE es = 0) (h2 : finW b = true) (nb : b % 9223372036854775808 ≠ 0) (h0 : es.length ≠ 0) (R : List (Option Nat)) (er : Int) (hbad : (¬ ∀ j, j < es.length → lostB (es.getD j 0) b = false) → R = [] ∧ er = 41) (hyes : (∀ j, j < es.length → lostB (es.getD j 0) b = false) → R = (scaleSt (fv (es.getD 0 0)) (es.tail.map fv) (fv b)).out ∧ er = (scaleSt (fv (es.getD 0 0)) (es.tail.map fv) (fv b)).err) (w : World) (hT : Tab w) (hr : SlAt w A (f64v es)) : Calls Tryd.prog 23 #[.slice A es.length c, .float .f64 b] w (ResF w R er) := by
  have hb' := hb
  have HW := Lib.hid hw; have HB := Lib.hid hb; have HR := Lib.hid hr; clear hr hb
  have HT := Lib.hid hT; clear hT
  have CE := Lib.hid (fun w hT hr => echeck_any A c es hw hl w hT hr)
  have CN : Hid (∀ w, Calls Tryd.prog 31 #[.float .f64 b] w fun e w' => e = .returned (.bool (finW b)) ∧ Within w w') := Lib.hid (fun w => efinite_any b w)
  have FIN := Lib.hid (show ∀ k, k < es.length → es.getD k 0 % 9223372036854775808 < 9218868437227405312 ∧ es.getD k 0 % 9223372036854775808 ≠ 0 from fun k hk => by
    have hm : es.getD k 0 ∈ es := by rw [List.getD, List.getElem?_eq_getElem hk]; exact List.getElem_mem hk
    refine ⟨isB_fins hw (chkE_zero.1 h1) _ hm, fun h0 => ?_⟩
    have hok := chkE_zero.1 h1
    unfold isB at hok
    rw [Bool.and_eq_true, List.all_eq_true] at hok
    have := hok.2 k (List.mem_range.2 hk)
    unfold okAt at this
    rw [Bool.and_eq_true, decide_eq_true_iff] at this
    exact this.1 h0)
  have FB := Lib.hid h2; have NB := Lib.hid nb
  have hz : (FloatKind.f64.format.order b 0 == some .eq) = false := by rw [c_zero, decide_eq_false nb]
  have L64 := Lib.hid (chk_len h1)
  have g1 : ((es.length : Int) == 0) = false := by rw [beq_eq_false_iff_ne]; omega
  have RESY := Lib.hid hyes
  have RESB : Hid ((¬ ∀ j, j < es.length → lostB (es.getD j 0) b = false) → ∀ w', Within w w' → ResF w R er (.returned (.tuple #[.slice none 0 0, .int .i64 41])) w') := Lib.hid (fun h w' k => by obtain ⟨rfl, rfl⟩ := hbad h; exact ResF.none_ 41 k)
  rw [h1] at CE
  rw [h2] at CN
  clear h1 h2 hw hb' nb hbad hyes
  go_enter Tryd.func23, Tryd.ntmps23
  go_wp2_with fail
  refine (CE.out _ HT.out HR.out).mono ?_; rintro e1 w1 ⟨rfl, hb1⟩
  go_wp2_with fail
  refine (CN.out _).mono ?_; rintro e2 w2 ⟨rfl, hb2⟩
  go_wp2
  go_loopw [31] (fun iv wr => ∃ k : Nat, k ≤ es.length ∧ iv = .int .i64 (k : Int) ∧ (∀ j, j < k → lostB (es.getD j 0) b = false) ∧ Within w wr) (fun iv _ => es.length - (intOf iv).toNat)
  case atStart => exact ⟨0, Nat.zero_le _, rfl, fun j hj => absurd hj (Nat.not_lt_zero _), (by repeat (first | with_reducible exact Within.refl _ | with_reducible assumption | with_reducible refine arW_within ?_ _ _ _ | with_reducible refine Within.alloc ?_ _ | with_reducible refine Within.drew ?_ | with_reducible refine Within.trans ?_ (by assumption)))⟩
  case round =>
    obtain ⟨k, hk, rfl, hno, hin⟩ := hrel
    have HNO := Lib.hid hno; clear hno
    by_cases hlt : k < es.length
    · obtain ⟨ad, rfl, hblk, hc⟩ := (HR.out.of hin).at hlt
      have hx64 := HW.out.at hlt
      obtain ⟨fx, nx⟩ := FIN.out k hlt
      obtain ⟨x, hx⟩ : ∃ x, x = es.getD k 0 := ⟨_, rfl⟩
      rw [← hx] at hc fx nx hx64
      have LO := Lib.hid (fun w hT => elost_any x b hx64 HB.out fx (of_decide_eq_true FB.out) nx NB.out w hT)
      cases hlo : lostB x b
      · rw [hlo] at LO
        have HNO2 := Lib.hid (show ∀ j, j < k + 1 → lostB (es.getD j 0) b = false by
          intro j hj
          by_cases h : j < k
          · exact HNO.out j h
          · obtain rfl : j = k := by omega
            rw [← hx]; exact hlo)
        clear hx fx nx hx64 hlo
        go_wp2_with fail
        refine (LO.out _ (HT.out.of (by repeat (first | with_reducible exact Within.refl _ | with_reducible assumption | with_reducible refine arW_within ?_ _ _ _ | with_reducible refine Within.alloc ?_ _ | with_reducible refine Within.drew ?_ | with_reducible refine Within.trans ?_ (by assumption))))).mono ?_; rintro e4 w4 ⟨rfl, hb4⟩
        have HIN := Lib.hid (show Within w w4 from (by repeat (first | with_reducible exact Within.refl _ | with_reducible assumption | with_reducible refine arW_within ?_ _ _ _ | with_reducible refine Within.alloc ?_ _ | with_reducible refine Within.drew ?_ | with_reducible refine Within.trans ?_ (by assumption))))
        clear hin
        go_wp2
        go_roundw
        case rel => exact ⟨k + 1, hlt, by go_num, HNO2.out, HIN.out⟩
        case measure => simp [intOf]; omega
      · rw [hlo] at LO
        have HLO := Lib.hid (show ¬ ∀ j, j < es.length → lostB (es.getD j 0) b = false from fun h => by have := h k hlt; rw [← hx, hlo] at this; cases this)
        clear hx fx nx hx64 hlo
        go_wp2_with fail
        refine (LO.out _ (HT.out.of (by repeat (first | with_reducible exact Within.refl _ | with_reducible assumption | with_reducible refine arW_within ?_ _ _ _ | with_reducible refine Within.alloc ?_ _ | with_reducible refine Within.drew ?_ | with_reducible refine Within.trans ?_ (by assumption))))).mono ?_; rintro e4 w4 ⟨rfl, hb4⟩
        go_wp2
        go_ret2
        exact (RESB.out HLO.out _ (by repeat (first | with_reducible exact Within.refl _ | with_reducible assumption | with_reducible refine arW_within ?_ _ _ _ | with_reducible refine Within.alloc ?_ _ | with_reducible refine Within.drew ?_ | with_reducible refine Within.trans ?_ (by assumption))))
    · obtain rfl : k = es.length := by omega
      rename World => wb
      obtain ⟨ad, hA, hblk, hc⟩ := (HR.out.of hin).at (k := 0) (by omega)
      obtain ⟨x0, hx0⟩ : ∃ x0, x0 = es.getD 0 0 := ⟨_, rfl⟩
      have x064 : x0 < 18446744073709551616 := by rw [hx0]; exact HW.out.at (by omega)
      rw [← hx0] at hc
      have YES := Lib.hid (RESY.out HNO.out)
      obtain ⟨tl, htl⟩ : ∃ tl, tl = es.tail := ⟨_, rfl⟩
      have hes : es = x0 :: tl := by rw [hx0, htl]; exact head_tail h0
      have HES := Lib.hid hes
      have htlen : tl.length + 1 = es.length := by rw [hes]; rfl
      rw [← hx0, ← htl] at YES
      clear hes htl hx0
      subst hA
      have hc0 : wb.cell? ad = some (.float .f64 x0) := by have := hc; rwa [add_nought] at this
      clear hc
      have PW := Lib.hid (fun w => eprod_any x0 b x064 HB.out w)
      have HX0 := Lib.hid x064; clear x064
      have HRw := Lib.hid (HR.out.of hin)
      have HINW := Lib.hid hin; clear hin
      have LAY0 := LayP.made wb 72
      go_wp2_with fail
      refine (PW.out _).mono ?_; rintro e5 w5 ⟨T0, t0, rfl, hT0, ht0, vT0, vt0, hb5⟩
      have L1 := Lib.hid (LAY0.of hb5)
      have HT0 := Lib.hid hT0; have Ht0 := Lib.hid ht0; have VT0 := Lib.hid vT0; have Vt0 := Lib.hid vt0; clear hT0 ht0 vT0 vt0 LAY0
      go_wp2_with fail
      refine (see_any _ T0 t0 _ _ _ L1.out).mono ?_; rintro e6 w6 ⟨rfl, hL6, hb6⟩
      have L2 := Lib.hid hL6; clear hL6
      go_wp2_with fail
      refine (elay_any _ t0 _ _ Ht0.out (by decide) _ L2.out).mono ?_; rintro e7 w7 ⟨rfl, hL7, hb7⟩
      have hin7 : Within wb w7 := below_within (below_within (((Within.refl wb).alloc _).trans hb5) hb6 (Nat.le_refl _)) hb7 (Nat.le_refl _)
      have L3 : Hid (LayP w7 wb.heap.size (ss x0 tl b 0).l (ss x0 tl b 0).ov) := Lib.hid (by
        rw [ss_zero]
        unfold scale0
        have h := hL7
        rw [Vt0.out] at h
        have e1 := finV_fv T0; rw [VT0.out] at e1
        have e2 := finV_fv t0; rw [Vt0.out] at e2
        rw [e1, e2]
        exact h)
      have VQ0 : Hid (fv T0 = (ss x0 tl b 0).q) := Lib.hid (by rw [VT0.out, ss_zero]; rfl)
      clear hL7 hb5 hb6 hb7 VT0 Vt0
      have HIN7 := Lib.hid hin7; clear hin7
      go_wp2
      go_loopw [9, 11] (fun qv iv wq => ∃ m q : Nat, 1 ≤ m ∧ m ≤ es.length ∧ iv = .int .i64 (m : Int) ∧ qv = .float .f64 q ∧ q < 18446744073709551616 ∧ fv q = (ss x0 tl b (m - 1)).q ∧ LayP wq wb.heap.size (ss x0 tl b (m - 1)).l (ss x0 tl b (m - 1)).ov ∧ Within wb wq) (fun _ iv _ => es.length - (intOf iv).toNat)
      case atStart => exact ⟨1, T0, Nat.le_refl _, by omega, rfl, rfl, HT0.out, VQ0.out, L3.out, HIN7.out⟩
      case round =>
        obtain ⟨m, q, hm1, hm, rfl, rfl, hq, vq, hL, hin⟩ := hrel
        have HQ := Lib.hid hq; have VQ := Lib.hid vq; have LL := Lib.hid hL; clear hq vq hL
        by_cases hlt : m < es.length
        · obtain ⟨ad', hA', hblk', hc⟩ := (HRw.out.of hin).at hlt
          obtain rfl : ad = ad' := by injection hA'
          obtain ⟨k, hk⟩ : ∃ k, k + 1 = m := ⟨m - 1, by omega⟩
          have hx64 := HW.out.at hlt
          have hx0' : es.getD m 0 = tl.getD k 0 := by rw [HES.out, ← hk]; rfl
          obtain ⟨x, hx⟩ : ∃ x, x = es.getD m 0 := ⟨_, rfl⟩
          rw [← hx] at hc hx64 hx0'
          have hnext := ss_succ x0 tl b (k := k) (by omega)
          rw [← hx0'] at hnext
          have hk2 : m - 1 = k := by omega
          rw [hk2] at VQ LL
          have hlen := ss_len x0 tl b k (by omega)
          have HX := Lib.hid hx64; have HN := Lib.hid hnext; have HK := Lib.hid hk; clear hx64 hnext hx0' hx hk2 hk hA' hblk'
          have hl2 : (ss x0 tl b k).l.length ≤ 1000 := by have := L64.out; have := HK.out; omega
          have HLEN := Lib.hid hl2; clear hl2 hlen
          have PX := Lib.hid (fun w => eprod_any x b HX.out HB.out w)
          have HIN := Lib.hid hin; clear hin
          go_wp2_with fail
          refine (PX.out _).mono ?_; rintro f1 v1 ⟨T, t, rfl, hT1, ht1, vT, vt, jb1⟩
          have HT1 := Lib.hid hT1; have Ht1 := Lib.hid ht1; have VT := Lib.hid vT; have Vt := Lib.hid vt; clear hT1 ht1 vT vt
          have M1 := Lib.hid (LL.out.of jb1)
          go_wp2_with fail
          refine (see_any _ T t _ _ _ M1.out).mono ?_; rintro f2 v2 ⟨rfl, hM2, jb2⟩
          have M2 := Lib.hid hM2; clear hM2
          have HIN2 := Lib.hid (below_within (HIN.out.trans jb1) jb2 (Nat.le_refl _)); clear jb1 jb2
          have TX := Lib.hid (fun w => etwo_any q t HQ.out Ht1.out w)
          go_wp2_with fail
          refine (TX.out _).mono ?_; rintro f3 v3 ⟨U, h, rfl, hU1, hh1, vU, vh, jb3⟩
          have HU1 := Lib.hid hU1; have Hh1 := Lib.hid hh1; have VU := Lib.hid vU; have Vh := Lib.hid vh; clear hU1 hh1 vU vh
          have M3 := Lib.hid (M2.out.of jb3)
          go_wp2_with fail
          refine (see_any _ U h _ _ _ M3.out).mono ?_; rintro f4 v4 ⟨rfl, hM4, jb4⟩
          have M4 := Lib.hid hM4; clear hM4
          have HIN4 := Lib.hid (below_within (HIN2.out.trans jb3) jb4 (Nat.le_refl _)); clear jb3 jb4
          go_wp2_with fail
          refine (elay_any _ h _ _ Hh1.out (Nat.le_trans HLEN.out (by decide)) _ M4.out).mono ?_; rintro f5 v5 ⟨rfl, hM5, jb5⟩
          have M5 := Lib.hid hM5; clear hM5
          have HIN5 := Lib.hid (below_within HIN4.out jb5 (Nat.le_refl _)); clear jb5
          have QX := Lib.hid (fun w => equick_any T U HT1.out HU1.out w)
          go_wp2_with fail
          refine (QX.out _).mono ?_; rintro f6 v6 ⟨Q, g, rfl, hQ1, hg1, vQ, vg, jb6⟩
          have HQ1 := Lib.hid hQ1; have Hg1 := Lib.hid hg1; have VQ1 := Lib.hid vQ; have Vg := Lib.hid vg; clear hQ1 hg1 vQ vg
          have M6 := Lib.hid (M5.out.of jb6)
          go_wp2_with fail
          refine (see_any _ Q g _ _ _ M6.out).mono ?_; rintro f7 v7 ⟨rfl, hM7, jb7⟩
          have M7 := Lib.hid hM7; clear hM7
          have HIN7' := Lib.hid (below_within (HIN5.out.trans jb6) jb7 (Nat.le_refl _)); clear jb6 jb7
          go_wp2_with fail
          refine (elay_any _ g _ _ Hg1.out (Nat.le_trans (layV_len _ _) (Nat.le_trans (Nat.succ_le_succ HLEN.out) (by decide))) _ M7.out).mono ?_; rintro f8 v8 ⟨rfl, hM8, jb8⟩
          have M8 := Lib.hid hM8; clear hM8
          have HIN8 := Lib.hid (below_within HIN7'.out jb8 (Nat.le_refl _)); clear jb8
          go_wp2
          go_roundw
          case rel =>
            refine ⟨m + 1, Q, by omega, hlt, by go_num, rfl, HQ1.out, ?_, ?_, HIN8.out⟩
            · rw [Nat.add_sub_cancel, ← HK.out, HN.out, VQ1.out, VT.out, VU.out, VQ.out, Vt.out]; rfl
            · rw [Nat.add_sub_cancel, ← HK.out, HN.out]
              have hM := M8.out
              have e1 := finV_fv T; have e2 := finV_fv t; have e3 := finV_fv U; have e4 := finV_fv h; have e5 := finV_fv Q; have e6 := finV_fv g
              rw [← e1, ← e2, ← e3, ← e4, ← e5, ← e6] at hM
              simp only [Vg.out, Vh.out, VQ1.out, VT.out, VU.out, VQ.out, Vt.out] at hM
              exact hM
          case measure => simp [intOf]; omega
        · obtain rfl : m = es.length := by omega
          have e1 : es.length - 1 = tl.length := by omega
          rw [e1, ss_all] at VQ LL
          have YB := YES.out
          obtain ⟨z, hz2⟩ : ∃ z, z = scaleSt (fv x0) (tl.map fv) (fv b) := ⟨_, rfl⟩
          rw [← hz2] at VQ LL YB
          have hlen : z.l.length ≤ 1000 := by have := ss_len x0 tl b tl.length (Nat.le_refl _); rw [ss_all, ← hz2] at this; have := L64.out; omega
          have HLEN := Lib.hid hlen; have YB2 := Lib.hid YB; clear hlen YB YES hz2 e1
          have HIN := Lib.hid hin; clear hin
          go_wp2_with fail
          refine (elay_any _ q _ _ HQ.out (Nat.le_trans HLEN.out (by decide)) _ LL.out).mono ?_; rintro f1 v1 ⟨rfl, hL1, jb1⟩
          rw [VQ.out] at hL1
          have HIN1 := Lib.hid (below_within HIN.out jb1 (Nat.le_refl _)); have L1 := Lib.hid hL1; clear hL1 jb1
          go_wp2_with fail
          refine (eend_any _ _ _ _ L1.out).mono ?_; rintro f2 v2 ⟨⟨sv, ls, rfl, hown, hw', hm2⟩, rfl⟩
          have HO := Lib.hid hown; have HM := Lib.hid hm2; have HWW := Lib.hid hw'; clear hown hm2 hw'
          go_wp2
          go_ret2
          obtain ⟨rfl, rfl⟩ := YB2.out
          exact ⟨_, ls, rfl, HO.out.less (Nat.le_trans HINW.out.size (Nat.le_succ _)), HWW.out, HM.out, HINW.out.trans HIN1.out⟩
theorem lost_all {es : List Nat} {b : Nat} : es.any (lostB · b) = false ↔ ∀ j, j < es.length → lostB (es.getD j 0) b = false := by
  rw [List.any_eq_false]
  constructor
  · intro h j hj
    have hm : es.getD j 0 ∈ es := by rw [List.getD, List.getElem?_eq_getElem hj]; exact List.getElem_mem hj
    simpa using h _ hm
  · intro h x hx
    obtain ⟨j, hj, rfl⟩ := List.getElem_of_mem hx
    have := h j hj
    rw [List.getD, List.getElem?_eq_getElem hj] at this
    simpa using this
theorem scaleR_nil {es : List Nat} {b : Nat} (h1 : chkE es = 0) (h2 : finW b = true) (h : b % 9223372036854775808 = 0 ∨ es.length = 0) : scaleR es b = ([], 0) := by
  unfold scaleR
  rw [if_pos h1, if_pos h2]
  rcases h with h | h
  · rw [if_pos h]
  · split
    · rfl
    · rw [List.eq_nil_of_length_eq_zero h]
theorem scaleR_cons {es : List Nat} {b : Nat} (h1 : chkE es = 0) (h2 : finW b = true) (nb : b % 9223372036854775808 ≠ 0) (h0 : es.length ≠ 0) :
    scaleR es b = if es.any (lostB · b) then ([], 41) else ((scaleSt (fv (es.getD 0 0)) (es.tail.map fv) (fv b)).out, (scaleSt (fv (es.getD 0 0)) (es.tail.map fv) (fv b)).err) := by
  unfold scaleR
  rw [if_pos h1, if_pos h2, if_neg nb]
  cases es with
  | nil => exact absurd rfl h0
  | cons e tl => rfl
theorem eScale_any (A : Option Addr) (c : Nat) (es : List Nat) (hw : Words64 es) (hl : es.length ≤ 1152921504606846976) (b : Nat) (hb : b < 18446744073709551616) (w : World) (hT : Tab w) (hr : SlAt w A (f64v es)) : Calls Tryd.prog 23 #[.slice A es.length c, .float .f64 b] w (ResF w (scaleR es b).1 (scaleR es b).2) := by
  by_cases h1 : chkE es = 0
  · cases h2 : finW b
    · have e : scaleR es b = ([], 4) := by unfold scaleR; rw [if_pos h1, h2]; rfl
      rw [e]; exact eScale_num A c es hw hl b hb h1 h2 w hT hr
    · by_cases h3 : b % 9223372036854775808 = 0 ∨ es.length = 0
      · rw [scaleR_nil h1 h2 h3]
        refine eScale_nil A c es hw hl b hb h1 h2 _ rfl ?_ w hT hr
        rcases h3 with h | h
        · exact .inl (by rw [c_zero, decide_eq_true h])
        · exact .inr h
      · rw [not_or] at h3
        have e := scaleR_cons h1 h2 h3.1 h3.2
        refine eScale_main A c es hw hl b hb h1 h2 h3.1 h3.2 _ _ ?_ ?_ w hT hr
        · intro h
          rw [e, if_pos (by cases hh : es.any (lostB · b); exact absurd (lost_all.1 hh) h; rfl)]; exact ⟨rfl, rfl⟩
        · intro h
          rw [e, if_neg (by rw [lost_all.2 h]; exact Bool.false_ne_true)]; exact ⟨rfl, rfl⟩
  · have e : scaleR es b = ([], chkE es) := by unfold scaleR; rw [if_neg h1]
    rw [e]; exact eScale_bad A c es hw hl b hb _ rfl (by simpa using h1) w hT hr
end Go.Proofs.YtjmaggfddinbkaaDoor
end

section
namespace Go.Proofs.YtjmaggfddinbkaaDoor
open Go.RowKit
def LayC (w : World) (p : Nat) (sv : Value) (ov : Bool) : Prop := w.cell? ⟨p, 0, none⟩ = some sv ∧ w.cell? ⟨p, 1, none⟩ = some (.bool ov) ∧ ∀ i, w.frozen? ⟨p, i, none⟩ = false
theorem LayC.lt {w : World} {p : Nat} {sv : Value} {ov : Bool} (h : LayC w p sv ov) : p < w.heap.size := World.block_lt_of_cell? _ _ h.1
theorem LayC.of {w w' : World} {p : Nat} {sv : Value} {ov : Bool} (h : LayC w p sv ov) (k : Within w w') : LayC w' p sv ov :=
  ⟨(k.cells _ _ h.lt).trans h.1, (k.cells _ _ h.lt).trans h.2.1, fun i => (k.frozens _ i h.lt).trans (h.2.2 i)⟩
theorem LayC.made (w : World) (T : TypeId) : LayC (w.alloc (.cells #[.slice none 0 0, .bool false] T)) w.heap.size (.slice none 0 0) false := by
  refine ⟨?_, ?_, fun i => ?_⟩
  · rw [World.cell?_alloc_at _ _ _ _ rfl]; rfl
  · rw [World.cell?_alloc_at _ _ _ _ rfl]; rfl
  · simp
theorem LayC.see {w : World} {p : Nat} {sv : Value} {ov : Bool} (h : LayC w p sv ov) (b : Bool) : LayC (w.setCell ⟨p, 1, none⟩ (.bool b)) p sv b := by
  have hl := h.lt
  obtain ⟨h0, h1, hf⟩ := h
  exact ⟨by go_simp, by go_simp, fun i => by go_simp⟩
theorem lay_cell_heap {w w' : World} {b o : Nat} (h : w'.heap[b]? = w.heap[b]?) : w'.cell? ⟨b, o, none⟩ = w.cell? ⟨b, o, none⟩ ∧ w'.frozen? ⟨b, o, none⟩ = w.frozen? ⟨b, o, none⟩ := by
  constructor
  · unfold World.cell?; rw [h]
  · unfold World.frozen?; rw [h]
theorem LayC.grown {w w' : World} {p : Nat} {sv : Value} {ov : Bool} {bk : Option Nat} (h : LayC w p sv ov) (k : w.grownBy w' bk) (hb : bk ≠ some p) : LayC w' p sv ov := by
  have e := k.block p h.lt (Ne.symm hb)
  exact ⟨(lay_cell_heap e).1.trans h.1, (lay_cell_heap e).1.trans h.2.1, fun i => (lay_cell_heap e).2.trans (h.2.2 i)⟩
theorem lay_set_size (w : World) (p : Addr) (u : Value) : (w.setCell p u).heap.size = w.heap.size := by simp [World.setCell]
theorem lay_grown_set {w w1 : World} (h : Within w w1) (p o : Nat) (u : Value) : w.grownBy (w1.setCell ⟨p, o, none⟩ u) (some p) := by
  refine ⟨h.os, h.tape, h.output, ?_, fun i hi hne => ?_⟩
  · rw [lay_set_size]; exact h.size
  · rw [Below.heap_setCell _ _ _ _ (fun e => hne (by rw [e]))]
    exact h.block i hi
theorem run_app_floatG (w : World) (base : Nat) (v : Value) (l : List Nat) (x : Nat) (hown : OwnF w base v l) (hl : (l.length + 1) * 8 ≤ 140737488355328) (hbase : base ≤ w.heap.size) :
    ∃ v' w', (Builtin.append_ #[32, 32] 32 #[v, .slice (some ⟨w.heap.size, 0, none⟩) 1 1]).run Tryd.prog (w.alloc (.cells #[.float .f64 x] 27)) = .ok v' w' ∧ OwnF w' base v' (l ++ [x]) ∧ Below base w w' ∧
      w.grownBy w' v.ownBlock ∧ ∀ g, g < w.heap.size → v.ownBlock ≠ some g → v'.ownBlock ≠ some g := by
  have hin := (Within.refl w).alloc (.cells #[.float .f64 x] 27)
  obtain ⟨i0, hi0, hz0, hz1, hz2⟩ := info_parts Tryd.infoF64
  obtain ⟨v', w', h1, h2, h3, h5⟩ := run_app (P := Tryd.prog) (w.alloc (.cells #[.float .f64 x] 27)) base 32 32 27 i0 (.float .f64 0) 8 (by kernel_rfl) hi0 hz0 hz1 hz2 rfl v l.length (f64v l) (hown.of hin) (some ⟨w.heap.size, 0, none⟩) 1 (f64v [x]) (SlAt.one w _ _) (f64v_one [x]) (by rw [f64v_len]; unfold maxLen; simp; omega) (by rw [f64v_len]; simp; omega) (by simp; omega)
  refine ⟨v', w', h1, ?_, Below.trans (Below.mono hin hbase) (grown_below (hown.of hin) (by simp; omega) h3), ⟨h3.os, h3.tape, h3.output, Nat.le_trans (by simp) h3.size, fun i hi hne => (h3.block i (by simp; omega) hne).trans (heap_alloc_old w _ hi)⟩, fun g hg hne => ?_⟩
  · unfold OwnF f64v
    rw [List.length_append, List.map_append]; exact h2
  · rcases h5 with h5 | h5
    · rw [h5]; exact hne
    · rw [h5]; intro e; injection e with e; simp at e; omega
def LayG (w : World) (p : Nat) (L : List (Option Nat)) (ov : Bool) (X : Option Nat) : Prop :=
  ∃ sv ls, LayC w p sv ov ∧ OwnF w (p + 1) sv ls ∧ Words64 ls ∧ ls.map fv = L ∧ ∀ g, X = some g → g ≠ p ∧ g < w.heap.size ∧ sv.ownBlock ≠ some g
theorem LayG.p {w : World} {p : Nat} {L : List (Option Nat)} {ov : Bool} {X : Option Nat} (h : LayG w p L ov X) : LayP w p L ov := by
  obtain ⟨sv, ls, ⟨c0, c1, c2⟩, ho, hw, hm, _⟩ := h
  exact ⟨sv, ls, c0, c1, c2, ho, hw, hm⟩
theorem LayG.of {w w' : World} {p : Nat} {L : List (Option Nat)} {ov : Bool} {X : Option Nat} (h : LayG w p L ov X) (k : Within w w') : LayG w' p L ov X := by
  obtain ⟨sv, ls, hc, ho, hw, hm, hx⟩ := h
  exact ⟨sv, ls, hc.of k, ho.of k, hw, hm, fun g e => ⟨(hx g e).1, Nat.lt_of_lt_of_le (hx g e).2.1 k.size, (hx g e).2.2⟩⟩
theorem SlAt.same {w w' : World} {A : Option Addr} {xs : List Value} (h : SlAt w A xs) (hsz : w.heap.size ≤ w'.heap.size) (k : ∀ ad, A = some ad → w'.heap[ad.block]? = w.heap[ad.block]?) : SlAt w' A xs := fun hn => by
  obtain ⟨ad, rfl, hlt, hc⟩ := h hn
  refine ⟨ad, rfl, Nat.lt_of_lt_of_le hlt hsz, fun j u hu => ?_⟩
  have e := k ad rfl
  have h1 := hc j u hu
  have hb : (ad.add j).block = ad.block := add_block ad j
  unfold World.cell? at h1 ⊢
  rw [hb] at h1 ⊢
  rw [e]; exact h1
set_option maxRecDepth 100000 in
set_option maxHeartbeats 600000 in
theorem seeC_ov (p a b : Nat) (sv : Value) (w : World) (h : LayC w p sv true) : Calls Tryd.prog 45 #[.pointer (some ⟨p, 0, none⟩), .float .f64 a, .float .f64 b] w fun e w' => e = .returned (.tuple #[.float .f64 a, .float .f64 b]) ∧ LayC w' p sv (true || !finW a || !finW b) ∧ w.grownBy w' (some p) := by
  have hL0 := h.lt
  have hLL := Lib.hid h
  obtain ⟨s0, t0, u0⟩ := h
  have FI := Lib.hid (fun x w => efinite_any x w)
  have e : (true || !finW a || !finW b) = true := rfl
  rw [e]
  clear e
  go_enter Tryd.func45, Tryd.ntmps45
  go_wp2
  go_ret2
  exact ⟨rfl, hLL.out.see true, lay_grown_set (Within.refl _) p 1 _⟩
set_option maxRecDepth 100000 in
set_option maxHeartbeats 600000 in
theorem seeC_a (p a b : Nat) (sv : Value) (ha : finW a = false) (w : World) (h : LayC w p sv false) : Calls Tryd.prog 45 #[.pointer (some ⟨p, 0, none⟩), .float .f64 a, .float .f64 b] w fun e w' => e = .returned (.tuple #[.float .f64 a, .float .f64 b]) ∧ LayC w' p sv (false || !finW a || !finW b) ∧ w.grownBy w' (some p) := by
  have hL0 := h.lt
  have hLL := Lib.hid h
  obtain ⟨s0, t0, u0⟩ := h
  have FI := Lib.hid (fun x w => efinite_any x w)
  have e : (false || !finW a || !finW b) = true := by rw [ha]; rfl
  rw [e]
  clear e
  have HA := Lib.hid ha; clear ha
  go_enter Tryd.func45, Tryd.ntmps45
  go_wp2_with fail
  refine (FI.out a _).mono ?_; rintro e1 w1 ⟨rfl, hb1⟩
  rw [HA.out]
  have hL1 := hLL.out.of hb1
  obtain ⟨s1, t1, u1⟩ := hL1
  have z1 : p < w1.heap.size := Nat.lt_of_lt_of_le hL0 hb1.sizes
  have hL1 := hLL.out.of hb1
  go_wp2
  go_ret2
  exact ⟨rfl, (hL1).see true, lay_grown_set hb1 p 1 _⟩
set_option maxRecDepth 100000 in
set_option maxHeartbeats 600000 in
theorem seeC_b (p a b : Nat) (sv : Value) (ha : finW a = true) (w : World) (h : LayC w p sv false) : Calls Tryd.prog 45 #[.pointer (some ⟨p, 0, none⟩), .float .f64 a, .float .f64 b] w fun e w' => e = .returned (.tuple #[.float .f64 a, .float .f64 b]) ∧ LayC w' p sv (false || !finW a || !finW b) ∧ w.grownBy w' (some p) := by
  have hL0 := h.lt
  have hLL := Lib.hid h
  obtain ⟨s0, t0, u0⟩ := h
  have FI := Lib.hid (fun x w => efinite_any x w)
  have e : (false || !finW a || !finW b) = !finW b := by rw [ha]; rfl
  rw [e]
  clear e
  have HA := Lib.hid ha; clear ha
  go_enter Tryd.func45, Tryd.ntmps45
  go_wp2_with fail
  refine (FI.out a _).mono ?_; rintro e1 w1 ⟨rfl, hb1⟩
  rw [HA.out]
  have hL1 := hLL.out.of hb1
  obtain ⟨s1, t1, u1⟩ := hL1
  have z1 : p < w1.heap.size := Nat.lt_of_lt_of_le hL0 hb1.sizes
  have hL1 := hLL.out.of hb1
  go_wp2_with fail
  refine (FI.out b _).mono ?_; rintro e2 w2 ⟨rfl, hb2'⟩
  have hb2 := hb1.trans hb2'
  have hL2 := hLL.out.of hb2
  obtain ⟨s2, t2, u2⟩ := hL2
  have z2 : p < w2.heap.size := Nat.lt_of_lt_of_le hL0 hb2.sizes
  have hL2 := hLL.out.of hb2
  go_wp2
  go_ret2
  exact ⟨rfl, (hL2).see (!finW b), lay_grown_set hb2 p 1 _⟩
theorem seeC (p a b : Nat) (sv : Value) (ov : Bool) (w : World) (h : LayC w p sv ov) : Calls Tryd.prog 45 #[.pointer (some ⟨p, 0, none⟩), .float .f64 a, .float .f64 b] w fun e w' => e = .returned (.tuple #[.float .f64 a, .float .f64 b]) ∧ LayC w' p sv (ov || !finW a || !finW b) ∧ w.grownBy w' (some p) := by
  cases ov
  · cases ha : finW a
    · have := seeC_a p a b sv ha w h
      rwa [ha] at this
    · have := seeC_b p a b sv ha w h
      rwa [ha] at this
  · exact seeC_ov p a b sv w h
theorem see_g {w w' : World} {p : Nat} {L : List (Option Nat)} {ov ov' : Bool} {X : Option Nat} (h : LayG w p L ov X) (hs : ∀ sv, LayC w p sv ov → LayC w' p sv ov') (hg : w.grownBy w' (some p)) : LayG w' p L ov' X ∧ Below p w w' ∧ ∀ g, X = some g → w'.heap[g]? = w.heap[g]? := by
  obtain ⟨sv, ls, hc, ho, hw, hm, hx⟩ := h
  have hlt := hc.lt
  refine ⟨⟨sv, ls, hs sv hc, ?_, hw, hm, fun g e => ⟨(hx g e).1, Nat.lt_of_lt_of_le (hx g e).2.1 hg.size, (hx g e).2.2⟩⟩, ?_, fun g e => hg.block g (hx g e).2.1 (fun h => (hx g e).1 (Option.some.inj h))⟩
  · exact ho.kept hg (by
      cases hv : sv.ownBlock with
      | none => exact .inl rfl
      | some j =>
        right
        intro e
        have := (ho.lt j hv).1
        injection e with e
        omega)
  · exact ⟨hg.os, hg.tape, hg.output, hg.size, fun i hi => hg.block i (by omega) (fun e => by injection e with e; omega)⟩
theorem seeG (p a b : Nat) (L : List (Option Nat)) (ov : Bool) (X : Option Nat) (w : World) (h : LayG w p L ov X) : Calls Tryd.prog 45 #[.pointer (some ⟨p, 0, none⟩), .float .f64 a, .float .f64 b] w fun e w' => e = .returned (.tuple #[.float .f64 a, .float .f64 b]) ∧ LayG w' p L (ov || !finW a || !finW b) X ∧ Below p w w' ∧ ∀ g, X = some g → w'.heap[g]? = w.heap[g]? := by
  obtain ⟨sv, ls, hc, ho, hw, hm, hx⟩ := h
  refine (seeC p a b sv ov w hc).mono fun e w' ⟨h1, h2, h3⟩ => ⟨h1, ?_⟩
  refine see_g ⟨sv, ls, hc, ho, hw, hm, hx⟩ (fun sv' hc' => ?_) h3
  obtain rfl : sv = sv' := by have := hc.1.symm.trans hc'.1; injection this
  exact h2
set_option maxRecDepth 100000 in
set_option maxHeartbeats 600000 in
theorem elayG_no (p x : Nat) (L : List (Option Nat)) (ov : Bool) (X : Option Nat) (hx : x % 9223372036854775808 = 0) (w : World) (h : LayG w p L ov X) : Calls Tryd.prog 46 #[.pointer (some ⟨p, 0, none⟩), .float .f64 x] w fun e w' => e = .returned (.tuple #[]) ∧ LayG w' p (layV L (fv x)) ov X ∧ Below p w w' ∧ ∀ g, X = some g → w'.heap[g]? = w.heap[g]? := by
  have hz : (FloatKind.f64.format.order x 0 == some .eq) = true := by rw [c_zero, decide_eq_true hx]
  have hne : (FloatKind.f64.format.order x 0 != some .eq) = false := by simp [bne, hz]
  have hl : layV L (fv x) = L := by unfold layV; rw [nzV_fv, decide_eq_false (fun g => g hx)]; rfl
  rw [hl]
  clear hx hl
  have hLL := Lib.hid h; clear h
  go_enter Tryd.func46, Tryd.ntmps46
  go_wp2
  go_end0
  exact ⟨rfl, hLL.out, Below.refl _ _, fun _ _ => rfl⟩
set_option maxRecDepth 100000 in
set_option maxHeartbeats 600000 in
theorem elayG_yes (p x : Nat) (L : List (Option Nat)) (ov : Bool) (X : Option Nat) (hx : ¬ x % 9223372036854775808 = 0) (hx2 : x < 18446744073709551616) (hn : L.length ≤ 1000000) (w : World) (h : LayG w p L ov X) : Calls Tryd.prog 46 #[.pointer (some ⟨p, 0, none⟩), .float .f64 x] w fun e w' => e = .returned (.tuple #[]) ∧ LayG w' p (layV L (fv x)) ov X ∧ Below p w w' ∧ ∀ g, X = some g → w'.heap[g]? = w.heap[g]? := by
  have hz : (FloatKind.f64.format.order x 0 == some .eq) = false := by rw [c_zero, decide_eq_false hx]
  have hne : (FloatKind.f64.format.order x 0 != some .eq) = true := by simp [bne, hz]
  have hl : layV L (fv x) = L ++ [fv x] := by unfold layV; rw [nzV_fv, decide_eq_true hx]; rfl
  rw [hl]
  clear hx hl
  obtain ⟨sv, ls, hC, hown, hw, hm, hX⟩ := h
  have hL0 := hC.lt
  obtain ⟨s0, t0, u0⟩ := hC
  obtain ⟨A, c, rfl, _, _, _⟩ := hown.form
  have hlen : ls.length = L.length := by rw [← hm, List.length_map]
  obtain ⟨v', w', hrun, hown', hbl', hgr, hob⟩ := run_app_floatG w (p + 1) _ _ x hown (by omega) hL0
  obtain ⟨A2, c2, rfl, _, _, _⟩ := hown'.form
  have hX2 : ∀ g, X = some g → g ≠ p ∧ g < w'.heap.size ∧ Value.ownBlock (.slice A2 (ls ++ [x]).length c2) ≠ some g ∧ w'.heap[g]? = w.heap[g]? := fun g e => ⟨(hX g e).1, Nat.lt_of_lt_of_le (hX g e).2.1 hgr.size, hob g (hX g e).2.1 (hX g e).2.2, hgr.block g (hX g e).2.1 (Ne.symm (hX g e).2.2)⟩
  have HX := Lib.hid hX2; clear hX hX2 hgr hob
  have RUN := Lib.hid hrun; have HOW := Lib.hid hown'
  obtain ⟨n2, hn2⟩ : ∃ n2, n2 = (ls ++ [x]).length := ⟨_, rfl⟩
  rw [← hn2] at RUN HOW HX
  clear hn2
  have HW := Lib.hid hw; have HM := Lib.hid hm
  clear hrun hown' hown hw hm hlen hn
  have s1 : w'.cell? ⟨p, 1, none⟩ = some (.bool ov) := (hbl'.cell (p := ⟨p, 1, none⟩) (Nat.lt_succ_self p)).trans t0
  have s2 : ∀ i, w'.frozen? ⟨p, i, none⟩ = false := fun i => (hbl'.frozen (p := ⟨p, i, none⟩) (Nat.lt_succ_self p)).trans (u0 i)
  have s3 : w'.cell? ⟨p, 0, none⟩ = some (.slice A ls.length c) := (hbl'.cell (p := ⟨p, 0, none⟩) (Nat.lt_succ_self p)).trans s0
  have s4 : p < w'.heap.size := World.block_lt_of_cell? _ _ s3
  obtain ⟨n, hn⟩ : ∃ n, n = ls.length := ⟨_, rfl⟩
  rw [← hn] at s0 s3 RUN
  clear hn
  go_enter Tryd.func46, Tryd.ntmps46
  go_wp2_with (at_builtin; refine wpList_append_run rfl (.tmp 10) (.tmp 12) 32 rfl _ _ rfl rfl RUN.out ?_)
  go_end0
  exact ⟨rfl, ⟨_, ls ++ [x], ⟨by go_simp, by go_simp, fun i => by go_simp⟩, (HOW.out).set (Nat.lt_succ_self p) _, (fun y hy => by rcases List.mem_append.1 hy with hy | hy; exact HW.out y hy; rcases List.mem_singleton.1 hy with rfl; exact hx2), by rw [List.map_append, HM.out]; rfl, fun g e => ⟨(HX.out g e).1, by rw [lay_set_size]; exact (HX.out g e).2.1, (HX.out g e).2.2.1⟩⟩, Below.setCell (p := ⟨p, 0, none⟩) (Below.mono hbl' (Nat.le_succ p)) (Nat.le_refl p) _, fun g e => (Below.heap_setCell _ _ _ _ (HX.out g e).1).trans (HX.out g e).2.2.2⟩
theorem elayG (p x : Nat) (L : List (Option Nat)) (ov : Bool) (X : Option Nat) (hx : x < 18446744073709551616) (hn : L.length ≤ 1000000) (w : World) (h : LayG w p L ov X) : Calls Tryd.prog 46 #[.pointer (some ⟨p, 0, none⟩), .float .f64 x] w fun e w' => e = .returned (.tuple #[]) ∧ LayG w' p (layV L (fv x)) ov X ∧ Below p w w' ∧ ∀ g, X = some g → w'.heap[g]? = w.heap[g]? := by
  by_cases h0 : x % 9223372036854775808 = 0
  · exact elayG_no p x L ov X h0 w h
  · exact elayG_yes p x L ov X h0 hx hn w h
end Go.Proofs.YtjmaggfddinbkaaDoor
end

section
namespace Go.Proofs.YtjmaggfddinbkaaDoor
open Go.RowKit
theorem down_no {s : Lay} {e : Option Nat} (h : nzV (quiL s.q e) = false) : downStep s e = ⟨twoS s.q e, s.l, s.see (twoS s.q e) (quiL s.q e)⟩ := by
  unfold downStep; dsimp only; rw [h]; rfl
theorem down_yes {s : Lay} {e : Option Nat} (h : nzV (quiL s.q e) = true) : downStep s e = ⟨quiL s.q e, s.l ++ [twoS s.q e], s.see (twoS s.q e) (quiL s.q e)⟩ := by
  unfold downStep; dsimp only; rw [h]; rfl
theorem map_getD {la : List Nat} {L : List (Option Nat)} (h : la.map fv = L) {k : Nat} (hk : k < la.length) : L.getD k none = fv (la.getD k 0) := by rw [← h, getD_fv la hk]
set_option maxRecDepth 100000 in
set_option maxHeartbeats 600000 in
theorem eComp_bad (A : Option Addr) (c : Nat) (es : List Nat) (hw : Words64 es) (hl : es.length ≤ 1152921504606846976) (v : Int) (hv : chkE es = v) (h0 : (v != 0) = true) (w : World) (hT : Tab w) (hr : SlAt w A (f64v es)) : Calls Tryd.prog 24 #[.slice A es.length c] w (ResF w [] v) := by
  have HW := Lib.hid hw; have HR := Lib.hid hr; clear hr
  have HT := Lib.hid hT; clear hT
  have CE := Lib.hid (fun w hT hr => echeck_any A c es hw hl w hT hr)
  rw [hv] at CE
  clear hv hw
  go_enter Tryd.func24, Tryd.ntmps24
  go_wp2_with fail
  refine (CE.out _ HT.out HR.out).mono ?_; rintro e1 w1 ⟨rfl, hb1⟩
  go_wp2
  go_ret2
  exact ResF.none_ v hb1
set_option maxRecDepth 100000 in
set_option maxHeartbeats 600000 in
theorem eComp_nil (A : Option Addr) (c : Nat) (es : List Nat) (hw : Words64 es) (hl : es.length ≤ 1152921504606846976) (h1 : chkE es = 0) (h0 : es.length = 0) (w : World) (hT : Tab w) (hr : SlAt w A (f64v es)) : Calls Tryd.prog 24 #[.slice A es.length c] w (ResF w [] 0) := by
  have HW := Lib.hid hw; have HR := Lib.hid hr; clear hr
  have HT := Lib.hid hT; clear hT
  have CE := Lib.hid (fun w hT hr => echeck_any A c es hw hl w hT hr)
  rw [h1] at CE
  have g1 : ((es.length : Int) == 0) = true := by rw [h0]; rfl
  clear h1 hw h0
  go_enter Tryd.func24, Tryd.ntmps24
  go_wp2_with fail
  refine (CE.out _ HT.out HR.out).mono ?_; rintro e1 w1 ⟨rfl, hb1⟩
  go_wp2
  go_ret2
  exact ResF.none_ 0 (by repeat (first | with_reducible exact Within.refl _ | with_reducible assumption | with_reducible refine arW_within ?_ _ _ _ | with_reducible refine Within.alloc ?_ _ | with_reducible refine Within.drew ?_ | with_reducible refine Within.trans ?_ (by assumption)))
set_option maxRecDepth 100000 in
set_option maxHeartbeats 2000000 in
theorem eComp_main (A : Option Addr) (c : Nat) (es : List Nat) (hw : Words64 es) (hl : es.length ≤ 1152921504606846976) (h1 : chkE es = 0) (h0 : es.length ≠ 0) (w : World) (hT : Tab w) (hr : SlAt w A (f64v es)) : Calls Tryd.prog 24 #[.slice A es.length c] w (ResF w (compSt es).out (compSt es).err) := by
  have HW := Lib.hid hw; have HR := Lib.hid hr; clear hr
  have HT := Lib.hid hT; clear hT
  have CE := Lib.hid (fun w hT hr => echeck_any A c es hw hl w hT hr)
  have L64 := Lib.hid (chk_len h1)
  have g1 : ((es.length : Int) == 0) = false := by rw [beq_eq_false_iff_ne]; omega
  rw [h1] at CE
  clear h1 hw
  obtain ⟨ql, hql⟩ : ∃ ql, ql = es.getD (es.length - 1) 0 := ⟨_, rfl⟩
  have hql64 : ql < 18446744073709551616 := by rw [hql]; exact HW.out.at (by omega)
  have YES : Hid (compSt es = upSt (downSt (fv ql) ((dwn es).map fv))) := Lib.hid (by unfold compSt; rw [hql])
  have gl1 : IntKind.i64.wrap ((es.length : Int) - 1) = ((es.length - 1 : Nat) : Int) := by rw [IntWalk.i64_in _ ⟨by omega, by omega⟩]; omega
  have gl2 : IntKind.i64.wrap ((es.length : Int) - 2) = (es.length : Int) - 2 := IntWalk.i64_in _ ⟨by have := L64.out; omega, by have := L64.out; omega⟩
  obtain ⟨ad, hA, hblk, hcl⟩ := HR.out.at (k := es.length - 1) (by omega)
  rw [← hql] at hcl
  subst hA
  have HQL := Lib.hid hql64; clear hql64 hql
  go_enter Tryd.func24, Tryd.ntmps24
  go_wp2_with fail
  refine (CE.out _ HT.out HR.out).mono ?_; rintro e1 w1 ⟨rfl, hb1⟩
  have HR1 := Lib.hid (HR.out.of hb1)
  have LAY0 := LayC.made w1 72
  have hcl1 := (hb1.cell (p := ad.add (es.length - 1)) (by rw [add_block]; exact hblk)).trans hcl
  have hblk1 := Nat.lt_of_lt_of_le hblk hb1.size
  clear hcl hblk
  obtain ⟨n1, hn1⟩ : ∃ n1, n1 = es.length - 1 := ⟨_, rfl⟩
  have gn : n1 < es.length := by omega
  rw [← hn1] at gl1 hcl1
  clear hn1
  have hcl2 := (((Within.refl w1).alloc (.cells #[.slice none 0 0, .bool false] 72)).cell (p := ad.add n1) (by rw [add_block]; exact hblk1)).trans hcl1
  go_wp2
  go_loopw [6, 7, 9] (fun av qv iv wq => ∃ (k q : Nat) (j : Int) (Aa : Option Addr) (ca : Nat) (la : List Nat), k + 1 ≤ es.length ∧ j + 2 + k = es.length ∧ iv = .int .i64 j ∧ qv = .float .f64 q ∧ q < 18446744073709551616 ∧ av = .slice Aa la.length ca ∧ fv q = (ds ql (dwn es) k).q ∧ LayC wq w1.heap.size (.slice none 0 0) (ds ql (dwn es) k).ov ∧ OwnF wq (w1.heap.size + 1) (.slice Aa la.length ca) la ∧ Words64 la ∧ la.map fv = (ds ql (dwn es) k).l ∧ Within w1 wq) (fun _ _ iv _ => (intOf iv + 1).toNat)
  case atStart => exact ⟨0, ql, (es.length : Int) - 2, none, 0, [], by omega, by omega, rfl, rfl, HQL.out, rfl, by rw [ds_zero], by rw [ds_zero]; exact LAY0, OwnF.nil_ _ _, (fun x hx => by cases hx), by rw [ds_zero]; rfl, (by repeat (first | with_reducible exact Within.refl _ | with_reducible assumption | with_reducible refine arW_within ?_ _ _ _ | with_reducible refine Within.alloc ?_ _ | with_reducible refine Within.drew ?_ | with_reducible refine Within.trans ?_ (by assumption)))⟩
  case round =>
    obtain ⟨k, q, j, Aa, ca, la, hk, hj, rfl, rfl, hq, rfl, vq, hC, hO, hwa, hma, hin⟩ := hrel
    have HQ := Lib.hid hq; have VQ := Lib.hid vq; have HC := Lib.hid hC; have HO := Lib.hid hO; have HWA := Lib.hid hwa; have HMA := Lib.hid hma; clear hq vq hC hO hwa hma
    have hla : la.length ≤ 100 := by have h1 := congrArg List.length HMA.out; rw [List.length_map] at h1; have h2 := ds_len ql (dwn es) k (by rw [dwn_len]; omega); have := L64.out; omega
    have HLA := Lib.hid hla; clear hla
    by_cases hlt : k + 1 < es.length
    · obtain ⟨i, rfl⟩ : ∃ i : Nat, j = (i : Int) := ⟨j.toNat, by omega⟩
      have hi : i < es.length := by omega
      obtain ⟨ad', hA', hblk', hc⟩ := (HR1.out.of hin).at hi
      obtain rfl : ad = ad' := by injection hA'
      have hx64 := HW.out.at hi
      have hxd : (dwn es).getD k 0 = es.getD i 0 := by rw [dwn_at es hlt, show es.length - 2 - k = i by omega]
      obtain ⟨x, hx⟩ : ∃ x, x = es.getD i 0 := ⟨_, rfl⟩
      rw [← hx] at hc hx64 hxd
      have hnext := ds_succ ql (dwn es) (k := k) (by rw [dwn_len]; omega)
      rw [hxd] at hnext
      have HX := Lib.hid hx64; have HN := Lib.hid hnext; clear hx64 hnext hxd hx hA' hblk'
      have gi : decide ((i : Int) ≥ 0) = true := decide_eq_true (by omega)
      have gj : IntKind.i64.wrap ((i : Int) - 1) = (i : Int) - 1 := IntWalk.i64_in _ ⟨by omega, by omega⟩
      have QX := Lib.hid (fun w => equick_any q x HQ.out HX.out w)
      have HIN := Lib.hid hin; clear hin
      go_wp2_with fail
      refine (QX.out _).mono ?_; rintro f1 w2 ⟨s, h, rfl, hs, hh, vs, vh, jb1⟩
      have HS := Lib.hid hs; have HH := Lib.hid hh; have VS := Lib.hid vs; have VH := Lib.hid vh; clear hs hh vs vh
      have C1 := Lib.hid (HC.out.of jb1)
      go_wp2_with fail
      refine (seeC _ s h _ _ _ C1.out).mono ?_; rintro f2 w3 ⟨rfl, hC3, hG3⟩
      have hO3 := (HO.out.of jb1).kept hG3 (by
        cases hv : Value.ownBlock (.slice Aa la.length ca) with
        | none => exact .inl rfl
        | some b =>
          right; intro e; have := (HO.out.lt b hv).1; injection e with e; omega)
      have hin3 : Within w1 w3 := below_within (HIN.out.trans jb1) ⟨hG3.os, hG3.tape, hG3.output, hG3.size, fun i hi => hG3.block i (Nat.lt_of_lt_of_le hi (Nat.le_trans (HIN.out.trans jb1).size (Nat.le_refl _))) (fun e => by injection e with e; omega)⟩ (Nat.le_refl _)
      have hne : Value.ownBlock (.slice Aa la.length ca) ≠ some w1.heap.size := fun hv => by have := (HO.out.lt _ hv).1; omega
      have hp3 : w1.heap.size + 1 ≤ w3.heap.size := hC3.lt
      have HC3 := Lib.hid hC3; have HO3 := Lib.hid hO3; have HIN3 := Lib.hid hin3; have HNE := Lib.hid hne; have HP3 := Lib.hid hp3; clear hC3 hO3 hin3 hG3 jb1 hne hp3
      have e1 := finV_fv s; have e2 := finV_fv h; rw [VS.out, VQ.out] at e1; rw [VH.out, VQ.out] at e2
      have E12 := Lib.hid (And.intro e1 e2); clear e1 e2
      by_cases h0 : h % 9223372036854775808 = 0
      · have hz : (FloatKind.f64.format.order h 0 == some .eq) = true := by rw [c_zero, decide_eq_true h0]
        have hne : (FloatKind.f64.format.order h 0 != some .eq) = false := by simp [bne, hz]
        have hd := down_no (s := ds ql (dwn es) k) (e := fv x) (by rw [← VQ.out, ← VH.out, nzV_fv, decide_eq_false (fun g => g h0)])
        rw [← HN.out] at hd
        have HD := Lib.hid hd; clear hd h0
        go_wp2
        go_roundw
        case rel =>
          refine ⟨k + 1, s, (i : Int) - 1, Aa, ca, la, hlt, by omega, rfl, rfl, HS.out, rfl, by rw [HD.out, VS.out, VQ.out], ?_, HO3.out, HWA.out, by rw [HD.out]; exact HMA.out, HIN3.out⟩
          rw [HD.out]
          have hM := HC3.out
          rw [← E12.out.1, ← E12.out.2] at hM
          exact hM
        case measure => first | (simp [intOf]; done) | (simp [intOf]; omega)
      · have hz : (FloatKind.f64.format.order h 0 == some .eq) = false := by rw [c_zero, decide_eq_false h0]
        have hne : (FloatKind.f64.format.order h 0 != some .eq) = true := by simp [bne, hz]
        have hd := down_yes (s := ds ql (dwn es) k) (e := fv x) (by rw [← VQ.out, ← VH.out, nzV_fv, decide_eq_true h0])
        rw [← HN.out] at hd
        have HD := Lib.hid hd; clear hd h0
        obtain ⟨v', w', hrun, hO', hB', hgr, _⟩ := run_app_floatG w3 (w1.heap.size + 1) _ la s HO3.out (by have := HLA.out; omega) HP3.out
        obtain ⟨A2, c2, rfl, _, _, _⟩ := hO'.form
        have hC' := HC3.out.grown hgr HNE.out
        have hin' : Within w1 w' := Below.trans HIN3.out (Below.mono hB' (Nat.le_succ _))
        have RUN := Lib.hid hrun; have HO' := Lib.hid hO'; have HC' := Lib.hid hC'; have HIN' := Lib.hid hin'; clear hrun hO' hB' hgr hC' hin'
        obtain ⟨n2, hn2⟩ : ∃ n2, n2 = (la ++ [s]).length := ⟨_, rfl⟩
        rw [← hn2] at RUN HO'
        have HN2 := Lib.hid hn2; clear hn2
        go_wp2_with (at_builtin; refine wpList_append_run rfl (.tmp 49) (.tmp 51) 32 rfl _ _ rfl rfl RUN.out ?_)
        go_roundw
        case rel =>
          refine ⟨k + 1, h, (i : Int) - 1, A2, c2, la ++ [s], hlt, by omega, rfl, rfl, HH.out, by rw [HN2.out], by rw [HD.out, VH.out, VQ.out], ?_, by rw [← HN2.out]; exact HO'.out, (fun y hy => by rcases List.mem_append.1 hy with hy | hy; exact HWA.out y hy; rcases List.mem_singleton.1 hy with rfl; exact HS.out), by rw [HD.out, List.map_append, HMA.out]; show _ ++ [fv s] = _; rw [VS.out, VQ.out], HIN'.out⟩
          rw [HD.out]
          have hM := HC'.out
          rw [← E12.out.1, ← E12.out.2] at hM
          exact hM
        case measure => first | (simp [intOf]; done) | (simp [intOf]; omega)
    · obtain rfl : k = es.length - 1 := by omega
      obtain rfl : j = -1 := by omega
      obtain ⟨D, hD⟩ : ∃ D, D = downSt (fv ql) ((dwn es).map fv) := ⟨_, rfl⟩
      have hda := ds_all ql (dwn es)
      rw [dwn_len, ← hD] at hda
      rw [hda] at VQ HC HMA
      have hLD : D.l.length = la.length := by rw [← HMA.out, List.length_map]
      have HLD := Lib.hid hLD; clear hLD hda
      have YB := YES.out
      rw [← hD] at YB
      have YB2 := Lib.hid YB; clear YB YES hD
      obtain ⟨Aa', ca', he, _, hs2, _⟩ := HO.out.form
      obtain ⟨rfl, rfl⟩ : Aa = Aa' ∧ ca = ca' := by injection he with h1 _ h2; exact ⟨h1, h2⟩
      clear he
      have HSA := Lib.hid hs2; clear hs2
      have hG0 : LayG wr w1.heap.size [] D.ov (Value.ownBlock (.slice Aa la.length ca)) := ⟨_, [], HC.out, OwnF.nil_ _ _, (fun x hx => by cases hx), rfl, fun g e => ⟨by have := (HO.out.lt g e).1; omega, (HO.out.lt g e).2, by simp [Value.ownBlock]⟩⟩
      have HG0 := Lib.hid hG0; clear hG0
      have HIN := Lib.hid hin; clear hin
      rename World => wb
      have hown : ∀ adx, Aa = some adx → Value.ownBlock (.slice Aa la.length ca) = some adx.block := fun adx e => by rw [e]; rfl
      have HOWN := Lib.hid hown; clear hown
      have gl3 : IntKind.i64.wrap ((la.length : Int) - 1) = (la.length : Int) - 1 := IntWalk.i64_in _ ⟨by omega, by have := HLA.out; omega⟩
      go_wp2
      go_loopw [7, 10] (fun qv iv wz => ∃ (k q : Nat) (j : Int), k ≤ la.length ∧ j + 1 + k = la.length ∧ iv = .int .i64 j ∧ qv = .float .f64 q ∧ q < 18446744073709551616 ∧ fv q = (us D k).q ∧ LayG wz w1.heap.size (us D k).l (us D k).ov (Value.ownBlock (.slice Aa la.length ca)) ∧ SlAt wz Aa (f64v la) ∧ Within w1 wz) (fun _ iv _ => (intOf iv + 1).toNat)
      case atStart => exact ⟨0, q, (la.length : Int) - 1, Nat.zero_le _, by omega, rfl, rfl, HQ.out, by rw [us_zero]; exact VQ.out, by rw [us_zero]; exact HG0.out, HSA.out, HIN.out⟩
      case round =>
        obtain ⟨k, q, j, hk, hj, rfl, rfl, hq, vq, hG, hsa, hin⟩ := hrel
        have HQ2 := Lib.hid hq; have VQ2 := Lib.hid vq; have HG2 := Lib.hid hG; have HSA2 := Lib.hid hsa; clear hq vq hG hsa
        by_cases hlt : k < la.length
        · obtain ⟨i, rfl⟩ : ∃ i : Nat, j = (i : Int) := ⟨j.toNat, by omega⟩
          have hi : i < la.length := by omega
          obtain ⟨ax, hA', hblk', hc⟩ := HSA2.out.at hi
          have hx64 := HWA.out.at hi
          have hxd : D.l.getD (D.l.length - 1 - k) none = fv (la.getD i 0) := by rw [HLD.out, show la.length - 1 - k = i by omega]; exact map_getD HMA.out hi
          obtain ⟨x, hx⟩ : ∃ x, x = la.getD i 0 := ⟨_, rfl⟩
          rw [← hx] at hc hx64 hxd
          have hnext := us_succ D (k := k) (by rw [HLD.out]; exact hlt)
          rw [hxd] at hnext
          have hlen := us_len D k (by rw [HLD.out]; exact hk)
          have hl2 : (us D k).l.length ≤ 1000 := by have := HLA.out; omega
          have HX := Lib.hid hx64; have HN := Lib.hid hnext; have HLEN := Lib.hid hl2; clear hx64 hnext hxd hx hlen hl2
          have gi : decide ((i : Int) ≥ 0) = true := decide_eq_true (by omega)
          have gj : IntKind.i64.wrap ((i : Int) - 1) = (i : Int) - 1 := IntWalk.i64_in _ ⟨by omega, by have := HLA.out; omega⟩
          have QX := Lib.hid (fun w => equick_any x q HX.out HQ2.out w)
          have HIN2 := Lib.hid hin; clear hin
          have HOX := Lib.hid (HOWN.out ax hA')
          subst hA'
          go_wp2_with fail
          refine (QX.out _).mono ?_; rintro f1 w2 ⟨s, h, rfl, hs, hh, vs, vh, jb1⟩
          have HS := Lib.hid hs; have HH := Lib.hid hh; have VS := Lib.hid vs; have VH := Lib.hid vh; clear hs hh vs vh
          have G1 := Lib.hid (HG2.out.of jb1)
          have S1 := Lib.hid (HSA2.out.of jb1)
          go_wp2_with fail
          refine (seeG _ s h _ _ _ _ G1.out).mono ?_; rintro f2 w3 ⟨rfl, hG3, jb2, hK3⟩
          have S3 := Lib.hid (S1.out.same jb2.size (fun adx e => hK3 _ (HOWN.out adx e)))
          have G3 := Lib.hid hG3; have HIN3 := Lib.hid (below_within (HIN2.out.trans jb1) jb2 (Nat.le_refl _)); clear hG3 jb1 jb2 hK3
          go_wp2_with fail
          refine (elayG _ h _ _ _ HH.out (Nat.le_trans HLEN.out (by decide)) _ G3.out).mono ?_; rintro f3 w4 ⟨rfl, hG4, jb4, hK4⟩
          have S4 := Lib.hid (S3.out.same jb4.size (fun adx e => hK4 _ (HOWN.out adx e)))
          have G4 := Lib.hid hG4; have HIN4 := Lib.hid (below_within HIN3.out jb4 (Nat.le_refl _)); clear hG4 jb4 hK4
          go_wp2
          go_roundw
          case rel =>
            refine ⟨k + 1, s, (i : Int) - 1, hlt, by omega, rfl, rfl, HS.out, ?_, ?_, S4.out, HIN4.out⟩
            · rw [HN.out, VS.out, VQ2.out]; rfl
            · rw [HN.out]
              have hM := G4.out
              have e1 := finV_fv s; have e2 := finV_fv h
              rw [← e1, ← e2] at hM
              simp only [VS.out, VH.out, VQ2.out] at hM
              exact hM
          case measure => first | (simp [intOf]; done) | (simp [intOf]; omega)
        · obtain rfl : k = la.length := by omega
          obtain rfl : j = -1 := by omega
          have hua := us_all D
          rw [HLD.out] at hua
          rw [hua] at VQ2 HG2
          have hlen := us_len D la.length (by rw [HLD.out]; exact Nat.le_refl _)
          rw [hua] at hlen
          obtain ⟨z, hz2⟩ : ∃ z, z = upSt D := ⟨_, rfl⟩
          have YB := YB2.out
          rw [← hz2] at VQ2 HG2 hlen YB
          have hl2 : z.l.length ≤ 1000 := by have := HLA.out; omega
          have HLEN := Lib.hid hl2; have YB3 := Lib.hid YB; clear hl2 hlen YB hz2 hua
          have HIN2 := Lib.hid hin; clear hin
          go_wp2_with fail
          refine (elayG _ q _ _ _ HQ2.out (Nat.le_trans HLEN.out (by decide)) _ HG2.out).mono ?_; rintro f1 v1 ⟨rfl, hL1, jb1, _⟩
          rw [VQ2.out] at hL1
          have HIN3 := Lib.hid (below_within HIN2.out jb1 (Nat.le_refl _)); have L1 := Lib.hid hL1.p; clear hL1 jb1
          go_wp2_with fail
          refine (eend_any _ _ _ _ L1.out).mono ?_; rintro f2 v2 ⟨⟨sv, ls, rfl, hown, hw', hm2⟩, rfl⟩
          have HO4 := Lib.hid hown; have HM := Lib.hid hm2; have HWW := Lib.hid hw'; clear hown hm2 hw'
          go_wp2
          go_ret2
          rw [YB3.out]
          exact ⟨_, ls, rfl, HO4.out.less (Nat.le_trans hb1.size (Nat.le_succ _)), HWW.out, HM.out, hb1.trans HIN3.out⟩
theorem eComp_any (A : Option Addr) (c : Nat) (es : List Nat) (hw : Words64 es) (hl : es.length ≤ 1152921504606846976) (w : World) (hT : Tab w) (hr : SlAt w A (f64v es)) : Calls Tryd.prog 24 #[.slice A es.length c] w (ResF w (compR es).1 (compR es).2) := by
  unfold compR
  by_cases h1 : chkE es = 0
  · rw [if_pos h1]
    by_cases h0 : es.length = 0
    · rw [if_pos h0]; exact eComp_nil A c es hw hl h1 h0 w hT hr
    · rw [if_neg h0]; exact eComp_main A c es hw hl h1 h0 w hT hr
  · rw [if_neg h1]; exact eComp_bad A c es hw hl _ rfl (by simpa using h1) w hT hr
end Go.Proofs.YtjmaggfddinbkaaDoor
end

section
namespace Go.Proofs.YtjmaggfddinbkaaDoor
open Go.RowKit
set_option maxRecDepth 100000 in
set_option maxHeartbeats 600000 in
theorem Rsame_D (a b : Nat) (w : World) : Calls Tryd.prog 25 #[.float .f64 a, .float .f64 b] w fun e w' => e = .returned (.bool (decide (canonD a = canonD b))) ∧ w = w' := by
  go_enter Tryd.func25, Tryd.ntmps25
  go_wp2_with fail
  refine (Rbits_D a _).mono ?_; rintro e1 w1 ⟨rfl, rfl⟩
  go_wp2_with fail
  refine (Rbits_D b _).mono ?_; rintro e2 w2 ⟨rfl, rfl⟩
  go_wp2
  go_ret
  refine ⟨ret_bool ?_, rfl⟩
  show ((canonD a : Int) == canonD b) = _
  rw [Bool.eq_iff_iff, beq_iff_eq, decide_eq_true_iff]; omega
set_option maxRecDepth 100000 in
set_option maxHeartbeats 600000 in
theorem Rsamelist_any (A B : Option Addr) (c d : Nat) (la lb : List Nat) (hla : la.length ≤ 1152921504606846976) (_hlb : lb.length ≤ 1152921504606846976) (w : World) (ha : SlAt w A (f64v la)) (hb : SlAt w B (f64v lb)) :
    Calls Tryd.prog 11 #[.slice A la.length c, .slice B lb.length d] w fun e w' => e = .returned (.bool (decide (la.map canonD = lb.map canonD))) ∧ Within w w' := by
  have HA := Lib.hid ha; have HB := Lib.hid hb; clear ha hb
  by_cases hlen : la.length = lb.length
  · have d1 : ((la.length : Int) != (lb.length : Int)) = false := by rw [bne_eq_false_iff_eq]; omega
    have HL := Lib.hid hlen
    go_enter Tryd.func11, Tryd.ntmps11
    go_wp2
    go_loopw [13] (fun iv wr => ∃ k : Nat, k ≤ la.length ∧ iv = .int .i64 (k : Int) ∧ (la.take k).map canonD = (lb.take k).map canonD ∧ Within w wr) (fun iv _ => la.length - (intOf iv).toNat)
    case atStart => exact ⟨0, Nat.zero_le _, rfl, rfl, Within.refl _⟩
    case round =>
      obtain ⟨k, hk, rfl, hsm, hin⟩ := hrel
      have HS := Lib.hid hsm; clear hsm
      by_cases hlt : k < la.length
      · have hltb : k < lb.length := by have := HL.out; omega
        obtain ⟨ad, rfl, hblk, hc⟩ := (HA.out.of hin).at hlt
        obtain ⟨be, rfl, hblb, hd⟩ := (HB.out.of hin).at hltb
        obtain ⟨x, hx⟩ : ∃ x, x = la.getD k 0 := ⟨_, rfl⟩
        obtain ⟨y, hy⟩ : ∃ y, y = lb.getD k 0 := ⟨_, rfl⟩
        rw [← hx] at hc
        rw [← hy] at hd
        have HX := Lib.hid hx; have HY := Lib.hid hy; clear hx hy
        have SM := Lib.hid (fun w => Rsame_D x y w)
        by_cases hs : canonD x = canonD y
        · have hnext : (la.take (k + 1)).map canonD = (lb.take (k + 1)).map canonD := by
            rw [take_snoc_getD hlt, take_snoc_getD hltb, List.map_append, List.map_append, HS.out, ← HX.out, ← HY.out, List.map_singleton, List.map_singleton, hs]
          have HN := Lib.hid hnext
          rw [decide_eq_true hs] at SM
          clear hnext hs
          go_wp2
          refine wp_region_within (by kernel_rfl) (by kernel_rfl) ?_
          repeat
            apply wpq_step rfl
            · intro wq hCq
              have ca := (hCq.cell (p := ad.add k) (by rw [add_block]; exact hblk)).trans hc
              have cb := (hCq.cell (p := be.add k) (by rw [add_block]; exact hblb)).trans hd
              go_simp
              first | rfl | exact hCq.same (SM.out _) | (trace_state; fail)
            simp only [Act.put, List.setIfInBounds_toArray, List.set_cons_zero, List.set_cons_succ]
          refine wpQuiet_nil ?_
          intro w3 hb3
          go_wp2
          go_roundw
          case rel => exact ⟨k + 1, hlt, by go_num, HN.out, (by repeat (first | with_reducible exact Within.refl _ | with_reducible assumption | with_reducible refine Within.alloc ?_ _ | with_reducible refine Within.drew ?_ | with_reducible refine Within.setCell ?_ (by first | (simp; done) | (simp; omega)) _ | with_reducible refine Within.trans ?_ (by assumption)))⟩
          case measure => simp [intOf]; omega
        · have hno : ¬ la.map canonD = lb.map canonD := fun h => hs (by
            have := congrArg (fun l => l.getD k 0) h
            simp only [List.getD, List.getElem?_map, List.getElem?_eq_getElem hlt, List.getElem?_eq_getElem hltb, Option.map_some, Option.getD_some] at this
            rw [HX.out, HY.out, List.getD, List.getD, List.getElem?_eq_getElem hlt, List.getElem?_eq_getElem hltb]
            exact this)
          have HNO := Lib.hid hno
          rw [decide_eq_false hs] at SM
          clear hno hs
          go_wp2
          refine wp_region_within (by kernel_rfl) (by kernel_rfl) ?_
          repeat
            apply wpq_step rfl
            · intro wq hCq
              have ca := (hCq.cell (p := ad.add k) (by rw [add_block]; exact hblk)).trans hc
              have cb := (hCq.cell (p := be.add k) (by rw [add_block]; exact hblb)).trans hd
              go_simp
              first | rfl | exact hCq.same (SM.out _) | (trace_state; fail)
            simp only [Act.put, List.setIfInBounds_toArray, List.set_cons_zero, List.set_cons_succ]
          refine wpQuiet_nil ?_
          intro w3 hb3
          go_wp2
          go_ret
          exact ⟨ret_bool (decide_eq_false HNO.out).symm, (by repeat (first | with_reducible exact Within.refl _ | with_reducible assumption | with_reducible refine Within.alloc ?_ _ | with_reducible refine Within.drew ?_ | with_reducible refine Within.setCell ?_ (by first | (simp; done) | (simp; omega)) _ | with_reducible refine Within.trans ?_ (by assumption)))⟩
      · obtain rfl : k = la.length := by omega
        go_wp2
        go_ret
        refine ⟨ret_bool (decide_eq_true ?_).symm, hin⟩
        have h1 := HS.out
        rw [List.take_of_length_le (Nat.le_refl _), List.take_of_length_le (Nat.le_of_eq HL.out.symm)] at h1
        exact h1
  · have d1 : ((la.length : Int) != (lb.length : Int)) = true := by rw [bne_iff_ne]; omega
    have hno : ¬ la.map canonD = lb.map canonD := fun h => hlen (by have := congrArg List.length h; simpa using this)
    have HNO := Lib.hid hno
    clear hno hlen
    go_enter Tryd.func11, Tryd.ntmps11
    go_wp2
    go_ret
    exact ⟨ret_bool (decide_eq_false HNO.out).symm, Within.refl _⟩
end Go.Proofs.YtjmaggfddinbkaaDoor
end

section
namespace Go.Proofs.YtjmaggfddinbkaaDoor
open Go.RowKit
theorem fv_some {x v : Nat} (h : fv x = some v) : x = v := by
  unfold fv at h
  split at h
  · cases h
  · injection h
theorem map_fv_two {ls : List Nat} {a b : Nat} (h : ls.map fv = [some a, some b]) : ls = [a, b] := by
  rcases ls with _ | ⟨x, _ | ⟨y, _ | ⟨z, l⟩⟩⟩
  · simp at h
  · simp at h
  · simp only [List.map_cons, List.map_nil, List.cons.injEq, and_true] at h
    rw [fv_some h.1, fv_some h.2]
  · simp at h
set_option maxRecDepth 100000 in
set_option maxHeartbeats 600000 in
theorem ef_any (a : Nat) (w : World) : Calls Tryd.prog 7 #[.int .u64 a] w fun e w' => e = .returned (.float .f64 a) ∧ w = w' := by
  go_enter Tryd.func7, Tryd.ntmps7
  go_wp2
  go_ret
  exact ⟨rfl, rfl⟩
theorem t_twoS : twoS (fv 4845873199050653696) (fv 4607182418800017408) = some 4845873199050653696 := by decide +kernel
theorem t_twoL : twoL (fv 4845873199050653696) (fv 4607182418800017408) = some 4607182418800017408 := by decide +kernel
theorem t_halH : halH (fv 4728779608772575232) = some 4728779608739020800 := by decide +kernel
theorem t_halL : halL (fv 4728779608772575232) = some 4607182418800017408 := by decide +kernel
theorem t_proP : proP (fv 4728779608772575232) (fv 4728779608772575232) = some 4850376798745133056 := by decide +kernel
theorem t_proE : proE (fv 4728779608772575232) (fv 4728779608772575232) = some 4607182418800017408 := by decide +kernel
theorem t_growL : growL [4607182418800017408] 4877398396442247168 = [some 4607182418800017408, some 4877398396442247168] := by decide +kernel
theorem t_growE : growEr [4607182418800017408] 4877398396442247168 = 0 := by decide +kernel
theorem t_is : isB [4607182418800017408, 4877398396442247168] = true := by decide +kernel
theorem t_det : P64.detI 4607182418800017408 4611686018427387904 4613937818241073152 4616189618054758400 = -1 := by decide +kernel
theorem t_fin : [4607182418800017408, 4611686018427387904, 4613937818241073152, 4616189618054758400].all finD = true := by decide +kernel
set_option maxRecDepth 100000 in
set_option maxHeartbeats 1600000 in
theorem awake_true (w : World) (hT : Tab w) : Calls Tryd.prog 5 #[] w fun e w' => e = .returned (.bool true) ∧ Within w w' := by
  have C1 := Lib.hid (fun w => Etwo_any 4845873199050653696 4607182418800017408 (by decide) (by decide) w)
  have C2 := Lib.hid (fun w => Esplit_any 4728779608772575232 (by decide) w)
  have C3 := Lib.hid (fun w => Eprod_any 4728779608772575232 4728779608772575232 (by decide) (by decide) w)
  have C4 := Lib.hid (fun A w hT hr => eGrow_any A 1 [4607182418800017408] (by intro x hx; simp at hx; omega) (by decide) 4877398396442247168 (by decide) w hT hr)
  have C5 := Lib.hid (fun w hT => P64.Edet 4607182418800017408 4611686018427387904 4613937818241073152 4616189618054758400 (by decide) (by decide) (by decide) (by decide) w hT)
  have C6 := Lib.hid (fun A c w hT hr => eis_any A c [4607182418800017408, 4877398396442247168] (by intro x hx; simp at hx; omega) (by decide) w hT hr)
  rw [t_twoS, t_twoL] at C1
  rw [t_halH, t_halL] at C2
  rw [t_proP, t_proE] at C3
  rw [t_growL, t_growE] at C4
  rw [t_det, t_fin, if_pos rfl, if_pos rfl] at C5
  rw [t_is] at C6
  have HT := Lib.hid hT; clear hT
  have c47_47 : (FloatKind.f64.format.order 4845873199050653696 4845873199050653696 == some .eq) = true := by decide +kernel
  have c72_72 : (FloatKind.f64.format.order 4607182418800017408 4607182418800017408 == some .eq) = true := by decide +kernel
  have c19_19 : (FloatKind.f64.format.order 4728779608739020800 4728779608739020800 == some .eq) = true := by decide +kernel
  have c59_59 : (FloatKind.f64.format.order 4850376798745133056 4850376798745133056 == some .eq) = true := by decide +kernel
  go_enter Tryd.func5, Tryd.ntmps5
  go_wp2_with fail
  refine (C1.out _).mono ?_; rintro e1 w1 ⟨s1, l1, rfl, _, _, k1, k2, hb1⟩
  obtain rfl := fv_some k1
  obtain rfl := fv_some k2
  clear k1 k2
  rw [show canonD 4845873199050653696 = 4845873199050653696 by decide, show canonD 4607182418800017408 = 4607182418800017408 by decide]
  go_wp2_with fail
  refine (C2.out _).mono ?_; rintro e2 w2 ⟨s2, l2, rfl, _, _, k1, k2, hb2⟩
  obtain rfl := fv_some k1
  obtain rfl := fv_some k2
  clear k1 k2
  rw [show canonD 4728779608739020800 = 4728779608739020800 by decide, show canonD 4607182418800017408 = 4607182418800017408 by decide]
  go_wp2_with fail
  refine (C3.out _).mono ?_; rintro e3 w3 ⟨s3, l3, rfl, _, _, k1, k2, hb3⟩
  obtain rfl := fv_some k1
  obtain rfl := fv_some k2
  clear k1 k2
  rw [show canonD 4850376798745133056 = 4850376798745133056 by decide, show canonD 4607182418800017408 = 4607182418800017408 by decide]
  have h3 := (hb1.trans hb2).trans hb3
  clear hb1 hb2 hb3
  have HS := Lib.hid (P64.slAt_made w3 [4607182418800017408] _ 27 rfl)
  go_wp2_with fail
  refine (C4.out _ _ (HT.out.of (h3.alloc _)) HS.out).mono ?_; rintro e4 w4 ⟨sv, ls, rfl, ho, _, hm, hb4⟩
  obtain rfl := map_fv_two hm
  clear hm
  have h4 := (h3.alloc _).trans hb4
  clear hb4 h3
  obtain ⟨A, c, rfl, hc, hs, _⟩ := ho.form
  have HSL := Lib.hid hs
  clear ho
  go_wp2_with fail
  refine (C5.out _ (HT.out.of h4)).mono ?_; rintro e5 w5 ⟨rfl, hb5⟩
  have h5 := h4.trans hb5
  have HS5 := Lib.hid (hs.of hb5)
  clear hs HSL
  obtain ⟨ad, rfl, hblk, hcell⟩ := HS5.out.at (k := 0) (by decide)
  have hc0 : w5.cell? ad = some (.float .f64 4607182418800017408) := hcell
  clear hcell
  have C6' := Lib.hid (fun w hT hr => C6.out (some ad) c w hT hr)
  clear C6
  go_wp2_with fail
  refine (C6'.out _ (HT.out.of h5) HS5.out).mono ?_; rintro e6 w6 ⟨rfl, hb6⟩
  go_wp2
  go_ret
  exact ⟨rfl, h5.trans hb6⟩
end Go.Proofs.YtjmaggfddinbkaaDoor
end

section
namespace Go.Proofs.YtjmaggfddinbkaaDoor
open Go.RowKit
def RowsF (base : Nat) (w : World) (v : Value) (ls : List (List Nat)) : Prop := ∃ q, v = .slice (some ⟨q, 0, none⟩) 6 6 ∧ base ≤ q ∧ q < w.heap.size ∧ ∀ k, k < 6 → ∃ A c, w.cell? ((⟨q, 0, none⟩ : Addr).add k) = some (.slice A (ls.getD k []).length c) ∧ SlAt w A (f64v (ls.getD k [])) ∧ ∀ ad, A = some ad → base ≤ ad.block
theorem RowsF.of {base : Nat} {w w' : World} {v : Value} {ls : List (List Nat)} (h : RowsF base w v ls) (k : Within w w') : RowsF base w' v ls := by
  obtain ⟨q, e, hb, hq, hr⟩ := h
  refine ⟨q, e, hb, Nat.lt_of_lt_of_le hq k.size, fun j hj => ?_⟩
  obtain ⟨A, c, h1, h2, h3⟩ := hr j hj
  exact ⟨A, c, (k.cell (by rw [add_block]; exact hq)).trans h1, h2.of k, h3⟩
theorem slAt_put {base : Nat} {w : World} {A : Option Addr} {xs : List Value} (h : SlAt w A xs) (hA : ∀ ad, A = some ad → base ≤ ad.block) {p : Addr} (hp : p.block < base) (u : Value) : SlAt (w.setCell p u) A xs := fun hn => by
  obtain ⟨ad, e, hb, hc⟩ := h hn
  refine ⟨ad, e, by simpa [World.setCell] using hb, fun j x hx => ?_⟩
  rw [World.cell?_setCell_other _ _ _ _ (by intro k; have h1 := hA ad e; have h2 : p.block = ad.block := by rw [k, add_block]
                                            omega)]
  exact hc j x hx
theorem RowsF.put {base : Nat} {w : World} {v : Value} {ls : List (List Nat)} (h : RowsF base w v ls) {p : Addr} (hp : p.block < base) (u : Value) : RowsF base (w.setCell p u) v ls := by
  obtain ⟨q, e, hb, hq, hr⟩ := h
  refine ⟨q, e, hb, by simpa [World.setCell] using hq, fun j hj => ?_⟩
  obtain ⟨A, c, h1, h2, h3⟩ := hr j hj
  refine ⟨A, c, ?_, slAt_put h2 h3 hp u, h3⟩
  rw [World.cell?_setCell_other _ _ _ _ (by intro k; have h2 : p.block = q := by rw [k, add_block]
                                            omega)]
  exact h1
theorem slAt_laid (w : World) (xs : List Value) (E : TypeId) : SlAt (w.alloc (.cells xs.toArray E)) (some ⟨w.heap.size, 0, none⟩) xs := fun _ => by
  refine ⟨_, rfl, by simp, fun j v hv => ?_⟩
  have e : (⟨w.heap.size, 0, none⟩ : Addr).add j = ⟨w.heap.size, j, none⟩ := by
    unfold Addr.add; split
    · rename_i h; rw [h]
    · rw [Nat.zero_add]
  rw [e]; simpa using hv
def Six (x y : List Nat) (z : Nat) (ls : List (List Nat)) : Prop := ∃ l1 l2 l3 l4 l5 l6, ls = [l1, l2, l3, l4, l5, l6] ∧ (Words64 l1 ∧ l1.map fv = growL x z) ∧ (Words64 l2 ∧ l2.map fv = (addR x y).1) ∧ (Words64 l3 ∧ l3.map fv = (scaleR x z).1) ∧ (Words64 l4 ∧ l4.map fv = (compR x).1) ∧ (Words64 l5 ∧ l5.map fv = (addR x []).1) ∧ (Words64 l6 ∧ l6.map fv = (addR [] x).1)
theorem six_alike {x y : List Nat} {z : Nat} (hx : Words64 x) (hy : Words64 y) {ls ms : List (List Nat)} (h1 : Six x y z ls) (h2 : Six x y z ms) : ls = ms ∧ ∀ k, k < 6 → (ls.getD k []).length ≤ 1152921504606846976 := by
  obtain ⟨l1, l2, l3, l4, l5, l6, rfl, ⟨a1, a2⟩, ⟨b1, b2⟩, ⟨c1, c2⟩, ⟨d1, d2⟩, ⟨e1, e2⟩, ⟨f1, f2⟩⟩ := h1
  obtain ⟨m1, m2, m3, m4, m5, m6, rfl, ⟨a3, a4⟩, ⟨b3, b4⟩, ⟨c3, c4⟩, ⟨d3, d4⟩, ⟨e3, e4⟩, ⟨f3, f4⟩⟩ := h2
  have hn : Words64 [] := fun x hx => by cases hx
  obtain ⟨r1, _, n1⟩ := grow_alike hx a1 a3 a2 a4
  obtain ⟨r2, _, n2⟩ := add_alike hx hy b1 b3 b2 b4
  obtain ⟨r3, _, n3⟩ := scale_alike hx c1 c3 c2 c4
  obtain ⟨r4, _, n4⟩ := comp_alike hx d1 d3 d2 d4
  obtain ⟨r5, _, n5⟩ := add_alike hx hn e1 e3 e2 e4
  obtain ⟨r6, _, n6⟩ := add_alike hn hx f1 f3 f2 f4
  subst r1 r2 r3 r4 r5 r6
  refine ⟨rfl, fun k hk => ?_⟩
  match k, hk with
  | 0, _ => exact n1
  | 1, _ => exact n2
  | 2, _ => exact n3
  | 3, _ => exact n4
  | 4, _ => exact n5
  | 5, _ => exact n6
  | k + 6, hk => omega
theorem rows_laid {base : Nat} {w : World} {l1 l2 l3 l4 l5 l6 : List Nat} {A1 A2 A3 A4 A5 A6 : Option Addr} {c1 c2 c3 c4 c5 c6 : Nat} (hb : base ≤ w.heap.size)
    (h1 : SlAt w A1 (f64v l1) ∧ ∀ ad, A1 = some ad → base ≤ ad.block) (h2 : SlAt w A2 (f64v l2) ∧ ∀ ad, A2 = some ad → base ≤ ad.block) (h3 : SlAt w A3 (f64v l3) ∧ ∀ ad, A3 = some ad → base ≤ ad.block)
    (h4 : SlAt w A4 (f64v l4) ∧ ∀ ad, A4 = some ad → base ≤ ad.block) (h5 : SlAt w A5 (f64v l5) ∧ ∀ ad, A5 = some ad → base ≤ ad.block) (h6 : SlAt w A6 (f64v l6) ∧ ∀ ad, A6 = some ad → base ≤ ad.block) (E : TypeId) :
    RowsF base (w.alloc (.cells #[.slice A1 l1.length c1, .slice A2 l2.length c2, .slice A3 l3.length c3, .slice A4 l4.length c4, .slice A5 l5.length c5, .slice A6 l6.length c6] E)) (.slice (some ⟨w.heap.size, 0, none⟩) 6 6) [l1, l2, l3, l4, l5, l6] := by
  have hi : Within w (w.alloc (.cells #[.slice A1 l1.length c1, .slice A2 l2.length c2, .slice A3 l3.length c3, .slice A4 l4.length c4, .slice A5 l5.length c5, .slice A6 l6.length c6] E)) := (Within.refl w).alloc _
  obtain ⟨ad, e, _, hc⟩ := slAt_laid w [.slice A1 l1.length c1, .slice A2 l2.length c2, .slice A3 l3.length c3, .slice A4 l4.length c4, .slice A5 l5.length c5, .slice A6 l6.length c6] E (by simp)
  obtain rfl := Option.some.inj e
  refine ⟨_, rfl, hb, by simp, fun k hk => ?_⟩
  match k, hk with
  | 0, _ => exact ⟨A1, c1, hc 0 _ rfl, h1.1.of hi, h1.2⟩
  | 1, _ => exact ⟨A2, c2, hc 1 _ rfl, h2.1.of hi, h2.2⟩
  | 2, _ => exact ⟨A3, c3, hc 2 _ rfl, h3.1.of hi, h3.2⟩
  | 3, _ => exact ⟨A4, c4, hc 3 _ rfl, h4.1.of hi, h4.2⟩
  | 4, _ => exact ⟨A5, c5, hc 4 _ rfl, h5.1.of hi, h5.2⟩
  | 5, _ => exact ⟨A6, c6, hc 5 _ rfl, h6.1.of hi, h6.2⟩
  | k + 6, hk => omega
theorem ge_of {w w' : World} {A : Option Addr} {base : Nat} (h : ∀ ad, A = some ad → w'.heap.size ≤ ad.block) (hb : base ≤ w'.heap.size) : ∀ ad, A = some ad → base ≤ ad.block := fun ad e => Nat.le_trans hb (h ad e)
set_option maxRecDepth 100000 in
set_option maxHeartbeats 4000000 in
theorem answers_any (A B : Option Addr) (c d : Nat) (x y : List Nat) (hw : Words64 x) (hwf : Words64 y) (hl : x.length * 8 ≤ 140737488355328) (hlf : y.length * 8 ≤ 140737488355328) (z : Nat) (hz : z < 18446744073709551616) (w : World) (hT : Tab w) (hr : SlAt w A (f64v x)) (hrf : SlAt w B (f64v y)) : Calls Tryd.prog 10 #[.slice A x.length c, .slice B y.length d, .float .f64 z] w fun e w' => ∃ v ls, e = .returned v ∧ RowsF w.heap.size w' v ls ∧ Six x y z ls ∧ Within w w' := by
  have HR := Lib.hid hr; have HRF := Lib.hid hrf; have HT := Lib.hid hT; clear hr hrf hT
  have hln : ([] : List Nat).length * 8 ≤ 140737488355328 := by decide
  have hl2 : x.length ≤ 1152921504606846976 := by omega
  have hn : Words64 [] := fun x hx => by cases hx
  have G1 := Lib.hid (fun w hT hr => eGrow_any A c x hw hl2 z hz w hT hr)
  have G2 := Lib.hid (fun w hT hr hr2 => eAdd_any A B c d x y hw hwf hl hlf w hT hr hr2)
  have G3 := Lib.hid (fun w hT hr => eScale_any A c x hw hl2 z hz w hT hr)
  have G4 := Lib.hid (fun w hT hr => eComp_any A c x hw hl2 w hT hr)
  have G5 : Hid (∀ w, Tab w → SlAt w A (f64v x) → Calls Tryd.prog 22 #[.slice A x.length c, .slice none 0 0] w (ResF w (addR x []).1 (addR x []).2)) := Lib.hid (fun w hT hr => eAdd_any A none c 0 x [] hw hn hl hln w hT hr SlAt.nil)
  have G6 : Hid (∀ w, Tab w → SlAt w A (f64v x) → Calls Tryd.prog 22 #[.slice none 0 0, .slice A x.length c] w (ResF w (addR [] x).1 (addR [] x).2)) := Lib.hid (fun w hT hr => eAdd_any none A 0 c [] x hn hw hln hl w hT SlAt.nil hr)
  obtain ⟨s1, hs1⟩ : ∃ s, s = growL x z := ⟨_, rfl⟩
  obtain ⟨s2, hs2⟩ : ∃ s, s = (addR x y).1 := ⟨_, rfl⟩
  obtain ⟨s3, hs3⟩ : ∃ s, s = (scaleR x z).1 := ⟨_, rfl⟩
  obtain ⟨s4, hs4⟩ : ∃ s, s = (compR x).1 := ⟨_, rfl⟩
  obtain ⟨s5, hs5⟩ : ∃ s, s = (addR x []).1 := ⟨_, rfl⟩
  obtain ⟨s6, hs6⟩ : ∃ s, s = (addR [] x).1 := ⟨_, rfl⟩
  obtain ⟨r1, hr1⟩ : ∃ s, s = growEr x z := ⟨_, rfl⟩
  rw [← hs1, ← hr1] at G1
  clear hr1
  obtain ⟨r2, hr2⟩ : ∃ s, s = (addR x y).2 := ⟨_, rfl⟩
  rw [← hs2, ← hr2] at G2
  clear hr2
  obtain ⟨r3, hr3⟩ : ∃ s, s = (scaleR x z).2 := ⟨_, rfl⟩
  rw [← hs3, ← hr3] at G3
  clear hr3
  obtain ⟨r4, hr4⟩ : ∃ s, s = (compR x).2 := ⟨_, rfl⟩
  rw [← hs4, ← hr4] at G4
  clear hr4
  obtain ⟨r5, hr5⟩ : ∃ s, s = (addR x []).2 := ⟨_, rfl⟩
  rw [← hs5, ← hr5] at G5
  clear hr5
  obtain ⟨r6, hr6⟩ : ∃ s, s = (addR [] x).2 := ⟨_, rfl⟩
  rw [← hs6, ← hr6] at G6
  clear hr6
  have SIX : Hid (∀ l1 l2 l3 l4 l5 l6, (Words64 l1 ∧ l1.map fv = s1) → (Words64 l2 ∧ l2.map fv = s2) → (Words64 l3 ∧ l3.map fv = s3) → (Words64 l4 ∧ l4.map fv = s4) → (Words64 l5 ∧ l5.map fv = s5) → (Words64 l6 ∧ l6.map fv = s6) → Six x y z [l1, l2, l3, l4, l5, l6]) := Lib.hid (by subst hs1 hs2 hs3 hs4 hs5 hs6; exact fun l1 l2 l3 l4 l5 l6 h1 h2 h3 h4 h5 h6 => ⟨l1, l2, l3, l4, l5, l6, rfl, h1, h2, h3, h4, h5, h6⟩)
  clear hs1 hs2 hs3 hs4 hs5 hs6 hw hwf
  have WB0 : Within w w := Within.refl w
  go_enter Tryd.func10, Tryd.ntmps10
  go_wp2_with fail
  refine (G1.out _ (HT.out.of (by repeat (first | with_reducible exact Within.refl _ | with_reducible assumption | with_reducible refine arW_within ?_ _ _ _ | with_reducible refine Within.alloc ?_ _ | with_reducible refine Within.drew ?_ | with_reducible refine Within.trans ?_ (by assumption)))) (HR.out.of (by repeat (first | with_reducible exact Within.refl _ | with_reducible assumption | with_reducible refine arW_within ?_ _ _ _ | with_reducible refine Within.alloc ?_ _ | with_reducible refine Within.drew ?_ | with_reducible refine Within.trans ?_ (by assumption))))).mono ?_; rintro e1 w1 ⟨v1, l1, rfl, hO1, hw1, hm1, hb1⟩
  obtain ⟨A1, c1, rfl, _, hs1, hg1⟩ := hO1.form
  have HS1 := Lib.hid hs1; have HM1 := Lib.hid (And.intro hw1 hm1); have HG1 := Lib.hid (ge_of (w := w) (base := w.heap.size) hg1 (show Within w _ from (by repeat (first | with_reducible exact Within.refl _ | with_reducible assumption | with_reducible refine arW_within ?_ _ _ _ | with_reducible refine Within.alloc ?_ _ | with_reducible refine Within.drew ?_ | with_reducible refine Within.trans ?_ (by assumption)))).size); clear hs1 hO1 hm1 hw1 hg1
  go_wp2_with fail
  refine (G2.out _ (HT.out.of (by repeat (first | with_reducible exact Within.refl _ | with_reducible assumption | with_reducible refine arW_within ?_ _ _ _ | with_reducible refine Within.alloc ?_ _ | with_reducible refine Within.drew ?_ | with_reducible refine Within.trans ?_ (by assumption)))) (HR.out.of (by repeat (first | with_reducible exact Within.refl _ | with_reducible assumption | with_reducible refine arW_within ?_ _ _ _ | with_reducible refine Within.alloc ?_ _ | with_reducible refine Within.drew ?_ | with_reducible refine Within.trans ?_ (by assumption)))) (HRF.out.of (by repeat (first | with_reducible exact Within.refl _ | with_reducible assumption | with_reducible refine arW_within ?_ _ _ _ | with_reducible refine Within.alloc ?_ _ | with_reducible refine Within.drew ?_ | with_reducible refine Within.trans ?_ (by assumption))))).mono ?_; rintro e2 w2 ⟨v2, l2, rfl, hO2, hw2, hm2, hb2⟩
  obtain ⟨A2, c2, rfl, _, hs2, hg2⟩ := hO2.form
  have HS2 := Lib.hid hs2; have HM2 := Lib.hid (And.intro hw2 hm2); have HG2 := Lib.hid (ge_of (w := w) (base := w.heap.size) hg2 (show Within w _ from (by repeat (first | with_reducible exact Within.refl _ | with_reducible assumption | with_reducible refine arW_within ?_ _ _ _ | with_reducible refine Within.alloc ?_ _ | with_reducible refine Within.drew ?_ | with_reducible refine Within.trans ?_ (by assumption)))).size); clear hs2 hO2 hm2 hw2 hg2
  go_wp2_with fail
  refine (G3.out _ (HT.out.of (by repeat (first | with_reducible exact Within.refl _ | with_reducible assumption | with_reducible refine arW_within ?_ _ _ _ | with_reducible refine Within.alloc ?_ _ | with_reducible refine Within.drew ?_ | with_reducible refine Within.trans ?_ (by assumption)))) (HR.out.of (by repeat (first | with_reducible exact Within.refl _ | with_reducible assumption | with_reducible refine arW_within ?_ _ _ _ | with_reducible refine Within.alloc ?_ _ | with_reducible refine Within.drew ?_ | with_reducible refine Within.trans ?_ (by assumption))))).mono ?_; rintro e3 w3 ⟨v3, l3, rfl, hO3, hw3, hm3, hb3⟩
  obtain ⟨A3, c3, rfl, _, hs3, hg3⟩ := hO3.form
  have HS3 := Lib.hid hs3; have HM3 := Lib.hid (And.intro hw3 hm3); have HG3 := Lib.hid (ge_of (w := w) (base := w.heap.size) hg3 (show Within w _ from (by repeat (first | with_reducible exact Within.refl _ | with_reducible assumption | with_reducible refine arW_within ?_ _ _ _ | with_reducible refine Within.alloc ?_ _ | with_reducible refine Within.drew ?_ | with_reducible refine Within.trans ?_ (by assumption)))).size); clear hs3 hO3 hm3 hw3 hg3
  go_wp2_with fail
  refine (G4.out _ (HT.out.of (by repeat (first | with_reducible exact Within.refl _ | with_reducible assumption | with_reducible refine arW_within ?_ _ _ _ | with_reducible refine Within.alloc ?_ _ | with_reducible refine Within.drew ?_ | with_reducible refine Within.trans ?_ (by assumption)))) (HR.out.of (by repeat (first | with_reducible exact Within.refl _ | with_reducible assumption | with_reducible refine arW_within ?_ _ _ _ | with_reducible refine Within.alloc ?_ _ | with_reducible refine Within.drew ?_ | with_reducible refine Within.trans ?_ (by assumption))))).mono ?_; rintro e4 w4 ⟨v4, l4, rfl, hO4, hw4, hm4, hb4⟩
  obtain ⟨A4, c4, rfl, _, hs4, hg4⟩ := hO4.form
  have HS4 := Lib.hid hs4; have HM4 := Lib.hid (And.intro hw4 hm4); have HG4 := Lib.hid (ge_of (w := w) (base := w.heap.size) hg4 (show Within w _ from (by repeat (first | with_reducible exact Within.refl _ | with_reducible assumption | with_reducible refine arW_within ?_ _ _ _ | with_reducible refine Within.alloc ?_ _ | with_reducible refine Within.drew ?_ | with_reducible refine Within.trans ?_ (by assumption)))).size); clear hs4 hO4 hm4 hw4 hg4
  go_wp2_with fail
  refine (G5.out _ (HT.out.of (by repeat (first | with_reducible exact Within.refl _ | with_reducible assumption | with_reducible refine arW_within ?_ _ _ _ | with_reducible refine Within.alloc ?_ _ | with_reducible refine Within.drew ?_ | with_reducible refine Within.trans ?_ (by assumption)))) (HR.out.of (by repeat (first | with_reducible exact Within.refl _ | with_reducible assumption | with_reducible refine arW_within ?_ _ _ _ | with_reducible refine Within.alloc ?_ _ | with_reducible refine Within.drew ?_ | with_reducible refine Within.trans ?_ (by assumption))))).mono ?_; rintro e5 w5 ⟨v5, l5, rfl, hO5, hw5, hm5, hb5⟩
  obtain ⟨A5, c5, rfl, _, hs5, hg5⟩ := hO5.form
  have HS5 := Lib.hid hs5; have HM5 := Lib.hid (And.intro hw5 hm5); have HG5 := Lib.hid (ge_of (w := w) (base := w.heap.size) hg5 (show Within w _ from (by repeat (first | with_reducible exact Within.refl _ | with_reducible assumption | with_reducible refine arW_within ?_ _ _ _ | with_reducible refine Within.alloc ?_ _ | with_reducible refine Within.drew ?_ | with_reducible refine Within.trans ?_ (by assumption)))).size); clear hs5 hO5 hm5 hw5 hg5
  go_wp2_with fail
  refine (G6.out _ (HT.out.of (by repeat (first | with_reducible exact Within.refl _ | with_reducible assumption | with_reducible refine arW_within ?_ _ _ _ | with_reducible refine Within.alloc ?_ _ | with_reducible refine Within.drew ?_ | with_reducible refine Within.trans ?_ (by assumption)))) (HR.out.of (by repeat (first | with_reducible exact Within.refl _ | with_reducible assumption | with_reducible refine arW_within ?_ _ _ _ | with_reducible refine Within.alloc ?_ _ | with_reducible refine Within.drew ?_ | with_reducible refine Within.trans ?_ (by assumption))))).mono ?_; rintro e6 w6 ⟨v6, l6, rfl, hO6, hw6, hm6, hb6⟩
  obtain ⟨A6, c6, rfl, _, hs6, hg6⟩ := hO6.form
  have HS6 := Lib.hid hs6; have HM6 := Lib.hid (And.intro hw6 hm6); have HG6 := Lib.hid (ge_of (w := w) (base := w.heap.size) hg6 (show Within w _ from (by repeat (first | with_reducible exact Within.refl _ | with_reducible assumption | with_reducible refine arW_within ?_ _ _ _ | with_reducible refine Within.alloc ?_ _ | with_reducible refine Within.drew ?_ | with_reducible refine Within.trans ?_ (by assumption)))).size); clear hs6 hO6 hm6 hw6 hg6
  have HB := Lib.hid ((show Within w w6 from (by repeat (first | with_reducible exact Within.refl _ | with_reducible assumption | with_reducible refine arW_within ?_ _ _ _ | with_reducible refine Within.alloc ?_ _ | with_reducible refine Within.drew ?_ | with_reducible refine Within.trans ?_ (by assumption)))).size)
  go_wp2
  go_ret
  exact ⟨_, [l1, l2, l3, l4, l5, l6], rfl, rows_laid HB.out ⟨HS1.out.of (by repeat (first | with_reducible exact Within.refl _ | with_reducible assumption | with_reducible refine arW_within ?_ _ _ _ | with_reducible refine Within.alloc ?_ _ | with_reducible refine Within.drew ?_ | with_reducible refine Within.trans ?_ (by assumption))), HG1.out⟩ ⟨HS2.out.of (by repeat (first | with_reducible exact Within.refl _ | with_reducible assumption | with_reducible refine arW_within ?_ _ _ _ | with_reducible refine Within.alloc ?_ _ | with_reducible refine Within.drew ?_ | with_reducible refine Within.trans ?_ (by assumption))), HG2.out⟩ ⟨HS3.out.of (by repeat (first | with_reducible exact Within.refl _ | with_reducible assumption | with_reducible refine arW_within ?_ _ _ _ | with_reducible refine Within.alloc ?_ _ | with_reducible refine Within.drew ?_ | with_reducible refine Within.trans ?_ (by assumption))), HG3.out⟩ ⟨HS4.out.of (by repeat (first | with_reducible exact Within.refl _ | with_reducible assumption | with_reducible refine arW_within ?_ _ _ _ | with_reducible refine Within.alloc ?_ _ | with_reducible refine Within.drew ?_ | with_reducible refine Within.trans ?_ (by assumption))), HG4.out⟩ ⟨HS5.out.of (by repeat (first | with_reducible exact Within.refl _ | with_reducible assumption | with_reducible refine arW_within ?_ _ _ _ | with_reducible refine Within.alloc ?_ _ | with_reducible refine Within.drew ?_ | with_reducible refine Within.trans ?_ (by assumption))), HG5.out⟩ ⟨HS6.out.of (by repeat (first | with_reducible exact Within.refl _ | with_reducible assumption | with_reducible refine arW_within ?_ _ _ _ | with_reducible refine Within.alloc ?_ _ | with_reducible refine Within.drew ?_ | with_reducible refine Within.trans ?_ (by assumption))), HG6.out⟩ _, SIX.out _ _ _ _ _ _ HM1.out HM2.out HM3.out HM4.out HM5.out HM6.out, (by repeat (first | with_reducible exact Within.refl _ | with_reducible assumption | with_reducible refine arW_within ?_ _ _ _ | with_reducible refine Within.alloc ?_ _ | with_reducible refine Within.drew ?_ | with_reducible refine Within.trans ?_ (by assumption)))⟩
end Go.Proofs.YtjmaggfddinbkaaDoor
end

section
namespace Go.Proofs.YtjmaggfddinbkaaDoor
open Go.RowKit
theorem run_store_flt (P : Program) (w : World) (a : Addr) (k : FloatKind) (x : Nat) (m : Mode) : (store a (.float k x) m).run P w = stored P w a (.float k x) m := run_store P w a _ m rfl
attribute [local go_sem] run_store_flt
theorem addr0 (q k : Nat) : (⟨q, 0, none⟩ : Addr).add k = ⟨q, k, none⟩ := by
  unfold Addr.add; split
  · rename_i h; rw [h]
  · rw [Nat.zero_add]
theorem RowsF.at {base : Nat} {w : World} {q : Nat} {ls : List (List Nat)} (h : RowsF base w (.slice (some ⟨q, 0, none⟩) 6 6) ls) {k : Nat} (hk : k < 6) : q < w.heap.size ∧ ∃ A c, w.cell? ⟨q, k, none⟩ = some (.slice A (ls.getD k []).length c) ∧ SlAt w A (f64v (ls.getD k [])) := by
  obtain ⟨q', e, _, hq, hr⟩ := h
  obtain ⟨e1, _, _⟩ := Value.slice.inj e
  obtain rfl : q' = q := by injection e1 with e1; injection e1 with e1; exact e1.symm
  obtain ⟨A, c, h1, h2, _⟩ := hr k hk
  exact ⟨hq, A, c, by rw [← addr0]; exact h1, h2⟩
def Wr (lo hi : Nat) (w : World) (n : Nat) (A : Option Addr) : Prop := 0 < n → ∃ g, A = some ⟨g, 0, none⟩ ∧ lo ≤ g ∧ g < hi ∧ g < w.heap.size ∧ (∀ j, j < n → ∃ x, w.cell? ⟨g, j, none⟩ = some (.float .f64 x)) ∧ ∀ j, w.frozen? ⟨g, j, none⟩ = false
theorem Wr.of {lo hi n : Nat} {w w' : World} {A : Option Addr} (h : Wr lo hi w n A) (k : Within w w') : Wr lo hi w' n A := fun hn => by
  obtain ⟨g, e, h1, h2, h3, h4, h5⟩ := h hn
  refine ⟨g, e, h1, h2, Nat.lt_of_lt_of_le h3 k.size, fun j hj => ?_, fun j => (k.frozens _ j h3).trans (h5 j)⟩
  obtain ⟨x, hx⟩ := h4 j hj
  exact ⟨x, (k.cells _ _ h3).trans hx⟩
theorem Wr.put {lo hi n : Nat} {w : World} {A : Option Addr} (h : Wr lo hi w n A) (p : Addr) (y : Nat) : Wr lo hi (w.setCell p (.float .f64 y)) n A := fun hn => by
  obtain ⟨g, e, h1, h2, h3, h4, h5⟩ := h hn
  refine ⟨g, e, h1, h2, by simpa [World.setCell] using h3, fun j hj => ?_, fun j => by rw [World.frozen?_setCell]; exact h5 j⟩
  obtain ⟨x, hx⟩ := h4 j hj
  by_cases hp : p = ⟨g, j, none⟩
  · subst hp; exact ⟨y, World.cell?_setCell_same _ _ _ hx⟩
  · exact ⟨x, by rw [World.cell?_setCell_other _ _ _ _ hp]; exact hx⟩
theorem owns_wr {w : World} {base : Nat} {v : Value} {l : List Nat} (h : OwnF w base v l) : ∃ A c, v = .slice A l.length c ∧ SlAt w A (f64v l) ∧ Wr base w.heap.size w l.length A := by
  obtain ⟨A, c, e, _, hs, hg⟩ := h.form
  refine ⟨A, c, e, hs, fun hn => ?_⟩
  rcases h.2 with ⟨_, h0⟩ | ⟨g, cap, cur, e2, hg2, hb, _, _, _, _⟩
  · omega
  · rw [e] at e2
    obtain ⟨rfl, _, _⟩ := Value.slice.inj e2
    obtain ⟨hlt, _⟩ := Array.getElem?_eq_some_iff.1 hb
    refine ⟨g, rfl, hg2, hlt, hlt, fun j hj => ?_, fun j => ?_⟩
    · obtain ⟨ad, e3, _, hc⟩ := hs.at hj
      obtain rfl := Option.some.inj e3
      refine ⟨l.getD j 0, ?_⟩
      rw [← hc]; congr 1
      unfold Addr.add; split
      · rename_i h; rw [h]
      · rw [Nat.zero_add]
    · unfold World.frozen?; rw [hb]; simp
def UV (lo hi q : Nat) (w : World) : Prop := hi ≤ q ∧ q < w.heap.size ∧ ∀ k, k < 2 → ∃ A n c, w.cell? ((⟨q, 0, none⟩ : Addr).add k) = some (.slice A n c) ∧ n ≤ 1152921504606846976 ∧ Wr lo hi w n A
theorem UV.of {lo hi q : Nat} {w w' : World} (h : UV lo hi q w) (k : Within w w') : UV lo hi q w' := ⟨h.1, Nat.lt_of_lt_of_le h.2.1 k.size, fun j hj => by
  obtain ⟨A, n, c, h1, h2, h3⟩ := h.2.2 j hj
  exact ⟨A, n, c, (k.cell (by rw [add_block]; exact h.2.1)).trans h1, h2, h3.of k⟩⟩
theorem UV.put {lo hi q : Nat} {w : World} (h : UV lo hi q w) {p : Addr} (hp : p.block < hi) (y : Nat) : UV lo hi q (w.setCell p (.float .f64 y)) := ⟨h.1, by simpa [World.setCell] using h.2.1, fun j hj => by
  obtain ⟨A, n, c, h1, h2, h3⟩ := h.2.2 j hj
  refine ⟨A, n, c, ?_, h2, h3.put p y⟩
  rw [World.cell?_setCell_other _ _ _ _ (by intro k; have h2 : p.block = q := by rw [k, add_block]
                                            have := h.1; omega)]
  exact h1⟩
theorem uv_laid {lo hi : Nat} {w : World} {A B : Option Addr} {n m c d : Nat} (hh : hi ≤ w.heap.size) (hn : n ≤ 1152921504606846976) (hm : m ≤ 1152921504606846976) (h1 : Wr lo hi w n A) (h2 : Wr lo hi w m B) (E : TypeId) : UV lo hi w.heap.size (w.alloc (.cells #[.slice A n c, .slice B m d] E)) := by
  have hi' : Within w (w.alloc (.cells #[.slice A n c, .slice B m d] E)) := (Within.refl w).alloc _
  obtain ⟨ad, e, _, hc⟩ := slAt_laid w [.slice A n c, .slice B m d] E (by simp)
  obtain rfl := Option.some.inj e
  refine ⟨hh, by simp, fun k hk => ?_⟩
  match k, hk with
  | 0, _ => exact ⟨A, n, c, hc 0 _ rfl, hn, h1.of hi'⟩
  | 1, _ => exact ⟨B, m, d, hc 1 _ rfl, hm, h2.of hi'⟩
  | k + 2, hk => omega
theorem Wr.hi {lo hi hi' n : Nat} {w : World} {A : Option Addr} (h : Wr lo hi w n A) (k : hi ≤ hi') : Wr lo hi' w n A := fun hn => by
  obtain ⟨g, e, h1, h2, r⟩ := h hn
  exact ⟨g, e, h1, by omega, r⟩
theorem Wr.lo {lo lo' hi n : Nat} {w : World} {A : Option Addr} (h : Wr lo hi w n A) (k : lo' ≤ lo) : Wr lo' hi w n A := fun hn => by
  obtain ⟨g, e, h1, r⟩ := h hn
  exact ⟨g, e, by omega, r⟩
set_option maxRecDepth 100000 in
set_option maxHeartbeats 4000000 in
theorem fresh_walk (A : Option Addr) (c : Nat) (x : List Nat) (hwx : Words64 x) (hlx : x.length * 8 ≤ 140737488355328) (B : Option Addr) (d : Nat) (y : List Nat) (hwy : Words64 y) (hly : y.length * 8 ≤ 140737488355328) (z : Nat) (hz : z < 18446744073709551616) (w : World) (hT : Tab w) (hrx : SlAt w A (u64v x)) (hry : SlAt w B (u64v y)) : Calls Tryd.prog 4 #[.slice A x.length c, .slice B y.length d, .int .u64 (z : Int)] w fun e w' => e = .returned (.bool true) ∧ Within w w' := by
  have RX := Lib.hid hrx; have RY := Lib.hid hry; have WX := Lib.hid hwx; have WY := Lib.hid hwy; have HT := Lib.hid hT; clear hrx hry hwx hwy hT
  have hlx2 : x.length ≤ 1152921504606846976 := by omega
  have hly2 : y.length ≤ 1152921504606846976 := by omega
  have AW := Lib.hid (fun w hT => awake_true w hT)
  have OX := Lib.hid (fun w hr => Rof64_any A c x WX.out hlx w hr)
  have OY := Lib.hid (fun w hr => Rof64_any B d y WY.out hly w hr)
  have AN := Lib.hid (fun A B c d w hT hr hr2 => answers_any A B c d x y WX.out WY.out hlx hly z hz w hT hr hr2)
  have SX := Lib.hid (fun A B c d w hr hr2 => Rsamelist_any A B c d x x hlx2 hlx2 w hr hr2)
  have SY := Lib.hid (fun A B c d w hr hr2 => Rsamelist_any A B c d y y hly2 hly2 w hr hr2)
  rw [decide_eq_true rfl] at SX SY
  have SIX := Lib.hid (fun ls ms h1 h2 => six_alike (x := x) (y := y) (z := z) WX.out WY.out (ls := ls) (ms := ms) h1 h2)
  clear hz WX WY
  go_enter Tryd.func4, Tryd.ntmps4
  go_wp2_with fail
  refine (OX.out _ (RX.out.of (by repeat (first | with_reducible exact Within.refl _ | with_reducible assumption | with_reducible refine arW_within ?_ _ _ _ | with_reducible refine Within.alloc ?_ _ | with_reducible refine Within.drew ?_ | with_reducible refine Within.trans ?_ (by assumption))))).mono ?_; rintro e1 w1 ⟨v1, rfl, hO1, hb1⟩
  obtain ⟨A1, c1, rfl, hs1, hr1⟩ := owns_wr hO1
  have HS1 := Lib.hid hs1; have HW1 := Lib.hid hr1; clear hs1 hr1 hO1
  go_wp2_with fail
  refine (OY.out _ (RY.out.of (by repeat (first | with_reducible exact Within.refl _ | with_reducible assumption | with_reducible refine arW_within ?_ _ _ _ | with_reducible refine Within.alloc ?_ _ | with_reducible refine Within.drew ?_ | with_reducible refine Within.trans ?_ (by assumption))))).mono ?_; rintro e2 w2 ⟨v2, rfl, hO2, hb2⟩
  obtain ⟨A2, c2, rfl, hs2, hr2⟩ := owns_wr hO2
  have HS2 := Lib.hid hs2; have HW2 := Lib.hid hr2; clear hs2 hr2 hO2
  go_wp2_with fail
  refine (ef_any z _).mono ?_; rintro e0 w0 ⟨rfl, rfl⟩
  have hw2 : Within w w2 := (by repeat (first | with_reducible exact Within.refl _ | with_reducible assumption | with_reducible refine arW_within ?_ _ _ _ | with_reducible refine Within.alloc ?_ _ | with_reducible refine Within.drew ?_ | with_reducible refine Within.trans ?_ (by assumption)))
  go_wp2_with fail
  refine (AN.out A1 A2 c1 c2 _ (HT.out.of hw2) (HS1.out.of hb2) HS2.out).mono ?_; rintro e3 w3 ⟨v3, ls, rfl, hR3, h63, hb3⟩
  obtain ⟨qf, rfl, _⟩ := id hR3
  have HR3 := Lib.hid hR3; have H63 := Lib.hid h63; clear hR3 h63
  go_wp2_with fail
  refine (OX.out _ (RX.out.of (by repeat (first | with_reducible exact Within.refl _ | with_reducible assumption | with_reducible refine arW_within ?_ _ _ _ | with_reducible refine Within.alloc ?_ _ | with_reducible refine Within.drew ?_ | with_reducible refine Within.trans ?_ (by assumption))))).mono ?_; rintro e4 w4 ⟨v4, rfl, hO4, hb4⟩
  obtain ⟨A4, c4, rfl, _, hs4, _⟩ := hO4.form
  have HS4 := Lib.hid hs4; clear hs4 hO4
  go_wp2_with fail
  refine (SX.out _ _ _ _ _ (HS1.out.of (by repeat (first | with_reducible exact Within.refl _ | with_reducible assumption | with_reducible refine arW_within ?_ _ _ _ | with_reducible refine Within.alloc ?_ _ | with_reducible refine Within.drew ?_ | with_reducible refine Within.trans ?_ (by assumption)))) HS4.out).mono ?_; rintro e5 w5 ⟨rfl, hb5⟩
  go_wp2_with fail
  refine (OY.out _ (RY.out.of (by repeat (first | with_reducible exact Within.refl _ | with_reducible assumption | with_reducible refine arW_within ?_ _ _ _ | with_reducible refine Within.alloc ?_ _ | with_reducible refine Within.drew ?_ | with_reducible refine Within.trans ?_ (by assumption))))).mono ?_; rintro e6 w6 ⟨v6, rfl, hO6, hb6⟩
  obtain ⟨A6, c6, rfl, _, hs6, _⟩ := hO6.form
  have HS6 := Lib.hid hs6; clear hs6 hO6
  go_wp2_with fail
  refine (SY.out _ _ _ _ _ (HS2.out.of (by repeat (first | with_reducible exact Within.refl _ | with_reducible assumption | with_reducible refine arW_within ?_ _ _ _ | with_reducible refine Within.alloc ?_ _ | with_reducible refine Within.drew ?_ | with_reducible refine Within.trans ?_ (by assumption)))) HS6.out).mono ?_; rintro e7 w7 ⟨rfl, hb7⟩
  go_wp2_with fail
  refine (AW.out _ (HT.out.of (by repeat (first | with_reducible exact Within.refl _ | with_reducible assumption | with_reducible refine arW_within ?_ _ _ _ | with_reducible refine Within.alloc ?_ _ | with_reducible refine Within.drew ?_ | with_reducible refine Within.trans ?_ (by assumption))))).mono ?_; rintro e8 w8 ⟨rfl, hb8⟩
  have hi3 : Within w3 w8 := (by repeat (first | with_reducible exact Within.refl _ | with_reducible assumption | with_reducible refine arW_within ?_ _ _ _ | with_reducible refine Within.alloc ?_ _ | with_reducible refine Within.drew ?_ | with_reducible refine Within.trans ?_ (by assumption)))
  have hi2 := hb3.trans hi3
  have hw8 := hw2.trans hi2
  have HUV := Lib.hid (uv_laid (c := c1) (d := c2) hi2.size hlx2 hly2 ((HW1.out.hi hb2.size).of (hb2.trans hi2)) ((HW2.out.lo hb1.size).of hi2) 32)
  have HR8 := Lib.hid (HR3.out.of hi3)
  obtain ⟨q, hq⟩ : ∃ q, q = w8.heap.size := ⟨_, rfl⟩
  have hw9 : Within w (w8.alloc (.cells #[.slice A1 x.length c1, .slice A2 y.length c2] 32)) := hw8.alloc _
  have hr9 := HR8.out.of ((Within.refl w8).alloc (.cells #[.slice A1 x.length c1, .slice A2 y.length c2] 32))
  have huv := HUV.out
  rw [← hq] at huv
  obtain ⟨lo, hlo⟩ : ∃ n, n = w.heap.size := ⟨_, rfl⟩
  rw [← hlo] at huv
  obtain ⟨hi, hhi⟩ : ∃ n, n = w2.heap.size := ⟨_, rfl⟩
  rw [← hhi] at huv hr9
  have HLO := Lib.hid hlo; clear hlo hhi
  have HUV9 := Lib.hid huv; have HR9 := Lib.hid hr9; have HW9 := Lib.hid hw9; clear huv hr9 hw9 HUV HR8
  go_wp2
  rw [← hq]
  clear hq
  go_loopw [44] (fun iv wr => ∃ k : Nat, k ≤ 2 ∧ iv = .int .i64 (k : Int) ∧ UV lo hi q wr ∧ RowsF hi wr (.slice (some ⟨qf, 0, none⟩) 6 6) ls ∧ Within w wr) (fun iv _ => 2 - (intOf iv).toNat)
  case atStart => exact ⟨0, Nat.zero_le _, rfl, HUV9.out, HR9.out, HW9.out⟩
  case round =>
    obtain ⟨k, hk, rfl, hU, hR, hin⟩ := hrel
    by_cases hlt : k < 2
    · obtain ⟨Ak, n, ck, hck, hn, hWr⟩ := hU.2.2 k hlt
      rw [addr0] at hck
      have hqs := hU.2.1
      have HU := Lib.hid hU; have HR := Lib.hid hR; have HI := Lib.hid hin; have HWr := Lib.hid hWr; clear hU hR hin hWr
      have gk : decide ((k : Int) < 2) = true := decide_eq_true (by omega)
      go_wp2
      go_loopw [12] (fun iv ws => ∃ j : Nat, j ≤ n ∧ iv = .int .i64 (j : Int) ∧ UV lo hi q ws ∧ Wr lo hi ws n Ak ∧ RowsF hi ws (.slice (some ⟨qf, 0, none⟩) 6 6) ls ∧ Within w ws) (fun iv _ => n - (intOf iv).toNat)
      case atStart => exact ⟨0, Nat.zero_le _, rfl, HU.out, HWr.out, HR.out, HI.out⟩
      case round =>
        obtain ⟨j, hj, rfl, hU, hWr, hR, hin⟩ := hrel
        by_cases hjn : j < n
        · obtain ⟨g, rfl, g1, g2, g3, g4, g5⟩ := hWr (by omega)
          obtain ⟨xo, hxo⟩ := g4 j hjn
          have gfz := g5 j
          have HU2 := Lib.hid (hU.put (p := ⟨g, j, none⟩) g2 4635118810238550016); have HR2 := Lib.hid (hR.put (p := ⟨g, j, none⟩) g2 (.float .f64 4635118810238550016)); have HI2 := Lib.hid (hin.setCell (p := ⟨g, j, none⟩) (by rw [← HLO.out]; exact g1) (.float .f64 4635118810238550016)); have HW2' := Lib.hid (hWr.put ⟨g, j, none⟩ 4635118810238550016); clear hU hR hin hWr g4 g5
          go_wp2
          go_roundw
          case rel => exact ⟨j + 1, hjn, by go_num, HU2.out, HW2'.out, HR2.out, HI2.out⟩
          case measure => simp [intOf]; omega
        · obtain rfl : j = n := by omega
          have HU2 := Lib.hid hU; have HR2 := Lib.hid hR; have HI2 := Lib.hid hin; clear hU hR hin hWr
          go_wp2
          go_roundw
          case rel => exact ⟨k + 1, hlt, by go_num, HU2.out, HR2.out, HI2.out⟩
          case measure => simp [intOf]; omega
    · obtain rfl : k = 2 := by omega
      have HR := Lib.hid hR; have HI := Lib.hid hin; clear hR hin hU
      clear HUV9 HR9 HW9
      go_upto_region 13 with fail
      clear HS1 HS2 HW1 HW2 HR3
      have hwr := HI.out
      go_wp2_with fail
      refine (OX.out _ (RX.out.of (by repeat (first | with_reducible exact Within.refl _ | with_reducible assumption | with_reducible refine arW_within ?_ _ _ _ | with_reducible refine Within.alloc ?_ _ | with_reducible refine Within.drew ?_ | with_reducible refine Within.trans ?_ (by assumption))))).mono ?_; rintro e11 w11 ⟨v11, rfl, hO11, hb11⟩
      obtain ⟨A11, c11, rfl, hs11, hr11⟩ := owns_wr hO11
      have HS11 := Lib.hid hs11; have HW11 := Lib.hid hr11; clear hs11 hr11 hO11
      go_wp2_with fail
      refine (OY.out _ (RY.out.of (by repeat (first | with_reducible exact Within.refl _ | with_reducible assumption | with_reducible refine arW_within ?_ _ _ _ | with_reducible refine Within.alloc ?_ _ | with_reducible refine Within.drew ?_ | with_reducible refine Within.trans ?_ (by assumption))))).mono ?_; rintro e12 w12 ⟨v12, rfl, hO12, hb12⟩
      obtain ⟨A12, c12, rfl, hs12, hr12⟩ := owns_wr hO12
      have HS12 := Lib.hid hs12; have HW12 := Lib.hid hr12; clear hs12 hr12 hO12
      go_wp2_with fail
      refine (ef_any z _).mono ?_; rintro e0 w0 ⟨rfl, rfl⟩
      go_wp2_with fail
      refine (AN.out A11 A12 c11 c12 _ (HT.out.of (by repeat (first | with_reducible exact Within.refl _ | with_reducible assumption | with_reducible refine arW_within ?_ _ _ _ | with_reducible refine Within.alloc ?_ _ | with_reducible refine Within.drew ?_ | with_reducible refine Within.trans ?_ (by assumption)))) (HS11.out.of hb12) HS12.out).mono ?_; rintro e13 w13 ⟨v13, ms, rfl, hR13, h613, hb13⟩
      obtain ⟨qs, rfl, _⟩ := id hR13
      obtain ⟨rfl, hlen⟩ := SIX.out _ _ H63.out h613
      have hir : Within wr w13 := (by repeat (first | with_reducible exact Within.refl _ | with_reducible assumption | with_reducible refine arW_within ?_ _ _ _ | with_reducible refine Within.alloc ?_ _ | with_reducible refine Within.drew ?_ | with_reducible refine Within.trans ?_ (by assumption)))
      have hw13 := HI.out.trans hir
      obtain ⟨wS, hwS⟩ : ∃ n, n = w12.heap.size := ⟨_, rfl⟩
      rw [← hwS] at hR13
      have HR13 := Lib.hid hR13; have HF := Lib.hid (HR.out.of hir); have HLN := Lib.hid hlen; have HW13 := Lib.hid hw13; clear hR13 hlen h613 hwS hw13 hir
      go_wp2
      go_loopw [14] (fun iv wr => ∃ k : Nat, k ≤ 6 ∧ iv = .int .i64 (k : Int) ∧ Within w13 wr) (fun iv _ => 6 - (intOf iv).toNat)
      case atStart => exact ⟨0, Nat.zero_le _, rfl, Within.refl _⟩
      case round =>
        rename_i wr' _
        obtain ⟨k, hk, rfl, hin⟩ := hrel
        by_cases hlt : k < 6
        · obtain ⟨hq1, Ak, ck, hca, sa⟩ := (HF.out.of hin).at hlt
          obtain ⟨hq2, Bk, dk, hcb, sb⟩ := (HR13.out.of hin).at hlt
          have hln := HLN.out k hlt
          obtain ⟨l, hl⟩ : ∃ l, l = ls.getD k [] := ⟨_, rfl⟩
          rw [← hl] at hca hcb sa sb hln
          clear hl
          have SM := Lib.hid (fun A B c d w h1 h2 => Rsamelist_any A B c d l l hln hln w h1 h2)
          rw [decide_eq_true rfl] at SM
          have SA := Lib.hid sa; have SB := Lib.hid sb; have HIN := Lib.hid hin; clear sa sb hin
          go_wp2
          refine wp_region_schG (fun W => W.cell? ⟨qf, k, none⟩ = some (.slice Ak l.length ck) ∧ W.cell? ⟨qs, k, none⟩ = some (.slice Bk l.length dk) ∧ qf < W.heap.size ∧ qs < W.heap.size ∧ Within wr W) 9 (.firm 0 (.firm 1 (.firm 2 (.firm 3 (.firm 4 (.firm 5 (.firm 6 (.firm 7 (.one 8 (.one 9 .nil)))))))))) (by kernel_rfl) (by kernel_rfl) ⟨hca, hcb, hq1, hq2, Within.refl _⟩ ?_
          rintro w0 ⟨cx, cy, b1, b2, hw0⟩
          try simp only [Act.put, List.setIfInBounds_toArray, List.set_cons_zero, List.set_cons_succ]
          apply sch_firm rfl rfl (by repeat (first | with_reducible exact Within.refl _ | with_reducible assumption | with_reducible refine Within.alloc ?_ _ | with_reducible refine Within.drew ?_ | with_reducible refine Within.drewN ?_ _ | with_reducible refine Within.setCell ?_ (by first | (simp; done) | (simp; omega)) _ | with_reducible refine Within.trans ?_ (by assumption)))
          · intro wq hq
            have hcq := hq.cells
            have gx := (hq.cells _ _ b1).trans cx
            have gxb := Nat.lt_of_lt_of_le b1 hq.size
            have gy := (hq.cells _ _ b2).trans cy
            have gyb := Nat.lt_of_lt_of_le b2 hq.size
            clear hq
            go_simp
            first | rfl | (trace_state; fail)
          try simp only [Act.put, List.setIfInBounds_toArray, List.set_cons_zero, List.set_cons_succ]
          apply sch_firm rfl rfl (by repeat (first | with_reducible exact Within.refl _ | with_reducible assumption | with_reducible refine Within.alloc ?_ _ | with_reducible refine Within.drew ?_ | with_reducible refine Within.drewN ?_ _ | with_reducible refine Within.setCell ?_ (by first | (simp; done) | (simp; omega)) _ | with_reducible refine Within.trans ?_ (by assumption)))
          · intro wq hq
            have hcq := hq.cells
            have gx := (hq.cells _ _ b1).trans cx
            have gxb := Nat.lt_of_lt_of_le b1 hq.size
            have gy := (hq.cells _ _ b2).trans cy
            have gyb := Nat.lt_of_lt_of_le b2 hq.size
            clear hq
            go_simp
            first | rfl | (trace_state; fail)
          try simp only [Act.put, List.setIfInBounds_toArray, List.set_cons_zero, List.set_cons_succ]
          apply sch_firm rfl rfl (by repeat (first | with_reducible exact Within.refl _ | with_reducible assumption | with_reducible refine Within.alloc ?_ _ | with_reducible refine Within.drew ?_ | with_reducible refine Within.drewN ?_ _ | with_reducible refine Within.setCell ?_ (by first | (simp; done) | (simp; omega)) _ | with_reducible refine Within.trans ?_ (by assumption)))
          · intro wq hq
            have hcq := hq.cells
            have gx := (hq.cells _ _ b1).trans cx
            have gxb := Nat.lt_of_lt_of_le b1 hq.size
            have gy := (hq.cells _ _ b2).trans cy
            have gyb := Nat.lt_of_lt_of_le b2 hq.size
            clear hq
            go_simp
            first | rfl | (trace_state; fail)
          try simp only [Act.put, List.setIfInBounds_toArray, List.set_cons_zero, List.set_cons_succ]
          apply sch_firm rfl rfl (by repeat (first | with_reducible exact Within.refl _ | with_reducible assumption | with_reducible refine Within.alloc ?_ _ | with_reducible refine Within.drew ?_ | with_reducible refine Within.drewN ?_ _ | with_reducible refine Within.setCell ?_ (by first | (simp; done) | (simp; omega)) _ | with_reducible refine Within.trans ?_ (by assumption)))
          · intro wq hq
            have hcq := hq.cells
            have gx := (hq.cells _ _ b1).trans cx
            have gxb := Nat.lt_of_lt_of_le b1 hq.size
            have gy := (hq.cells _ _ b2).trans cy
            have gyb := Nat.lt_of_lt_of_le b2 hq.size
            clear hq
            go_simp
            first | rfl | (trace_state; fail)
          try simp only [Act.put, List.setIfInBounds_toArray, List.set_cons_zero, List.set_cons_succ]
          apply sch_firm rfl rfl (by repeat (first | with_reducible exact Within.refl _ | with_reducible assumption | with_reducible refine Within.alloc ?_ _ | with_reducible refine Within.drew ?_ | with_reducible refine Within.drewN ?_ _ | with_reducible refine Within.setCell ?_ (by first | (simp; done) | (simp; omega)) _ | with_reducible refine Within.trans ?_ (by assumption)))
          · intro wq hq
            have hcq := hq.cells
            have gx := (hq.cells _ _ b1).trans cx
            have gxb := Nat.lt_of_lt_of_le b1 hq.size
            have gy := (hq.cells _ _ b2).trans cy
            have gyb := Nat.lt_of_lt_of_le b2 hq.size
            clear hq
            go_simp
            first | rfl | (trace_state; fail)
          try simp only [Act.put, List.setIfInBounds_toArray, List.set_cons_zero, List.set_cons_succ]
          apply sch_firm rfl rfl (by repeat (first | with_reducible exact Within.refl _ | with_reducible assumption | with_reducible refine Within.alloc ?_ _ | with_reducible refine Within.drew ?_ | with_reducible refine Within.drewN ?_ _ | with_reducible refine Within.setCell ?_ (by first | (simp; done) | (simp; omega)) _ | with_reducible refine Within.trans ?_ (by assumption)))
          · intro wq hq
            have hcq := hq.cells
            have gx := (hq.cells _ _ b1).trans cx
            have gxb := Nat.lt_of_lt_of_le b1 hq.size
            have gy := (hq.cells _ _ b2).trans cy
            have gyb := Nat.lt_of_lt_of_le b2 hq.size
            clear hq
            go_simp
            first | rfl | (trace_state; fail)
          try simp only [Act.put, List.setIfInBounds_toArray, List.set_cons_zero, List.set_cons_succ]
          apply sch_firm rfl rfl (by repeat (first | with_reducible exact Within.refl _ | with_reducible assumption | with_reducible refine Within.alloc ?_ _ | with_reducible refine Within.drew ?_ | with_reducible refine Within.drewN ?_ _ | with_reducible refine Within.setCell ?_ (by first | (simp; done) | (simp; omega)) _ | with_reducible refine Within.trans ?_ (by assumption)))
          · intro wq hq
            have hcq := hq.cells
            have gx := (hq.cells _ _ b1).trans cx
            have gxb := Nat.lt_of_lt_of_le b1 hq.size
            have gy := (hq.cells _ _ b2).trans cy
            have gyb := Nat.lt_of_lt_of_le b2 hq.size
            clear hq
            go_simp
            first | rfl | (trace_state; fail)
          try simp only [Act.put, List.setIfInBounds_toArray, List.set_cons_zero, List.set_cons_succ]
          apply sch_firm rfl rfl (by repeat (first | with_reducible exact Within.refl _ | with_reducible assumption | with_reducible refine Within.alloc ?_ _ | with_reducible refine Within.drew ?_ | with_reducible refine Within.drewN ?_ _ | with_reducible refine Within.setCell ?_ (by first | (simp; done) | (simp; omega)) _ | with_reducible refine Within.trans ?_ (by assumption)))
          · intro wq hq
            have hcq := hq.cells
            have gx := (hq.cells _ _ b1).trans cx
            have gxb := Nat.lt_of_lt_of_le b1 hq.size
            have gy := (hq.cells _ _ b2).trans cy
            have gyb := Nat.lt_of_lt_of_le b2 hq.size
            clear hq
            go_simp
            first | rfl | (trace_state; fail)
          try simp only [Act.put, List.setIfInBounds_toArray, List.set_cons_zero, List.set_cons_succ]
          refine sch_one rfl rfl (fun K hK => ?_)
          go_simp
          refine (SM.out _ _ _ _ _ (SA.out.of (by repeat (first | with_reducible exact Within.refl _ | with_reducible assumption | with_reducible refine arW_within ?_ _ _ _ | with_reducible refine Within.alloc ?_ _ | with_reducible refine Within.drew ?_ | with_reducible refine Within.trans ?_ (by assumption)))) (SB.out.of (by repeat (first | with_reducible exact Within.refl _ | with_reducible assumption | with_reducible refine arW_within ?_ _ _ _ | with_reducible refine Within.alloc ?_ _ | with_reducible refine Within.drew ?_ | with_reducible refine Within.trans ?_ (by assumption))))).mono ?_; rintro e5 w5 ⟨rfl, hb5⟩
          refine hK _ _ (fun _ => (by repeat (first | with_reducible exact Within.refl _ | with_reducible assumption | with_reducible refine Within.alloc ?_ _ | with_reducible refine Within.drew ?_ | with_reducible refine Within.drewN ?_ _ | with_reducible refine Within.setCell ?_ (by first | (simp; done) | (simp; omega)) _ | with_reducible refine Within.trans ?_ (by assumption)))) ?_
          clear hK K
          try simp only [Act.put, List.setIfInBounds_toArray, List.set_cons_zero, List.set_cons_succ]
          refine sch_one rfl rfl (fun K hK => ?_)
          go_simp
          refine hK _ _ (fun h => absurd h (by decide)) ?_
          clear hK K
          try simp only [Act.put, List.setIfInBounds_toArray, List.set_cons_zero, List.set_cons_succ]
          refine sch_nil ?_
          have hw4 : Within wr w5 := (hw0.drew).trans hb5
          clear hw0 hb5
          go_wp2
          go_roundw
          case rel => exact ⟨k + 1, hlt, by go_num, HIN.out.trans hw4⟩
          case measure => simp [intOf]; omega
        · obtain rfl : k = 6 := by omega
          have hw' := HW13.out.trans hin
          go_wp2
          go_ret
          exact ⟨rfl, hw'⟩
end Go.Proofs.YtjmaggfddinbkaaDoor
end

section
namespace Go.Proofs.YtjmaggfddinbkaaDoor.Base
open Go.ChangeShapes Go.WideShapes Go.ChangeAt Go.RowKit
theorem own : ownKnob Tryd.prog.godebug = none := by kernel_rfl
theorem gTab : Tryd.prog.globalNamed "math/bits.deBruijn64tab" = some 1 := by kernel_rfl
theorem gTabType : (Tryd.prog.globals[1]?).map (·.type) = some 106 := by kernel_rfl
theorem cellsT : Tryd.prog.cellsOf 106 = 64 := by kernel_rfl
theorem cellsB : Tryd.prog.cellsOf 5 = 1 := by kernel_rfl
theorem tab {W : World} (h : laidMetH Tryd.prog [("math/bits.deBruijn64tab", Rows.laid_math_bits_deBruijn64tab)] W) : Tab W := fun j hj => by
  have e := (Lib.tabIs_of_head (zs := Lib.deBruijn64tab.map Int.ofNat) (rest := []) gTab gTabType Tryd.underlying106 Tryd.underlying5 cellsB cellsT h).cell gTab j (by simpa [Lib.deBruijn64tab] using hj)
  rw [e]
  congr 2
  have hl : j < Lib.deBruijn64tab.length := hj
  simp [List.getD, List.getElem?_map, List.getElem?_eq_getElem hl]
theorem nat_of_u64 {n : Int} (h : (Lit.int .u64 n).wf = true) : ∃ a : Nat, n = a ∧ a < 18446744073709551616 := by
  simp only [Lit.wf, Bool.and_eq_true, decide_eq_true_eq] at h
  have h1 : (0 : Int) ≤ n := h.1
  have h2 : n ≤ 18446744073709551615 := h.2
  exact ⟨n.toNat, by omega, by omega⟩
noncomputable def laidWorld (os : Os) : World :=
  { World.holding Tryd.prog os ⟨#[], #[], []⟩ with heap := (World.holding Tryd.prog os ⟨#[], #[], []⟩).heap.modify 1 fun
      | .cells _ t frozen => .cells #[.int .u8 0, .int .u8 1, .int .u8 56, .int .u8 2, .int .u8 57, .int .u8 49, .int .u8 28, .int .u8 3, .int .u8 61, .int .u8 58, .int .u8 42, .int .u8 50, .int .u8 38, .int .u8 29, .int .u8 17, .int .u8 4, .int .u8 62, .int .u8 47, .int .u8 59, .int .u8 36, .int .u8 45, .int .u8 43, .int .u8 51, .int .u8 22, .int .u8 53, .int .u8 39, .int .u8 33, .int .u8 30, .int .u8 24, .int .u8 18, .int .u8 12, .int .u8 5, .int .u8 63, .int .u8 55, .int .u8 48, .int .u8 27, .int .u8 60, .int .u8 41, .int .u8 37, .int .u8 16, .int .u8 46, .int .u8 35, .int .u8 44, .int .u8 21, .int .u8 52, .int .u8 32, .int .u8 23, .int .u8 11, .int .u8 54, .int .u8 26, .int .u8 40, .int .u8 15, .int .u8 34, .int .u8 20, .int .u8 31, .int .u8 10, .int .u8 25, .int .u8 14, .int .u8 19, .int .u8 9, .int .u8 13, .int .u8 8, .int .u8 7, .int .u8 6] t frozen
      | o => o }
end Go.Proofs.YtjmaggfddinbkaaDoor.Base
end

section
namespace Go.Proofs.YtjmaggfddinbkaaDoor.Base
open Go.ChangeShapes Go.WideShapes Go.ChangeAt Go.RowKit
theorem laidOut : laidOutB Tryd.prog = true := by kernel_rfl
section
variable {H : Type} {enc : TypeId × Value → H} {W : World}
theorem open_ns {t e : TypeId} {k : IntKind} {y : Nat} (ht : Tryd.prog.underlying t = some (.slice e)) (he : Tryd.prog.underlying e = some (.int k)) (hc : Tryd.prog.cellsOf e = 1) (hy : Tryd.prog.bytesOf e = y) {fuel : Nat} {v : Value} {x : DataW H × List MemPlace}
    (h : DataW.trod enc Tryd.prog W 0 (fun _ => true) true fuel t [v] = some x) (hz : ∀ n ∈ x.1.weights Tryd.prog t, n ≤ reachBytes) :
    ∃ (a0 : Option Addr) (cap : Nat) (zs : List Int), v = .slice a0 zs.length cap ∧ zs.length ≤ cap ∧ zs.length * y ≤ reachBytes ∧ (∀ n ∈ zs, (Lit.int k n).wf = true) ∧ SlAt W a0 (zs.map (Value.int k)) := by
  rcases open_ints ht he hc h with ⟨hcs, hx⟩ | ⟨a, len, cap, zs, hcs, _, hl, hm, hzl, hx, hcell, hwz⟩
  · simp at hcs
    exact ⟨none, 0, [], hcs, Nat.le_refl _, by simp, (fun n hn => absurd hn (by simp)), SlAt.nil⟩
  · simp at hcs
    simp only [if_true] at hzl
    subst hx
    have hlen : (zs.take len).length = len := by rw [List.length_take]; omega
    refine ⟨some a, cap, zs.take len, by rw [hlen]; exact hcs, by rw [hlen]; exact hl, ?_, fun n hn => hwz n (List.mem_of_mem_take hn), fun hn => ?_⟩
    · have hw := hz (cap * y) (by
        rw [DataW.weights, ht]
        refine List.mem_cons.2 (.inl ?_)
        rw [hy, show (lits (H := H) k (zs.take len)).length + (lits (H := H) k (zs.drop len)).length = cap by
          unfold lits; rw [List.length_map, List.length_map, List.length_take, List.length_drop]; omega])
      rw [hlen]
      exact Nat.le_trans (Nat.mul_le_mul_right _ hl) hw
    · rw [List.length_map, hlen] at hn
      have h0 := hcell 0 (by omega)
      refine ⟨a, rfl, by have := World.block_lt_of_cell? _ _ h0; rwa [add_block] at this, fun j u hu => ?_⟩
      rw [List.getElem?_map, Option.map_eq_some_iff] at hu
      obtain ⟨z, hz1, rfl⟩ := hu
      obtain ⟨hj, hz2⟩ := List.getElem?_eq_some_iff.1 hz1
      rw [hlen] at hj
      rw [hcell j (by omega)]
      rw [List.getElem_take] at hz2
      simp [List.getD, List.getElem?_eq_getElem (show j < zs.length by omega), hz2]
theorem nats_of {k : IntKind} {m : Nat} (hk : ∀ n : Int, (Lit.int k n).wf = true → 0 ≤ n ∧ n < m) {zs : List Int} (h : ∀ n ∈ zs, (Lit.int k n).wf = true) : ∃ l : List Nat, zs = l.map (fun (x : Nat) => (x : Int)) ∧ ∀ x ∈ l, x < m := by
  refine ⟨zs.map Int.toNat, ?_, fun x hx => ?_⟩
  · rw [List.map_map]
    conv => lhs; rw [← List.map_id zs]
    refine List.map_congr_left fun n hn => ?_
    have := (hk n (h n hn)).1
    simp only [id, Function.comp]; omega
  · obtain ⟨n, hn, rfl⟩ := List.mem_map.1 hx
    have := hk n (h n hn)
    omega
theorem wf_u64 (n : Int) (h : (Lit.int .u64 n).wf = true) : 0 ≤ n ∧ n < (18446744073709551616 : Nat) := by
  simp only [Lit.wf, Bool.and_eq_true, decide_eq_true_eq] at h
  have h1 : (0 : Int) ≤ n := h.1
  have h2 : n ≤ 18446744073709551615 := h.2
  omega
set_option maxRecDepth 100000 in
theorem open_u64 {fuel : Nat} {v : Value} {x : DataW H × List MemPlace} (h : DataW.trod enc Tryd.prog W 0 (fun _ => true) true fuel 31 [v] = some x) (hz : ∀ n ∈ x.1.weights Tryd.prog 31, n ≤ reachBytes) :
    ∃ (a0 : Option Addr) (cap : Nat) (l : List Nat), v = .slice a0 l.length cap ∧ l.length ≤ cap ∧ l.length * 8 ≤ 140737488355328 ∧ (∀ x ∈ l, x < 18446744073709551616) ∧ SlAt W a0 (u64v l) := by
  obtain ⟨a0, cap, zs, h1, h2, h3, h4, h5⟩ := open_ns (y := 8) Tryd.underlying31 Tryd.underlying22 (by kernel_rfl) (by kernel_rfl) h hz
  obtain ⟨l, rfl, hl⟩ := nats_of wf_u64 h4
  rw [List.length_map] at h1 h2 h3
  refine ⟨a0, cap, l, h1, h2, ?_, hl, ?_⟩
  · have : reachBytes = 140737488351232 := rfl
    omega
  · unfold u64v; rw [List.map_map] at h5; exact h5
set_option maxRecDepth 100000 in
theorem open_words {r : Reach} {b0 : Nat} {v : Value} {d : DataW H} {p : List MemPlace} (hv : Value.okWide Tryd.prog W r b0 31 v) (h : DataW.Trod enc Tryd.prog W 0 (fun _ => true) true 31 v d p) (hz : ∀ n ∈ d.weights Tryd.prog 31, n ≤ reachBytes) :
    ∃ (a0 : Option Addr) (cap : Nat) (l : List Nat), v = .slice a0 l.length cap ∧ l.length ≤ cap ∧ l.length * 8 ≤ 140737488355328 ∧ Words64 l ∧ SlAt W a0 (u64v l) := by
  obtain ⟨a, len, cap, rfl⟩ := okWide_slice Tryd.underlying31 hv
  obtain ⟨fuel, hf⟩ := h
  exact open_u64 (x := (d, p)) (by simpa [Value.cells] using hf) hz
theorem wt_of {ts : List TypeId} {ds : List (DataW H)} (h : (DataW.weightsEach Tryd.prog ts ds).all (· ≤ reachBytes) = true) {j : Nat} {t : TypeId} {d : DataW H} (ht : ts[j]? = some t) (hd : ds[j]? = some d) : ∀ n ∈ d.weights Tryd.prog t, n ≤ reachBytes :=
  fun n hn => of_decide_eq_true (List.all_eq_true.1 h n (DataW.weights_mem_each ht hd n hn))
end
end Go.Proofs.YtjmaggfddinbkaaDoor.Base
end

section
namespace Go.Proofs.YtjmaggfddinbkaaDoor.eftFresh
open Go.ChangeShapes Go.WideShapes Go.ChangeAt Go.RowKit
set_option maxRecDepth 100000 in
theorem contract (H : Type) (enc : TypeId × Value → H) (W : World) (base : Nat) (args : Array Value) (ds gs : List (DataW H)) (before : List MemPlace)
    (hval : ∀ (j : Nat) t v, Tryd.f4.params[j]? = some t → args[j]? = some v → Value.okWide Tryd.prog W .any base t v)
    (hW : DataW.Whole enc Tryd.prog Tryd.f4.params.toList Rows.eftFreshSpec.vars false W args.toList ds gs before)
    (hsz : (DataW.weightsEach Tryd.prog (Tryd.f4.params.toList ++ (OpenSpec.ofChange Rows.eftFreshSpec).bare.plain.varTypes Tryd.prog) (ds ++ gs)).all (· ≤ reachBytes) = true) (hL : laidMetH Tryd.prog Rows.eftFreshRow.laid W) :
    Calls Tryd.prog 4 args W fun e W' => ∃ v, e = .returned v ∧ Rows.eftFreshSpec.post enc Tryd.prog Tryd.f4 false true false false W args v W' := by
  have hW' := hW
  obtain ⟨p, q, hA0, hV, rfl, hfz, hnd⟩ := hW
  have hA : DataW.TrodAll enc Tryd.prog W 0 (fun _ => true) true Tryd.f4.params.toList args.toList ds p := hA0
  rw [Tryd.params4] at hA hval hsz
  obtain ⟨v0, vs0, d0, ds0, p0, q0, hargs, rfl, rfl, h0, r0⟩ := trodAll_cons hA
  obtain ⟨v1, vs1, d1, ds1, p1, q1, rfl, rfl, rfl, h1, r1⟩ := trodAll_cons r0
  obtain ⟨v2, vs2, d2, ds2, p2, q2, rfl, rfl, rfl, h2, r2⟩ := trodAll_cons r1
  obtain ⟨rfl, rfl, rfl⟩ := trodAll_nil r2
  obtain rfl : args = #[v0, v1, v2] := by cases args; simp_all
  obtain ⟨rfl, rfl⟩ := trodVars_none hV
  obtain ⟨A0, c0, l0, rfl, hc0, hn0, hb0, hm0⟩ := Base.open_words (hval 0 31 v0 rfl rfl) h0 (Base.wt_of hsz (j := 0) rfl rfl)
  obtain ⟨A1, c1, l1, rfl, hc1, hn1, hb1, hm1⟩ := Base.open_words (hval 1 31 v1 rfl rfl) h1 (Base.wt_of hsz (j := 1) rfl rfl)
  obtain ⟨n2, rfl, rfl, rfl, w2⟩ := open_int Tryd.underlying22 (hval 2 22 v2 rfl rfl) h2
  obtain ⟨a2, rfl, ha2⟩ := Base.nat_of_u64 w2
  clear hA0
  simp only [List.append_nil] at hW'
  have hlt : ∀ x, x ∈ p0 ∨ x ∈ p1 → x.block < W.heap.size := fun x hx => hW'.lt x (by simpa using hx)
  refine (fresh_walk A0 c0 l0 hb0 hn0 A1 c1 l1 hb1 hn1 a2 ha2 W (Base.tab hL) hm0 hm1).mono fun e W' ⟨he, bel⟩ => ?_
  subst he
  exact ⟨_, rfl, _, _, _, [], _, [], hW', trodAll_mk1 (shut_bool Tryd.underlying4 _), (trodAll_cons_mk (Below.trod Base.laidOut (by kernel_rfl) (of_decide_eq_true (by kernel_rfl)) h0 bel (fun x hx => hlt x (.inl hx))) (trodAll_cons_mk (Below.trod Base.laidOut (by kernel_rfl) (of_decide_eq_true (by kernel_rfl)) h1 bel (fun x hx => hlt x (.inr hx))) (trodAll_cons_mk (shut_int Tryd.underlying22 w2) trodAll_mk0))), rfl, Below.frame bel _, fun h => by cases h⟩
theorem laid_met (os : Os) : laidMet Tryd.prog Rows.eftFreshRow.laid ((Base.laidWorld os).forCall (fun _ _ => 0) ⟨#[], #[Value.slice none 0 0, Value.slice none 0 0, Value.int .u64 0], []⟩).memory :=
  laidMet_of_run' 8 (by kernel_rfl) (by kernel_rfl)
theorem reads (os : Os) {H : Type} (enc : TypeId × Value → H) : ∃ places, DataW.whole enc Tryd.prog ((Base.laidWorld os).forCall (fun _ _ => 0) ⟨#[], #[Value.slice none 0 0, Value.slice none 0 0, Value.int .u64 0], []⟩).memory Tryd.f4.params.toList Rows.eftFreshSpec.vars false (#[Value.slice none 0 0, Value.slice none 0 0, Value.int .u64 0] : Array Value).toList 8 = some ([.nil, .nil, .lit (.int .u64 0)], [], places) :=
  ⟨[], by kernel_rfl⟩
set_option maxRecDepth 100000 in
theorem lifted (os : Os) (started : os.Started) (H : Type) (enc : TypeId × Value → H) (F : Stop.Interp) :
    ReturnsInHanded {} Tryd.checked os 4 .any ((OpenSpec.ofChange Rows.eftFreshSpec).preRow enc Tryd.prog Tryd.f4 Rows.eftFreshRow.domain false Rows.eftFreshRow.laid) (((OpenSpec.ofChange Rows.eftFreshSpec).at F).post enc Tryd.prog Tryd.f4 false true false false) := by
  obtain ⟨places, hx⟩ := reads os enc
  refine returnsInHanded_of_row (C := Tryd.checked) (s := OpenSpec.ofChange Rows.eftFreshSpec) Base.own started (by kernel_rfl) Tryd.func4
    (witness_row_at (enc := enc) (C := Tryd.checked) false (Base.laidWorld os) #[Value.slice none 0 0, Value.slice none 0 0, Value.int .u64 0] rfl (by kernel_rfl) (by kernel_rfl) (by kernel_rfl)
      (OpenSpec.preRow_of_cond 8 hx (by kernel_rfl) (fun k hk => by cases hk) (by kernel_rfl) (laid_met os))) ?_
  intro W base args ds gs before hval hW _ _ hsz hL _ _
  exact contract H enc W base args ds gs before hval hW hsz hL
theorem said : Rows.EftFreshSaid :=
  OpenClaim.holds_of_cond 4 Tryd.f4 rfl rfl rfl rfl rfl rfl rfl ⟨rfl, rfl, rfl, rfl, rfl⟩ rfl rfl rfl rfl rfl (by kernel_rfl) Tryd.func4 (by kernel_rfl)
    (of_decide_eq_true (by kernel_rfl)) (by unfold Func.isWrapper; first | (rw [if_pos (by decide +kernel)]; kernel_rfl) | (rw [if_neg (by decide +kernel)]; exact ⟨rfl, rfl⟩))
    (fun os started H enc _ F => by rw [OpenClaim.pre_eq_preRow]; exact lifted os started H enc F)
theorem plain (f : FuncId) (fn : Func) (hf : Tryd.pinned.checked.prog.funcNamed "binnacle/binnaclelaw04.EftFresh" = some f) (hfn : Tryd.pinned.checked.prog.funcs[f]? = some fn) :
    false = Tryd.pinned.checked.prog.looks [] ∧ ∀ (j : Nat) t, fn.params[j]? = some t → Tryd.pinned.checked.prog.wantsStandIn t = false := by
  obtain rfl : f = 4 := Option.some.inj ((show Tryd.prog.funcNamed "binnacle/binnaclelaw04.EftFresh" = some 4 by kernel_rfl).symm.trans hf) |>.symm
  obtain rfl : fn = Tryd.f4 := (Option.some.inj (Tryd.func4.symm.trans hfn)).symm
  refine ⟨by kernel_rfl, fun j t ht => ?_⟩
  rw [Tryd.params4] at ht
  have hm := Array.mem_of_getElem? ht
  have hm' : t = 31 ∨ t = 31 ∨ t = 22 := by simpa using hm
  rcases hm' with rfl | rfl | rfl
  · exact (show Tryd.prog.wantsStandIn 31 = false by kernel_rfl)
  · exact (show Tryd.prog.wantsStandIn 31 = false by kernel_rfl)
  · exact (show Tryd.prog.wantsStandIn 22 = false by kernel_rfl)
theorem card : Rows.EftFreshCardSaid :=
  Claim7.holds_tied_plain_at .later [] _ _ _ _ said (fun _ h => by cases h) (by kernel_rfl) (fun _ h => by cases h) eftFresh_row_tie rfl ⟨rfl, rfl⟩ (by kernel_rfl) rfl plain (by kernel_rfl)
#print axioms card
end Go.Proofs.YtjmaggfddinbkaaDoor.eftFresh
end
