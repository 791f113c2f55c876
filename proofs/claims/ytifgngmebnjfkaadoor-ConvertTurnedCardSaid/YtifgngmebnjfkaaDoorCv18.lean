/- Package convert: Div of all singles. -/
import Derived.Test.YtifgngmebnjfkaaDoorCv17
namespace Go.Proofs.YtifgngmebnjfkaaDoor
open Go.RowKit

theorem un_tuD {a : Nat} (h : a < 18446744073709551616) : Fp.un Ieee.double (tuD a) = -Fp.un Ieee.double a := by
  have e : magD (tuD a) = magD a := by unfold magD; rw [tuD_mod h]
  rw [un_parts h, un_parts (tuD_lt h), tuD_ng h, e]
  cases ngD a <;> simp
theorem zeroS {y : Nat} (h : isN y = false) : (FloatKind.f32.format.order y 0 == some .eq) = decide (y % 2147483648 = 0) := by
  show (Ieee.single.order y 0 == some .eq) = _
  rw [Fp.eq32 y 0 h (by decide), Bool.eq_iff_iff, decide_eq_true_iff, decide_eq_true_iff]
  unfold Fp.key32; split <;> split <;> omega
theorem uS_zero {y : Nat} : uS y = 0 ↔ y % 2147483648 = 0 := by
  unfold uS Fp.val
  have hm : Fp.mag Ieee.single (y % 2147483648) = 0 ↔ y % 2147483648 = 0 := by
    have := Fp.le_mag Ieee.single (y % 2147483648)
    constructor
    · intro h; omega
    · intro h; rw [h]; exact Fp.mag_zero _
  have h2 : Fp.mag Ieee.single (y % 2147483648) * 2 ^ Fp.sgap = 0 ↔ y % 2147483648 = 0 := by
    rw [Nat.mul_eq_zero, hm]
    constructor
    · rintro (h | h)
      · exact h
      · exact absurd h (Nat.ne_of_gt (Nat.two_pow_pos _))
    · exact .inl
  generalize Fp.mag Ieee.single (y % 2147483648) * 2 ^ Fp.sgap = M at *
  rw [← h2]
  split <;> omega
theorem read_mag {a : Nat} (h : Fi a) : ∃ m e, Ieee.double.read a = .number (Fp.sg Ieee.double a) m e ∧ (m = 0 ↔ a % 9223372036854775808 = 0) := by
  obtain ⟨m, e, r, _, h2⟩ := Fp.read_fin Ieee.double a h.rg
  refine ⟨m, e, r, ?_⟩
  rw [Fp.rg64] at h2
  have g := magD_zero (a := a)
  unfold magD at g
  rw [← g, ← h2, Nat.mul_eq_zero]
  constructor
  · exact .inl
  · rintro (h | h)
    · exact h
    · exact absurd h (Nat.ne_of_gt (Nat.two_pow_pos _))
theorem inf_mod (s : Bool) : infD s % 9223372036854775808 = 9218868437227405312 := by cases s <;> decide
theorem word0 (s : Bool) : Ieee.double.write (.number s 0 0) % 9223372036854775808 = 0 := by cases s <;> decide +kernel
/-- a quotient by 0 that is one -/
theorem div_by_zero {a b p : Nat} (ha : Fi a ∨ ∃ s, a = infD s) (hb : Fi b) (h0 : b % 9223372036854775808 = 0) (h : Ieee.double.div a b = some p) : p % 9223372036854775808 = 9218868437227405312 := by
  obtain ⟨n, j, rb, hn⟩ := read_mag hb
  unfold Ieee.Format.div at h
  rw [rb, hn.2 h0] at h
  rcases ha with ha | ⟨s, rfl⟩
  · obtain ⟨m, i, ra, hm⟩ := read_mag ha
    rw [ra] at h
    simp only [Ieee.Datum.quotient, if_true] at h
    split at h
    · cases h
    · obtain rfl := Option.some.inj h
      rw [write_infD]; exact inf_mod _
  · rw [read_infD] at h
    obtain rfl := Option.some.inj h
    show Ieee.double.write (.infinity _) % _ = _
    rw [write_infD]; exact inf_mod _
/-- a quotient that is a number other than 0 is one of numbers -/
theorem div_numbers {a b p : Nat} (ha : Fi a ∨ ∃ s, a = infD s) (hb : Fi b ∨ ∃ s, b = infD s) (h : Ieee.double.div a b = some p) (h1 : p % 9223372036854775808 ≠ 0) (h2 : p % 9223372036854775808 ≠ 9218868437227405312) : Fi a ∧ Fi b := by
  unfold Ieee.Format.div at h
  rcases ha with ha | ⟨s, rfl⟩
  · rcases hb with hb | ⟨t, rfl⟩
    · exact ⟨ha, hb⟩
    · obtain ⟨m, i, ra, hm⟩ := read_mag ha
      rw [ra, read_infD] at h
      obtain rfl := Option.some.inj h
      exact absurd (word0 _) h1
  · rcases hb with hb | ⟨t, rfl⟩
    · obtain ⟨n, j, rb, hn⟩ := read_mag hb
      rw [rb, read_infD] at h
      obtain rfl := Option.some.inj h
      refine absurd ?_ h2
      show Ieee.double.write (.infinity _) % _ = _
      rw [write_infD]; exact inf_mod _
    · rw [read_infD, read_infD] at h
      cases h
theorem fma_ok {p b a : Nat} (hp : Fi p) (hb : Fi b) (ha : Fi a) : ∃ l, Ieee.double.fma p b a = some l := by
  obtain ⟨s, m, e, r⟩ := read_fi hp
  obtain ⟨s', m', e', r'⟩ := read_fi hb
  obtain ⟨s'', m'', e'', r''⟩ := read_fi ha
  unfold Ieee.Format.fma
  rw [r, r', r'']
  exact ⟨_, rfl⟩

/-- what is left of x, the divisor's sign taken off -/
def restU (x y p : Nat) : Int := if uS y < 0 then -Fp.un Ieee.double ((Ieee.double.fma (tuD p) (wD y) (wD x)).getD 0) else Fp.un Ieee.double ((Ieee.double.fma (tuD p) (wD y) (wD x)).getD 0)
def divWd (x y : Nat) (mode : Int) : Nat :=
  if isN x || isN y then 2143289344 else match Ieee.double.div (wD x) (wD y) with
  | none => 2143289344
  | some p => if p % 9223372036854775808 = 0 then sgnS (ngD p) else if p % 9223372036854775808 = 9218868437227405312 then infS (ngD p)
    else sWord (decide (Fp.un Ieee.double p < 0)) (nudM (Fp.un Ieee.double p) (restU x y p)) (nudE (Fp.un Ieee.double p)) mode
def divFl (x y : Nat) (mode : Int) : Int :=
  if isN x || isN y then 0 else match Ieee.double.div (wD x) (wD y) with
  | none => 8
  | some p => if y % 2147483648 = 0 then (if isI x then 0 else 16)
    else if p % 9223372036854775808 = 0 then 0 else if p % 9223372036854775808 = 9218868437227405312 then 0
    else rFlags 24 (-149) 127 (decide (Fp.un Ieee.double p < 0)) (nudM (Fp.un Ieee.double p) (restU x y p)) (nudE (Fp.un Ieee.double p)) mode
theorem wD_or {x : Nat} (hx : x < 4294967296) (h : isN x = false) : Fi (wD x) ∨ ∃ s, wD x = infD s := by
  cases hi : isI x
  · exact .inl (wD_fin hx h hi).1
  · exact .inr ⟨_, wD_inf hx hi⟩
theorem Div_known (x y : Nat) (mode : Int) (hx : x < 4294967296) (hy : y < 4294967296) (hmode : 0 ≤ mode ∧ mode ≤ 4) (w : World) (hT : FmS w) : Calls Tryd.prog 53 #[.float .f32 x, .float .f32 y, .int .i64 mode] w fun e' w' => e' = .returned (.tuple #[.float .f32 (divWd x y mode), .int .i64 (divFl x y mode), .int .i64 0]) ∧ Within w w' := by
  have KN : Hid (∀ w, Calls Tryd.prog 66 #[.int .i64 mode] w fun e' w' => e' = .returned (.bool true) ∧ w = w') := Lib.hid (fun w => by have := known_any mode w; rw [decide_eq_true hmode] at this; exact this)
  have NO := Lib.hid none_any
  have e1 := ne32 x
  have e2 := ne32 y
  unfold divWd divFl
  cases nx : isN x
  · rw [nx] at e1
    obtain ⟨ha, la0, la⟩ := wD_eq hx nx
    cases ny : isN y
    · rw [ny] at e2
      obtain ⟨hb, lb0, lb⟩ := wD_eq hy ny
      have hff : ¬ ((false || false) = true) := Bool.false_ne_true
      rw [if_neg hff, if_neg hff]
      cases hm : Ieee.double.div (wD x) (wD y) with
      | none => exact div_invalid x y _ _ mode KN e1 e2 ha hb hm (fun t => ne_true (nanb_gt _ _ t)) NO w
      | some p =>
        obtain ⟨p1, p2⟩ := div_good hm
        have np := ne_false p2
        have PL := Lib.hid (fun w => plain_any p p1 p2 w)
        have hsp := sgn_split p1
        have y0 := zeroS ny
        show Calls _ _ _ _ fun e' w' => e' = .returned (.tuple #[.float .f32 (if p % 9223372036854775808 = 0 then sgnS (ngD p) else if p % 9223372036854775808 = 9218868437227405312 then infS (ngD p) else sWord (decide (Fp.un Ieee.double p < 0)) (nudM (Fp.un Ieee.double p) (restU x y p)) (nudE (Fp.un Ieee.double p)) mode), .int .i64 (if y % 2147483648 = 0 then (if isI x then 0 else 16) else if p % 9223372036854775808 = 0 then 0 else if p % 9223372036854775808 = 9218868437227405312 then 0 else rFlags 24 (-149) 127 (decide (Fp.un Ieee.double p < 0)) (nudM (Fp.un Ieee.double p) (restU x y p)) (nudE (Fp.un Ieee.double p)) mode), .int .i64 0]) ∧ Within w w'
        by_cases yz : y % 2147483648 = 0
        · rw [decide_eq_true yz] at y0
          have iy : isI y = false := decide_eq_false (by omega)
          obtain ⟨fy, uy, _⟩ := wD_fin hy ny iy
          have y1 : wD y % 9223372036854775808 = 0 := by
            have g := (un_nat fy).1
            rw [uy, uS_zero.2 yz] at g
            exact magD_zero.1 g
          have pi := div_by_zero (wD_or hx nx) fy y1 hm
          rw [if_neg (show ¬ p % 9223372036854775808 = 0 by omega), if_pos pi, if_pos yz]
          have hc : floatToFloatBits .f64 p .f32 = some (infS (ngD p)) := by
            rw [pi] at hsp
            conv => lhs; rw [hsp]
            exact nbits_inf _
          rw [decide_eq_true (.inr pi)] at PL
          cases ix : isI x
          · rw [if_neg Bool.false_ne_true]
            exact div_zero x y _ _ mode KN e1 e2 ha hb p hm np y0 (Lib.hid fun w => finite_ok (wD_fin hx nx ix).1 w) _ hc w
          · rw [if_pos rfl]
            exact div_infz x y _ _ mode KN e1 e2 ha hb p hm np y0 (Lib.hid fun w => by rw [wD_inf hx ix]; exact finite_inf_any _ w) PL _ hc w
        rw [decide_eq_false yz] at y0
        rw [if_neg yz]
        by_cases hz : p % 9223372036854775808 = 0
        · rw [decide_eq_true (.inl hz)] at PL
          rw [if_pos hz, if_pos hz]
          refine div_plain x y _ _ mode KN e1 e2 ha hb p hm np y0 PL _ ?_ w
          rw [hz, Nat.zero_add] at hsp
          conv => lhs; rw [hsp]
          exact nbits_zero _
        rw [if_neg hz, if_neg hz]
        by_cases hi : p % 9223372036854775808 = 9218868437227405312
        · rw [decide_eq_true (.inr hi)] at PL
          rw [if_pos hi, if_pos hi]
          refine div_plain x y _ _ mode KN e1 e2 ha hb p hm np y0 PL _ ?_ w
          rw [hi] at hsp
          conv => lhs; rw [hsp]
          exact nbits_inf _
        rw [if_neg hi, if_neg hi]
        rw [decide_eq_false (show ¬ (p % 9223372036854775808 = 0 ∨ p % 9223372036854775808 = 9218868437227405312) by omega)] at PL
        obtain ⟨fa, fb⟩ := div_numbers (wD_or hx nx) (wD_or hy ny) hm hz hi
        have iy : isI y = false := by
          cases g : isI y
          · rfl
          · have := wD_inf hy g
            have fb2 := fb.2
            rw [this, inf_mod] at fb2; omega
        have uy := (wD_fin hy ny iy).2.1
        have fp : Fi p := ⟨p1, by omega⟩
        have ftp : Fi (tuD p) := ⟨tuD_lt p1, by rw [tuD_mod p1]; omega⟩
        have S0 : Fp.un Ieee.double p ≠ 0 := fun h => by
          have g := (un_nat fp).1
          rw [h] at g
          exact hz (magD_zero.1 g)
        obtain ⟨l, hl⟩ := fma_ok ftp fb fa
        obtain ⟨l1, l2⟩ := fma_good hl
        have hR : Fp.Rep Ieee.double (Fp.un Ieee.double p).natAbs := by rw [← (un_nat fp).1]; exact magD_rep fp.2
        have hbs : (FloatKind.f64.format.order (wD y) 0 == some .lt) = decide (uS y < 0) := by rw [un_lt fb.le (by decide), zero_un, uy]
        unfold restU
        rw [hl]
        show Calls _ _ _ _ fun e' w' => e' = .returned (.tuple #[.float .f32 (sWord _ (nudM _ (if uS y < 0 then -Fp.un Ieee.double l else Fp.un Ieee.double l)) _ mode), .int .i64 (rFlags 24 (-149) 127 _ (nudM _ (if uS y < 0 then -Fp.un Ieee.double l else Fp.un Ieee.double l)) _ mode), .int .i64 0]) ∧ Within w w'
        by_cases ys : uS y < 0
        · rw [decide_eq_true ys] at hbs
          rw [if_pos ys]
          have e3 := un_tuD l1
          obtain ⟨b1, b2, b3, b4⟩ := nud_bounds (L := Fp.un Ieee.double (tuD l)) S0 hR
          have NU := Lib.hid (fun w => nudge_le fp (l := tuD l) (by rw [tuD_mod l1]; exact l2) S0 w)
          rw [e3] at NU b1 b2
          exact div_main_neg x y _ _ mode KN e1 e2 ha hb p hm np y0 PL (tuD p) l (tuD l) (neg_tuD p1) hl (neg_tuD l1) hbs _ _ _ _ _ _ NU
            (Lib.hid fun w => round_S (decide (Fp.un Ieee.double p < 0)) _ _ mode b1 b2 (by omega) (by omega) hmode w) (sWord_bits _ _ mode b1 b2) w hT
        · rw [decide_eq_false ys] at hbs
          rw [if_neg ys]
          obtain ⟨b1, b2, b3, b4⟩ := nud_bounds (L := Fp.un Ieee.double l) S0 hR
          have NU := Lib.hid (fun w => nudge_le fp l2 S0 w)
          exact div_main_pos x y _ _ mode KN e1 e2 ha hb p hm np y0 PL (tuD p) l (neg_tuD p1) hl hbs _ _ _ _ _ _ NU
            (Lib.hid fun w => round_S (decide (Fp.un Ieee.double p < 0)) _ _ mode b1 b2 (by omega) (by omega) hmode w) (sWord_bits _ _ mode b1 b2) w hT
    · rw [ny] at e2
      obtain ⟨gy, iy, dy⟩ := isN_nan ny
      have hft : (false || true) = true := rfl
      rw [if_pos hft, if_pos hft]
      exact div_fn x y _ mode KN e1 e2 ha gy iy dy (fun ty => div_nan (.inr (nanc_gt _ ty))) NO w
  · rw [nx] at e1
    obtain ⟨gx, ix, dx⟩ := isN_nan nx
    have htt : ∀ q, (true || q) = true := fun q => rfl
    rw [if_pos (htt _), if_pos (htt _)]
    cases ny : isN y
    · obtain ⟨hb, lb0, lb⟩ := wD_eq hy ny
      exact div_nf x y _ mode KN e1 gx ix dx hb (fun tx => div_nan (.inl (nanc_gt _ tx))) NO w
    · obtain ⟨gy, iy, dy⟩ := isN_nan ny
      exact div_nn x y mode KN e1 gx ix dx gy iy dy (fun tx ty => div_nan (.inl (nanc_gt _ tx))) NO w
end Go.Proofs.YtifgngmebnjfkaaDoor
