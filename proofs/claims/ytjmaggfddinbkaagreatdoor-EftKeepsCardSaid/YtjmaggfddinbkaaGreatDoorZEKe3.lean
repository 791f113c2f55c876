/- What the law's walk rests on, part 3: contracts of functions and plain facts. -/
import Derived.Test.YtjmaggfddinbkaaGreatDoorRows
import Derived.WalkKit
import Derived.WalkSpells
import Derived.WalkLawsBesides
import Derived.BigQuiet
import Derived.Lib.Hide
import Derived.Deep.OwnRows
import Derived.OwnWalk
import Derived.LoopTactic
import Derived.Outline
import Derived.IntWalk
import Derived.OrdersHeld
import Derived.StillTail
import Derived.Deep.RegionHeld3
import Derived.Maps.AppendAt
import Derived.Deep.QuietTactic
import Derived.Deep.DeepCutAuto
import Derived.Shelf.Bits.Mul64
import Derived.Laws.Externs
import Derived.Deep.RegionWith
import Ieee.Arith
import Derived.Lib.TrailingZeros
import Derived.Lib.BitFns
import Derived.Lib.Strings
import Derived.Lib.Slices
import Derived.Lib.Small
import Derived.Lib.Walk
import Derived.Deep.AppendLies
import Derived.Deep.Draws
import Derived.Laws.OwnMore
import Derived.ProofKit
import Derived.OpenShut
import Derived.ShutString
import Derived.ChangeOld
import Derived.Below
import Derived.Deep.DeepHandedRow
import Derived.Lib.LaidTab
import Derived.ChangeSlices
import Derived.Carry
import Derived.SizedLaws
import Derived.Deep.Strs
import Derived.Lib.SmallJoins
import Derived.Test.YtjmaggfddinbkaaGreatDoorZEKe2
set_option linter.unusedVariables false
set_option linter.unusedSimpArgs false
section
namespace Go.Proofs.YtjmaggfddinbkaaGreatDoor
theorem mag_grid {m : Nat} (h : 52 ≤ m.log2) (h0 : m ≠ 0) : Fp.mag Ieee.double (Fp.grid Ieee.double m 0) = Fp.rne m (2 ^ (m.log2 - 52)) * 2 ^ (m.log2 - 52) := by
  have hF : Ieee.double.fractionBits = 52 := by decide
  obtain ⟨L, hL⟩ : ∃ L, L = m.log2 - 52 := ⟨_, rfl⟩
  have e : Fp.grid Ieee.double m 0 = L * 4503599627370496 + Fp.rne m (2 ^ L) := by
    unfold Fp.grid
    rw [hF, Fp.dB, ← hL, show max L 0 = L by omega, Nat.sub_zero]
  rw [e, ← hL]
  have hp := Nat.two_pow_pos L
  have b1 : 4503599627370496 * 2 ^ L ≤ m := by
    have := Nat.log2_self_le h0
    rw [show m.log2 = 52 + L by omega, Nat.pow_add] at this
    exact this
  have b2 : m < 9007199254740992 * 2 ^ L := by
    have := Nat.lt_log2_self (n := m)
    rw [show m.log2 + 1 = 53 + L by omega, Nat.pow_add] at this
    exact this
  have c1 : 4503599627370496 ≤ m / 2 ^ L := (Nat.le_div_iff_mul_le hp).2 b1
  have c2 : m / 2 ^ L < 9007199254740992 := (Nat.div_lt_iff_lt_mul hp).2 b2
  have d : m / 2 ^ L ≤ Fp.rne m (2 ^ L) ∧ Fp.rne m (2 ^ L) ≤ m / 2 ^ L + 1 := by unfold Fp.rne; split <;> omega
  generalize Fp.rne m (2 ^ L) = r at *
  rw [Fp.mag_eq]
  unfold Fp.step
  rw [Fp.dB, if_neg (by omega)]
  rcases Nat.lt_or_ge r 9007199254740992 with h1 | h1
  · rw [show (L * 4503599627370496 + r) / 4503599627370496 - 1 = L by omega, show 4503599627370496 + (L * 4503599627370496 + r) % 4503599627370496 = r by omega]
  · have h2 : r = 9007199254740992 := by omega
    rw [h2, show (L * 4503599627370496 + 9007199254740992) / 4503599627370496 - 1 = L + 1 by omega, show 4503599627370496 + (L * 4503599627370496 + 9007199254740992) % 4503599627370496 = 4503599627370496 by omega, Nat.pow_succ]
    omega
theorem repz_shift {z : Int} {j : Nat} : RepZ (z * 2 ^ j) ↔ RepZ z := by
  constructor
  · rintro ⟨c, e, h, hc⟩
    rcases Nat.lt_or_ge e j with h1 | h1
    · obtain ⟨d, rfl⟩ : ∃ d, j = e + d := ⟨j - e, by omega⟩
      have hp : (2 : Int) ^ e ≠ 0 := Int.pow_ne_zero (by decide)
      have : z * 2 ^ d = c := by
        refine Int.eq_of_mul_eq_mul_right hp ?_
        rw [← h, Int.pow_add, Int.mul_assoc, Int.mul_comm (2 ^ d)]
      refine ⟨z, 0, by simp, Nat.le_trans ?_ hc⟩
      rw [← this, natAbs_mul_pow]
      exact Nat.le_mul_of_pos_right _ (Nat.two_pow_pos d)
    · obtain ⟨d, rfl⟩ : ∃ d, e = j + d := ⟨e - j, by omega⟩
      have hp : (2 : Int) ^ j ≠ 0 := Int.pow_ne_zero (by decide)
      refine ⟨c, d, Int.eq_of_mul_eq_mul_right hp ?_, hc⟩
      rw [h, Int.pow_add, Int.mul_assoc, Int.mul_comm (2 ^ d)]
  · rintro ⟨c, e, h, hc⟩
    exact ⟨c, e + j, by rw [h, Int.pow_add, Int.mul_assoc], hc⟩
theorem rn_shift (z : Int) (j : Nat) : rn (z * 2 ^ j) = rn z * 2 ^ j := by
  have key : ∀ m : Nat, Fp.mag Ieee.double (Fp.grid Ieee.double (m * 2 ^ j) 0) = Fp.mag Ieee.double (Fp.grid Ieee.double m 0) * 2 ^ j := by
    intro m
    by_cases h0 : m = 0
    · subst h0; rw [Nat.zero_mul, Fp.grid_zero, Fp.mag_zero, Nat.zero_mul]
    have hl := Fp.log2_mul_pow m j h0
    have hp := Nat.two_pow_pos j
    rcases Nat.lt_or_ge m.log2 52 with h1 | h1
    · have hm : m < 9007199254740992 := by
        have := Nat.lt_log2_self (n := m)
        exact Nat.lt_of_lt_of_le this (Nat.le_trans (Nat.pow_le_pow_right (by decide) (show m.log2 + 1 ≤ 53 by omega)) (by decide))
      have f1 := rn_few (z := (m : Int)) ⟨m, 0, by simp, by omega⟩
      have f2 := rn_few (z := ((m * 2 ^ j : Nat) : Int)) ⟨m, j, by rw [Int.natCast_mul, cast_pow], by omega⟩
      have g1 := rn_abs (m : Int)
      have g2 := rn_abs ((m * 2 ^ j : Nat) : Int)
      rw [f1] at g1
      rw [f2] at g2
      rw [Int.natAbs_natCast] at g1 g2
      rw [← g1, ← g2]
    · have hm0 : m * 2 ^ j ≠ 0 := Nat.mul_ne_zero h0 (by omega)
      rw [mag_grid (by omega) hm0, mag_grid h1 h0, hl, show m.log2 + j - 52 = m.log2 - 52 + j by omega, Nat.pow_add, Fp.rne_scale _ _ _ hp, Nat.mul_assoc]
  have hP : (0 : Int) < 2 ^ j := Int.pow_pos (by decide)
  have hn : (z * 2 ^ j < 0) ↔ z < 0 := by
    constructor
    · intro h
      rcases Int.lt_or_le z 0 with h1 | h1
      · exact h1
      · exact absurd h (Int.not_lt.2 (Int.mul_nonneg h1 (Int.le_of_lt hP)))
    · intro h; exact Int.mul_neg_of_neg_of_pos h hP
  unfold rn
  rw [natAbs_mul_pow, key]
  by_cases h : z < 0
  · rw [if_pos (hn.2 h), if_pos h, Int.natCast_mul, cast_pow, Int.neg_mul]
  · rw [if_neg (fun g => h (hn.1 g)), if_neg h, Int.natCast_mul, cast_pow]
def splC (A : Int) : Int := rn (134217729 * A)
def splH (A : Int) : Int := rn (splC A - rn (splC A - A))
def splL (A : Int) : Int := rn (A - splH A)
theorem spl_shift (A : Int) (j : Nat) : splH (A * 2 ^ j) = splH A * 2 ^ j ∧ splL (A * 2 ^ j) = splL A * 2 ^ j := by
  have h1 : splC (A * 2 ^ j) = splC A * 2 ^ j := by unfold splC; rw [← Int.mul_assoc, rn_shift]
  have h2 : splH (A * 2 ^ j) = splH A * 2 ^ j := by
    unfold splH
    rw [h1, ← Int.sub_mul, rn_shift, ← Int.sub_mul, rn_shift]
  refine ⟨h2, ?_⟩
  unfold splL
  rw [h2, ← Int.sub_mul, rn_shift]
theorem spl_neg (A : Int) : splH (-A) = -splH A ∧ splL (-A) = -splL A := by
  have h1 : splC (-A) = -splC A := by unfold splC; rw [Int.mul_neg, rn_neg]
  have h2 : splH (-A) = -splH A := by
    unfold splH
    rw [h1, show -splC A - -A = -(splC A - A) by omega, rn_neg, show -splC A - -rn (splC A - A) = -(splC A - rn (splC A - A)) by omega, rn_neg]
  refine ⟨h2, ?_⟩
  unfold splL
  rw [h2, show -A - -splH A = -(A - splH A) by omega, rn_neg]
theorem int_repz {z : Int} (h : z.natAbs ≤ 9007199254740992) : RepZ z := ⟨z, 0, by simp, h⟩
theorem grid_at {z : Int} {L : Nat} (h1 : 4503599627370496 * 2 ^ L ≤ z.natAbs) (h2 : z.natAbs < 9007199254740992 * 2 ^ L) : Mu L (rn z) ∧ 2 * (rn z - z).natAbs ≤ 2 ^ L := by
  obtain ⟨K, q, g1, g2, _, g4, g5, _⟩ := rn_spec z
  have e1 : ¬ K < L := fun h => by have := pow_up h; omega
  have e2 : ¬ L < K := fun h => by have := pow_up h; have := g4 (by omega); omega
  have e : K = L := by omega
  subst e
  exact ⟨⟨q, g1⟩, g5⟩
theorem spl_pos {a : Int} (h1 : 4503599627370496 ≤ a) (h2 : a < 9007199254740992) : ∃ h l : Int, splH a = h ∧ splL a = l ∧ h + l = a ∧ Mu 27 h ∧ h.natAbs ≤ 9007199254740992 ∧ l.natAbs ≤ 67108864 := by
  have p27 : (2 : Nat) ^ 27 = 134217728 := by decide
  have p28 : (2 : Nat) ^ 28 = 268435456 := by decide
  -- the product with the splitter
  obtain ⟨c, hc⟩ : ∃ c, c = rn (134217729 * a) := ⟨_, rfl⟩
  have hcm : Mu 27 c ∧ 604462909807314587353088 ≤ c - a ∧ c - a ≤ 1208925819614629174706176 ∧ (c - 134217729 * a).natAbs ≤ 134217728 := by
    rcases Int.lt_or_le (134217729 * a) 1208925819614629174706176 with h | h
    · obtain ⟨g1, g2⟩ := grid_at (z := 134217729 * a) (L := 27) (by rw [p27]; omega) (by rw [p27]; omega)
      rw [← hc] at g1 g2
      rw [p27] at g2
      refine ⟨g1, ?_, by omega, by omega⟩
      by_cases ha : a = 4503599627370496
      · have : c = 134217729 * a := by rw [hc]; exact rn_few ⟨134217729, 52, by rw [ha]; decide, by decide⟩
        omega
      · omega
    · obtain ⟨g1, g2⟩ := grid_at (z := 134217729 * a) (L := 28) (by rw [p28]; omega) (by rw [p28]; omega)
      rw [← hc] at g1 g2
      rw [p28] at g2
      exact ⟨g1.le (by decide), by omega, by omega, by omega⟩
  obtain ⟨c1, c2, c3, c4⟩ := hcm
  obtain ⟨d, hd⟩ : ∃ d, d = rn (c - a) := ⟨_, rfl⟩
  have hdm : Mu 27 d ∧ (d - (c - a)).natAbs ≤ 67108864 := by
    by_cases h : c - a = 1208925819614629174706176
    · have : d = c - a := by rw [hd]; exact rn_few ⟨1, 80, by rw [h]; decide, by decide⟩
      exact ⟨⟨9007199254740992, by rw [this, h]; decide⟩, by omega⟩
    · obtain ⟨g1, g2⟩ := grid_at (z := c - a) (L := 27) (by rw [p27]; omega) (by rw [p27]; omega)
      rw [← hd] at g1 g2
      rw [p27] at g2
      exact ⟨g1, by omega⟩
  obtain ⟨d1, d2⟩ := hdm
  have mh : Mu 27 (c - d) := c1.sub d1
  have hle : (c - d).natAbs ≤ 9007199254740992 := by
    obtain ⟨e, he⟩ := mh
    rw [show (2 : Int) ^ 27 = 134217728 by decide] at he
    omega
  have eH : splH a = c - d := by
    unfold splH splC
    rw [← hc, ← hd]
    exact rn_few (int_repz hle)
  have eL : splL a = a - (c - d) := by
    unfold splL
    rw [eH]
    exact rn_few (int_repz (by omega))
  exact ⟨c - d, a - (c - d), eH, eL, by omega, mh, hle, by omega⟩
theorem Mu.neg {k : Nat} {z : Int} (h : Mu k z) : Mu k (-z) := by
  have := (Mu.zero k).sub h
  rwa [Int.zero_sub] at this
theorem spl_norm {a : Int} (h1 : 4503599627370496 ≤ a.natAbs) (h2 : a.natAbs < 9007199254740992) : ∃ h l : Int, splH a = h ∧ splL a = l ∧ h + l = a ∧ Mu 27 h ∧ h.natAbs ≤ 9007199254740992 ∧ l.natAbs ≤ 67108864 := by
  rcases Int.le_total 0 a with h0 | h0
  · exact spl_pos (by omega) (by omega)
  · obtain ⟨h, l, g1, g2, g3, g4, g5, g6⟩ := spl_pos (a := -a) (by omega) (by omega)
    obtain ⟨n1, n2⟩ := spl_neg a
    rw [n1] at g1
    rw [n2] at g2
    exact ⟨-h, -l, by omega, by omega, by omega, g4.neg, by rw [Int.natAbs_neg]; exact g5, by rw [Int.natAbs_neg]; exact g6⟩
theorem norm_of {A : Int} (h : RepZ A) (h0 : A ≠ 0) : ∃ (a : Int) (j u : Nat), A * 2 ^ j = a * 2 ^ u ∧ 4503599627370496 ≤ a.natAbs ∧ a.natAbs < 9007199254740992 := by
  obtain ⟨k, a, h1, h2, _⟩ := canon_of h
  have ha : a.natAbs ≠ 0 := by
    intro g
    have hz : a = 0 := by omega
    rw [h1, hz, Int.zero_mul] at h0
    exact h0 rfl
  have hl : a.natAbs.log2 ≤ 52 := by
    have := (Nat.log2_lt ha).2 (show a.natAbs < 2 ^ 53 from h2)
    omega
  obtain ⟨j, hj⟩ : ∃ j, j = 52 - a.natAbs.log2 := ⟨_, rfl⟩
  have b1 := Nat.log2_self_le ha
  have b2 := Nat.lt_log2_self (n := a.natAbs)
  refine ⟨a * 2 ^ j, j, k, ?_, ?_, ?_⟩
  · rw [h1, Int.mul_assoc, Int.mul_assoc, Int.mul_comm (2 ^ k)]
  · rw [natAbs_mul_pow]
    have := Nat.mul_le_mul_right (2 ^ j) b1
    rwa [← Nat.pow_add, show a.natAbs.log2 + j = 52 by omega] at this
  · rw [natAbs_mul_pow]
    have := Nat.mul_lt_mul_of_pos_right b2 (Nat.two_pow_pos j)
    rwa [← Nat.pow_add, show a.natAbs.log2 + 1 + j = 53 by omega] at this
theorem abs_mul_le {x y : Int} {m n : Nat} (hx : x.natAbs ≤ m) (hy : y.natAbs ≤ n) : (x * y).natAbs ≤ m * n := by
  rw [Int.natAbs_mul]; exact Nat.mul_le_mul hx hy
theorem dekker_norm {a b : Int} (ha1 : 4503599627370496 ≤ a.natAbs) (ha2 : a.natAbs < 9007199254740992) (hb1 : 4503599627370496 ≤ b.natAbs) (hb2 : b.natAbs < 9007199254740992) :
    splH a + splL a = a ∧ splH b + splL b = b ∧ RepZ (splH a * splH b) ∧ RepZ (splL a * splH b) ∧ RepZ (splH a * splL b) ∧ RepZ (splL a * splL b) ∧ RepZ (rn (a * b) - splH a * splH b) ∧
    RepZ (rn (a * b) - splH a * splH b - splL a * splH b) ∧ RepZ (rn (a * b) - splH a * splH b - splL a * splH b - splH a * splL b) ∧ RepZ (a * b - rn (a * b)) := by
  obtain ⟨h, l, e1, e2, e3, ⟨h', mh⟩, nh, nl⟩ := spl_norm ha1 ha2
  obtain ⟨i, k, f1, f2, f3, ⟨i', mi⟩, ni, nk⟩ := spl_norm hb1 hb2
  rw [e1, e2, f1, f2]
  have p27 : (2 : Int) ^ 27 = 134217728 := by decide
  rw [p27] at mh mi
  have nh' : h'.natAbs ≤ 67108864 := by omega
  have ni' : i'.natAbs ≤ 67108864 := by omega
  have q1 := abs_mul_le nh' ni'
  have q2 := abs_mul_le nh' nk
  have q3 := abs_mul_le nl ni'
  have q4 := abs_mul_le nl nk
  have x1 : h * i = h' * i' * 2 ^ 54 := by rw [mh, mi, show (2 : Int) ^ 54 = 134217728 * 134217728 by decide]; ac_rfl
  have x2 : h * k = h' * k * 2 ^ 27 := by rw [mh, p27]; ac_rfl
  have x3 : l * i = l * i' * 2 ^ 27 := by rw [mi, p27]; ac_rfl
  have hab : a * b = h * i + h * k + l * i + l * k := by
    rw [← e3, ← f3, Int.add_mul, Int.mul_add, Int.mul_add]; omega
  have hP1 : 20282409603651670423947251286016 ≤ (a * b).natAbs := by rw [Int.natAbs_mul]; exact Nat.mul_le_mul ha1 hb1
  have hP2 : (a * b).natAbs < 81129638414606681695789005144064 := by
    rw [Int.natAbs_mul]
    exact Nat.lt_of_le_of_lt (Nat.mul_le_mul (show a.natAbs ≤ 9007199254740991 by omega) (show b.natAbs ≤ 9007199254740991 by omega)) (by decide)
  have hp : Mu 52 (rn (a * b)) ∧ (rn (a * b) - a * b).natAbs ≤ 4503599627370496 := by
    rcases Nat.lt_or_ge (a * b).natAbs 40564819207303340847894502572032 with g | g
    · obtain ⟨g1, g2⟩ := grid_at (z := a * b) (L := 52) (Nat.le_trans (by decide) hP1) (Nat.lt_of_lt_of_le g (by decide))
      rw [show (2 : Nat) ^ 52 = 4503599627370496 by decide] at g2
      exact ⟨g1, by omega⟩
    · obtain ⟨g1, g2⟩ := grid_at (z := a * b) (L := 53) (Nat.le_trans (by decide) g) (Nat.lt_of_lt_of_le hP2 (by decide))
      rw [show (2 : Nat) ^ 53 = 9007199254740992 by decide] at g2
      exact ⟨g1.le (by decide), by omega⟩
  obtain ⟨⟨p', hp1⟩, hp2⟩ := hp
  obtain ⟨p, ep⟩ : ∃ p, p = rn (a * b) := ⟨_, rfl⟩
  rw [← ep] at hp1 hp2 ⊢
  obtain ⟨P, eP⟩ : ∃ P, P = a * b := ⟨_, rfl⟩
  rw [← eP] at hab hp2 ⊢
  clear ep eP hP1 hP2 e1 e2 f1 f2
  have m1 : Mu 52 (p - h * i) := Mu.sub ⟨p', hp1⟩ (Mu.le (k := 54) ⟨h' * i', x1⟩ (by decide))
  have m2 : Mu 27 (p - h * i - l * i) := (m1.le (by decide)).sub ⟨_, x3⟩
  have r1 : RepZ (h * i) := ⟨h' * i', 54, x1, Nat.le_trans q1 (by decide)⟩
  have r2 : RepZ (l * i) := ⟨l * i', 27, x3, Nat.le_trans q3 (by decide)⟩
  have r3 : RepZ (h * k) := ⟨h' * k, 27, x2, Nat.le_trans q2 (by decide)⟩
  have r4 : RepZ (l * k) := int_repz (Nat.le_trans q4 (by decide))
  have p27' : (2 : Int) ^ 27 = 134217728 := by decide
  rw [p27'] at x2 x3
  generalize h' * k = hk at *
  generalize l * i' = li at *
  generalize h * i = HI at *
  generalize h * k = HK at *
  generalize l * i = LI at *
  generalize l * k = LK at *
  refine ⟨e3, f3, r1, r2, r3, r4, ?_, ?_, ?_, ?_⟩
  · obtain ⟨d, hd⟩ := m1
    exact repz_of hd (n := 9007199254740992) (by rw [show (2 : Nat) ^ 52 = 4503599627370496 by decide]; omega) (Nat.le_refl _)
  · obtain ⟨d, hd⟩ := m2
    exact repz_of hd (n := 9007199254740992) (by rw [show (2 : Nat) ^ 27 = 134217728 by decide]; omega) (Nat.le_refl _)
  · exact int_repz (by omega)
  · exact int_repz (by omega)
end Go.Proofs.YtjmaggfddinbkaaGreatDoor
end

section
namespace Go.Proofs.YtjmaggfddinbkaaGreatDoor
def layZ (h : Int) (l : List Int) : List Int := if h = 0 then l else h :: l
theorem lay_sum (h : Int) (l : List Int) : (layZ h l).sum = h + l.sum := by
  unfold layZ
  split
  · subst h; rw [Int.zero_add]
  · rw [List.sum_cons]
theorem lay_mem {h y : Int} {l : List Int} (g : y ∈ layZ h l) : y = h ∨ y ∈ l := by
  unfold layZ at g
  split at g
  · exact .inr g
  · exact List.mem_cons.1 g
theorem lay_exp {h : Int} {l : List Int} (hl : Expn l) (g : h ≠ 0 → ∀ y ∈ l, Low h y) : Expn (layZ h l) := by
  unfold layZ
  split
  · exact hl
  · exact ⟨by assumption, g (by assumption), hl⟩
def quickL (A B : Int) : Int := rn (B - rn (rn (A + B) - A))
theorem quick_is {A B : Int} (hA : RepZ A) (hB : RepZ B) (h : B.natAbs ≤ A.natAbs) : quickL A B = A + B - rn (A + B) := by
  unfold quickL
  rw [rn_few (fast_rep hA hB h)]
  have e : B - (rn (A + B) - A) = -(rn (A + B) - (A + B)) := by omega
  rw [e, rn_few (err_rep hA hB).neg]
  omega
def scaleZ : List Int → Int → List Int
  | [], Q => layZ Q []
  | P :: l, Q => layZ (Q + (P - rn P) - rn (Q + (P - rn P))) (layZ (rn P + rn (Q + (P - rn P)) - rn (rn P + rn (Q + (P - rn P)))) (scaleZ l (rn (rn P + rn (Q + (P - rn P))))))
def scaleS : List (Int × Int) → Int → List Int
  | [], Q => layZ Q []
  | (T, t) :: l, Q => layZ (sumL Q t) (layZ (quickL T (sumS Q t)) (scaleS l (rn (T + sumS Q t))))
theorem scale_sum : ∀ (Ps : List Int) (Q : Int), (scaleZ Ps Q).sum = Ps.sum + Q
  | [], Q => by
    unfold scaleZ
    rw [lay_sum]; simp
  | P :: l, Q => by
    unfold scaleZ
    rw [lay_sum, lay_sum, scale_sum l, List.sum_cons]
    omega
theorem scale_mu {k : Nat} : ∀ (Ps : List Int) (Q : Int), (∀ P ∈ Ps, Mu k P) → Mu k Q → ∀ y ∈ scaleZ Ps Q, Mu k y
  | [], Q => by
    intro _ hQ y hy
    unfold scaleZ at hy
    rcases lay_mem hy with rfl | h
    · exact hQ
    · exact absurd h (by simp)
  | P :: l, Q => by
    intro hl hQ y hy
    have hP := hl P (List.mem_cons_self ..)
    have hT := hP.rn
    have ht := hP.sub hT
    have hU := (hQ.add ht).rn
    have hX := hT.add hU
    unfold scaleZ at hy
    rcases lay_mem hy with rfl | hy
    · exact (hQ.add ht).sub hU
    rcases lay_mem hy with rfl | hy
    · exact hX.sub hX.rn
    exact scale_mu l _ (fun x hx => hl x (List.mem_cons_of_mem _ hx)) hX.rn y hy
theorem rep_mu {y : Int} {K : Nat} (h : RepZ y) (g : 4503599627370496 * 2 ^ K ≤ y.natAbs) : Mu K y := by
  obtain ⟨k, a, h1, h2, _⟩ := canon_of h
  rcases Nat.lt_or_ge k K with h3 | h3
  · exfalso
    have e := pow_up h3
    rw [h1, natAbs_mul_pow] at g
    have hp := Nat.two_pow_pos k
    have : a.natAbs * 2 ^ k < 9007199254740992 * 2 ^ k := Nat.mul_lt_mul_of_pos_right h2 hp
    omega
  · exact Mu.le ⟨a, h1⟩ h3
def Sc : List Int → Int → Prop
  | [], _ => True
  | P :: l, b => (∃ m : Int, m ≠ 0 ∧ P = m * b) ∧ RepZ (P - rn P) ∧ ∃ c : Int, RepZ c ∧ P.natAbs + b.natAbs ≤ c.natAbs ∧ (∃ m : Int, c = m * b) ∧ Sc l c
theorem Sc.mult : ∀ {Ps : List Int} {b : Int}, Sc Ps b → ∀ P ∈ Ps, ∃ m : Int, P = m * b
  | [], _, _ => fun P hP => absurd hP (by simp)
  | P :: l, b, h => fun x hx => by
    obtain ⟨⟨m, _, hm⟩, _, c, _, _, ⟨n, hn⟩, hl⟩ := h
    rcases List.mem_cons.1 hx with rfl | hx
    · exact ⟨m, hm⟩
    · obtain ⟨j, hj⟩ := hl.mult x hx
      exact ⟨j * n, by rw [hj, hn, Int.mul_assoc]⟩
theorem Mu.mul' {k : Nat} {z : Int} (h : Mu k z) (b : Int) : Mu k (b * z) := by rw [Int.mul_comm]; exact h.mul b
theorem hsum {H h : Int} {k K : Nat} (hH : H.natAbs < 2 ^ k) (hm : Mu k h) (h0 : h ≠ 0) (hK : 2 * h.natAbs ≤ 2 ^ K) : (H + h).natAbs < 2 ^ K := by
  have := hm.least h0
  omega
theorem scale_core : ∀ (Ps : List Int) (Q H b : Int) (k : Nat), Sc Ps b → RepZ b → RepZ Q → Q.natAbs ≤ b.natAbs → (Q + H).natAbs < b.natAbs → H.natAbs < 2 ^ k → Mu k Q → Mu k b →
    Expn (scaleZ Ps Q) ∧ scaleS (Ps.map fun P => (rn P, P - rn P)) Q = scaleZ Ps Q
  | [], Q, H, b, k => by
    intro _ _ _ _ _ _ _ _
    refine ⟨?_, rfl⟩
    unfold scaleZ
    exact lay_exp trivial (fun _ y hy => absurd hy (by simp))
  | P :: l, Q, H, b, k => by
    intro hS hb hQ h1 h2 h3 h4 h5
    obtain ⟨⟨m, hm0, hm⟩, ht, c, hc, hPc, ⟨n, hn⟩, hl⟩ := hS
    have hT : RepZ (rn P) := rn_repz P
    have hP4 : Mu k P := by rw [hm]; exact h5.mul' m
    have hc4 : Mu k c := by rw [hn]; exact h5.mul' n
    obtain ⟨T, eT⟩ : ∃ T, T = rn P := ⟨_, rfl⟩
    obtain ⟨t, et⟩ : ∃ t, t = P - T := ⟨_, rfl⟩
    obtain ⟨U, eU⟩ : ∃ U, U = rn (Q + t) := ⟨_, rfl⟩
    obtain ⟨X, eX⟩ : ∃ X, X = T + U := ⟨_, rfl⟩
    obtain ⟨Q', eQ⟩ : ∃ Q', Q' = rn X := ⟨_, rfl⟩
    rw [← eT] at hT ht
    rw [← et] at ht
    have hU : RepZ U := by rw [eU]; exact rn_repz _
    have hQ' : RepZ Q' := by rw [eQ]; exact rn_repz _
    have mT : Mu k T := by rw [eT]; exact hP4.rn
    have mt : Mu k t := by rw [et]; exact hP4.sub mT
    have mU : Mu k U := by rw [eU]; exact (h4.add mt).rn
    have mX : Mu k X := by rw [eX]; exact mT.add mU
    have mQ : Mu k Q' := by rw [eQ]; exact mX.rn
    have hbT : T.natAbs ≤ c.natAbs := by rw [eT]; exact rn_amt hc (by omega)
    have hfast : U.natAbs ≤ T.natAbs := by
      by_cases hm1 : m.natAbs = 1
      · have hPb : P.natAbs = b.natAbs := by rw [hm, Int.natAbs_mul, hm1, Nat.one_mul]
        have hPr : RepZ P := by
          rcases Int.natAbs_eq_natAbs_iff.1 hPb with e | e
          · rw [e]; exact hb
          · rw [e]; exact hb.neg
        have eTP : T = P := by rw [eT, rn_few hPr]
        have et0 : t = 0 := by rw [et, eTP]; omega
        rw [eU, et0, Int.add_zero, rn_few hQ, eTP]
        omega
      · have hm2 : 2 ≤ m.natAbs := by omega
        have hPb : 2 * b.natAbs ≤ P.natAbs := by rw [hm, Int.natAbs_mul]; exact Nat.mul_le_mul_right _ hm2
        have ht4 : 4 * t.natAbs ≤ P.natAbs := by
          by_cases ht0 : t = 0
          · rw [ht0]; simp
          · have g : P - rn P ≠ 0 := by rw [← eT, ← et]; exact ht0
            obtain ⟨K, _, k2, k3, _⟩ := rn_grid_lost g
            rw [← eT, ← et] at k2
            omega
        rw [eU]
        refine rn_amt hT ?_
        omega
    have hx : (X + (H + (Q + t - U))).natAbs < c.natAbs := by
      rw [show X + (H + (Q + t - U)) = Q + H + P by omega]
      omega
    -- the first of two that are laid
    obtain ⟨k1, a1, a2, a3, a4, a5⟩ : ∃ k1, (H + (Q + t - U)).natAbs < 2 ^ k1 ∧ Mu k1 U ∧ Mu k1 T ∧ Mu k1 c ∧ (Q + t - U ≠ 0 → (Q + t - U).natAbs < 2 ^ k1) := by
      by_cases h0 : Q + t - U = 0
      · exact ⟨k, by rw [h0, Int.add_zero]; exact h3, mU, mT, hc4, fun h => absurd h0 h⟩
      · have g : Q + t - rn (Q + t) ≠ 0 := by rw [← eU]; exact h0
        obtain ⟨K, g1, g2, g3, g4⟩ := rn_grid_lost g
        rw [← eU] at g1 g2 g4
        have hp := Nat.two_pow_pos K
        exact ⟨K, hsum h3 ((h4.add mt).sub mU) h0 g2, g1, rep_mu hT (by omega), rep_mu hc (by omega), fun _ => by omega⟩
    have mX1 : Mu k1 X := by rw [eX]; exact a3.add a2
    have hXc : X.natAbs ≤ c.natAbs := mu_abs_le mX1 a4 a1 hx
    have hQc : Q'.natAbs ≤ c.natAbs := by rw [eQ]; exact rn_amt hc hXc
    have mQ1 : Mu k1 Q' := by rw [eQ]; exact mX1.rn
    -- the second
    obtain ⟨k2, b1, b2, b3, b4⟩ : ∃ k2, (H + (Q + t - U) + (X - Q')).natAbs < 2 ^ k2 ∧ Mu k2 Q' ∧ Mu k2 c ∧ (X - Q' ≠ 0 → (X - Q').natAbs < 2 ^ k2) := by
      by_cases h0 : X - Q' = 0
      · exact ⟨k1, by rw [h0, Int.add_zero]; exact a1, mQ1, a4, fun h => absurd h0 h⟩
      · have g : X - rn X ≠ 0 := by rw [← eQ]; exact h0
        obtain ⟨K, g1, g2, g3, g4⟩ := rn_grid_lost g
        rw [← eQ] at g1 g2 g4
        have hp := Nat.two_pow_pos K
        exact ⟨K, hsum a1 (mX1.sub mQ1) h0 g2, g1, rep_mu hc (by omega), fun _ => by omega⟩
    have hlast : (Q' + (H + (Q + t - U) + (X - Q'))).natAbs < c.natAbs := by
      rw [show Q' + (H + (Q + t - U) + (X - Q')) = X + (H + (Q + t - U)) by omega]
      exact hx
    obtain ⟨ih1, ih2⟩ := scale_core l Q' _ c k2 hl hc hQ' hQc hlast b1 b2 b3
    have hall : ∀ {j : Nat}, Mu j c → ∀ P ∈ l, Mu j P := by
      intro j hj P hP
      obtain ⟨i, hi⟩ := hl.mult P hP
      rw [hi]; exact hj.mul' i
    have sL : sumL Q t = Q + t - rn (Q + t) := two_sum hQ ht
    have qL : quickL T U = T + U - rn (T + U) := quick_is hT hU hfast
    constructor
    · unfold scaleZ
      rw [← eT, ← et, ← eU, ← eX, ← eQ]
      refine lay_exp (lay_exp ih1 fun h0 y hy => ?_) fun h0 y hy => ?_
      · exact Low.of h0 (b4 h0) (scale_mu l Q' (hall b3) b2 y hy)
      · refine Low.of h0 (a5 h0) ?_
        rcases lay_mem hy with rfl | hy
        · exact mX1.sub mQ1
        · exact scale_mu l Q' (hall a4) mQ1 y hy
    · unfold scaleZ
      rw [List.map_cons]
      unfold scaleS
      rw [← eT, ← et, sL, ← eU, show sumS Q t = U by rw [eU]; rfl, qL, ← eX, ← eQ, ih2]
theorem scale_first {P : Int} {l : List Int} {c : Int} (hc : RepZ c) (hP : P.natAbs < c.natAbs) (ht : RepZ (P - rn P)) (hl : Sc l c) :
    Expn (layZ (P - rn P) (scaleZ l (rn P))) ∧ scaleS (l.map fun P => (rn P, P - rn P)) (rn P) = scaleZ l (rn P) := by
  have hT := rn_repz P
  have hTc : (rn P).natAbs ≤ c.natAbs := rn_amt hc (by omega)
  have hx : (rn P + (P - rn P)).natAbs < c.natAbs := by rw [show rn P + (P - rn P) = P by omega]; exact hP
  have hall : ∀ {j : Nat}, Mu j c → ∀ P ∈ l, Mu j P := by
    intro j hj P hP
    obtain ⟨i, hi⟩ := hl.mult P hP
    rw [hi]; exact hj.mul' i
  by_cases h0 : P - rn P = 0
  · obtain ⟨ih1, ih2⟩ := scale_core l (rn P) (P - rn P) c 0 hl hc hT hTc hx (by rw [h0]; decide) (Mu.none _) (Mu.none _)
    exact ⟨lay_exp ih1 fun h => absurd h0 h, ih2⟩
  · obtain ⟨K, g1, g2, g3, g4⟩ := rn_grid_lost h0
    have hp := Nat.two_pow_pos K
    have mc : Mu K c := rep_mu hc (by omega)
    obtain ⟨ih1, ih2⟩ := scale_core l (rn P) (P - rn P) c K hl hc hT hTc hx (by omega) g1 mc
    exact ⟨lay_exp ih1 fun h y hy => Low.of h (by omega) (scale_mu l _ (hall mc) g1 y hy), ih2⟩
end Go.Proofs.YtjmaggfddinbkaaGreatDoor
end

section
namespace Go.Proofs.YtjmaggfddinbkaaGreatDoor
theorem spl_mu {A : Int} {u : Nat} (h : Mu u A) : Mu u (splH A) ∧ Mu u (splL A) := by
  have hc : Mu u (splC A) := by unfold splC; exact (h.mul' 134217729).rn
  have hh : Mu u (splH A) := by unfold splH; exact (hc.sub (hc.sub h).rn).rn
  exact ⟨hh, by unfold splL; exact (h.sub hh).rn⟩
theorem spl_zero : splH 0 = 0 ∧ splL 0 = 0 := by
  have hc : splC 0 = 0 := by unfold splC; rw [Int.mul_zero, rn_zero]
  have hh : splH 0 = 0 := by unfold splH; rw [hc, Int.sub_self, rn_zero, Int.sub_self, rn_zero]
  exact ⟨hh, by unfold splL; rw [hh, Int.sub_self, rn_zero]⟩
structure Dek (A B : Int) : Prop where
  a : splH A + splL A = A
  b : splH B + splL B = B
  hi : RepZ (splH A * splH B)
  li : RepZ (splL A * splH B)
  hk : RepZ (splH A * splL B)
  lk : RepZ (splL A * splL B)
  d1 : RepZ (rn (A * B) - splH A * splH B)
  d2 : RepZ (rn (A * B) - splH A * splH B - splL A * splH B)
  d3 : RepZ (rn (A * B) - splH A * splH B - splL A * splH B - splH A * splL B)
  e : RepZ (A * B - rn (A * B))
theorem repz_two {x y : Int} {i j : Nat} (h : x * 2 ^ i = y * 2 ^ j) (g : RepZ y) : RepZ x := repz_shift.1 (by rw [h]; exact repz_shift.2 g)
theorem eq_of_shift {x y : Int} {j : Nat} (h : x * 2 ^ j = y * 2 ^ j) : x = y := Int.eq_of_mul_eq_mul_right (Int.pow_ne_zero (by decide)) h
theorem mul_shift {x y a b : Int} {i j u v : Nat} (hx : x * 2 ^ i = a * 2 ^ u) (hy : y * 2 ^ j = b * 2 ^ v) : x * y * 2 ^ (i + j) = a * b * 2 ^ (u + v) := by
  have e1 : x * y * 2 ^ (i + j) = (x * 2 ^ i) * (y * 2 ^ j) := by rw [Int.pow_add]; ac_rfl
  have e2 : a * b * 2 ^ (u + v) = (a * 2 ^ u) * (b * 2 ^ v) := by rw [Int.pow_add]; ac_rfl
  rw [e1, e2, hx, hy]
theorem dekker {A B : Int} (hA : RepZ A) (hB : RepZ B) : Dek A B := by
  have hz : RepZ 0 := rn_zero_rep
  by_cases a0 : A = 0
  · subst a0
    obtain ⟨h1, h2⟩ := spl_zero
    have hs : splH B + splL B = B := by
      by_cases b0 : B = 0
      · subst b0; rw [h1, h2]; rfl
      · obtain ⟨b, j, u, hb, b1, b2⟩ := norm_of hB b0
        obtain ⟨e, _⟩ := dekker_norm b1 b2 b1 b2
        obtain ⟨s1, s2⟩ := spl_shift B j
        obtain ⟨t1, t2⟩ := spl_shift b u
        refine eq_of_shift (j := j) ?_
        rw [Int.add_mul, ← s1, ← s2, hb, t1, t2, ← Int.add_mul, e]
    constructor <;> simp only [h1, h2, Int.zero_mul, Int.sub_self, rn_zero, Int.add_zero, hz, hs]
  by_cases b0 : B = 0
  · subst b0
    obtain ⟨h1, h2⟩ := spl_zero
    have hs : splH A + splL A = A := by
      obtain ⟨a, j, u, ha, a1, a2⟩ := norm_of hA a0
      obtain ⟨e, _⟩ := dekker_norm a1 a2 a1 a2
      obtain ⟨s1, s2⟩ := spl_shift A j
      obtain ⟨t1, t2⟩ := spl_shift a u
      refine eq_of_shift (j := j) ?_
      rw [Int.add_mul, ← s1, ← s2, ha, t1, t2, ← Int.add_mul, e]
    constructor <;> simp only [h1, h2, Int.mul_zero, Int.sub_self, rn_zero, Int.add_zero, hz, hs]
  obtain ⟨a, i, u, ha, a1, a2⟩ := norm_of hA a0
  obtain ⟨b, j, v, hb, b1, b2⟩ := norm_of hB b0
  obtain ⟨e1, e2, r1, r2, r3, r4, r5, r6, r7, r8⟩ := dekker_norm a1 a2 b1 b2
  obtain ⟨s1, s2⟩ := spl_shift A i
  obtain ⟨t1, t2⟩ := spl_shift a u
  rw [ha, t1] at s1
  rw [ha, t2] at s2
  obtain ⟨s3, s4⟩ := spl_shift B j
  obtain ⟨t3, t4⟩ := spl_shift b v
  rw [hb, t3] at s3
  rw [hb, t4] at s4
  have m1 := mul_shift s1.symm s3.symm
  have m2 := mul_shift s2.symm s3.symm
  have m3 := mul_shift s1.symm s4.symm
  have m4 := mul_shift s2.symm s4.symm
  have m0 := mul_shift ha hb
  have mr : rn (A * B) * 2 ^ (i + j) = rn (a * b) * 2 ^ (u + v) := by rw [← rn_shift, m0, rn_shift]
  have h1 : splH A + splL A = A := eq_of_shift (j := i) (by rw [Int.add_mul, ← s1, ← s2, ← Int.add_mul, e1, ha])
  have h2 : splH B + splL B = B := eq_of_shift (j := j) (by rw [Int.add_mul, ← s3, ← s4, ← Int.add_mul, e2, hb])
  refine ⟨h1, h2, repz_two m1 r1, repz_two m2 r2, repz_two m3 r3, repz_two m4 r4, repz_two (i := i + j) (j := u + v) ?_ r5, repz_two (i := i + j) (j := u + v) ?_ r6, repz_two (i := i + j) (j := u + v) ?_ r7, repz_two (i := i + j) (j := u + v) ?_ r8⟩
  · rw [Int.sub_mul, Int.sub_mul, mr, m1]
  · rw [Int.sub_mul, Int.sub_mul, Int.sub_mul, Int.sub_mul, mr, m1, m2]
  · rw [Int.sub_mul, Int.sub_mul, Int.sub_mul, Int.sub_mul, Int.sub_mul, Int.sub_mul, mr, m1, m2, m3]
  · rw [Int.sub_mul, Int.sub_mul, mr, m0]
def prodL (A B : Int) : Int := rn (rn (splL A * splL B) - rn (rn (rn (rn (A * B) - rn (splH A * splH B)) - rn (splL A * splH B)) - rn (splH A * splL B)))
theorem prod_is {A B : Int} (hA : RepZ A) (hB : RepZ B) : prodL A B = A * B - rn (A * B) := by
  have d := dekker hA hB
  have hab : A * B = splH A * splH B + splH A * splL B + splL A * splH B + splL A * splL B := by
    have h1 := d.a
    have h2 := d.b
    calc A * B = (splH A + splL A) * (splH B + splL B) := by rw [h1, h2]
      _ = _ := by rw [Int.add_mul, Int.mul_add, Int.mul_add]; omega
  unfold prodL
  rw [rn_few d.lk, rn_few d.hi, rn_few d.li, rn_few d.hk, rn_few d.d1, rn_few d.d2, rn_few d.d3]
  have e : splL A * splL B - (rn (A * B) - splH A * splH B - splL A * splH B - splH A * splL B) = A * B - rn (A * B) := by
    rw [hab]
    generalize splH A * splH B = x1
    generalize splH A * splL B = x2
    generalize splL A * splH B = x3
    generalize splL A * splL B = x4
    omega
  rw [e, rn_few d.e]
end Go.Proofs.YtjmaggfddinbkaaGreatDoor
end

section
namespace Go.Proofs.YtjmaggfddinbkaaGreatDoor
def upl : Nat := 1074
theorem upl_is : upl = 1074 := rfl
def Fz (v : Option Nat) (z : Int) : Prop := ∃ x, v = some x ∧ x % 9223372036854775808 < 9218868437227405312 ∧ Fp.un Ieee.double x = z
theorem Fz.eq {v : Option Nat} {y z : Int} (h : Fz v y) (g : Fz v z) : y = z := by
  obtain ⟨x, rfl, _, hx⟩ := h
  obtain ⟨x', e, _, hx'⟩ := g
  obtain rfl := Option.some.inj e
  rw [← hx, ← hx']
theorem Fz.fv {x : Nat} {z : Int} (h : Fz (fv x) z) : x % 9223372036854775808 < 9218868437227405312 ∧ Fp.un Ieee.double x = z := by
  obtain ⟨y, e, h1, h2⟩ := h
  unfold Go.Proofs.YtjmaggfddinbkaaGreatDoor.fv at e
  split at e
  · cases e
  · obtain rfl := Option.some.inj e; exact ⟨h1, h2⟩
theorem fz_of {x : Nat} (h : x % 9223372036854775808 < 9218868437227405312) : Fz (fv x) (Fp.un Ieee.double x) := ⟨x, if_neg (by omega), h, rfl⟩
theorem read_number {a : Nat} (h : ∃ s m e, Ieee.double.read a = .number s m e) : a % 9223372036854775808 < 9218868437227405312 := by
  obtain ⟨s, m, e, h⟩ := h
  rcases Nat.lt_trichotomy (a % 9223372036854775808) 9218868437227405312 with g | g | g
  · exact g
  · have := Fp.read_inf Ieee.double a (by rw [Fp.rg64, Fp.dI]; exact g) Fp.dBI
    rw [this] at h; cases h
  · obtain ⟨_, _, this⟩ := read_nan g
    rw [this] at h; cases h
theorem sum_number {d e : Ieee.Datum} {s : Bool} {m : Nat} {k : Int} (h : d.sum e = some (.number s m k)) : (∃ s m k, d = .number s m k) ∧ ∃ s m k, e = .number s m k := by
  cases d <;> cases e <;> simp only [Ieee.Datum.sum] at h <;> first | exact ⟨⟨_, _, _, rfl⟩, ⟨_, _, _, rfl⟩⟩ | (cases h; done) | (split at h <;> cases h; done)
theorem prod_number {d e : Ieee.Datum} {s : Bool} {m : Nat} {k : Int} (h : d.product e = some (.number s m k)) : (∃ s m k, d = .number s m k) ∧ ∃ s m k, e = .number s m k := by
  cases d <;> cases e <;> simp only [Ieee.Datum.product] at h <;> first | exact ⟨⟨_, _, _, rfl⟩, ⟨_, _, _, rfl⟩⟩ | (cases h; done) | (split at h <;> cases h; done)
theorem write_number {d : Ieee.Datum} (hn : d.isNaN = false) (h : Ieee.double.write d % 9223372036854775808 < 9218868437227405312) : ∃ s m k, d = .number s m k := by
  cases d with
  | nan s t => simp [Ieee.Datum.isNaN] at hn
  | infinity s =>
    exfalso
    have e : Ieee.double.write (.infinity s) = Ieee.double.word s Ieee.double.infRung := rfl
    rw [e] at h
    have := Fp.rg_word Ieee.double s Ieee.double.infRung (Fp.inf_lt Ieee.double)
    rw [Fp.rg64] at this
    rw [this, Fp.dI] at h
    omega
  | number s m k => exact ⟨s, m, k, rfl⟩
theorem neg_number {d : Ieee.Datum} (h : ∃ s m k, d.opposite = .number s m k) : ∃ s m k, d = .number s m k := by
  obtain ⟨s, m, k, h⟩ := h
  cases d with
  | nan s t => cases h
  | infinity s => cases h
  | number s m k => exact ⟨_, _, _, rfl⟩
theorem fin_back {op : BinOp} (ho : op = .add ∨ op = .sub ∨ op = .mul) {x y r : Nat} (h : floatBits op .f64 x y = some r) (hr : r % 9223372036854775808 < 9218868437227405312) :
    x % 9223372036854775808 < 9218868437227405312 ∧ y % 9223372036854775808 < 9218868437227405312 := by
  have key : ∀ o : Option Ieee.Datum, (∀ d, o = some d → d.isNaN = false) → o.map Ieee.double.write = some r → ∃ s m k, o = some (.number s m k) := by
    intro o hs hm
    cases o with
    | none => cases hm
    | some d =>
      obtain rfl := Option.some.inj hm
      obtain ⟨s, m, k, rfl⟩ := write_number (hs d rfl) hr
      exact ⟨s, m, k, rfl⟩
  rcases ho with rfl | rfl | rfl
  · obtain ⟨s, m, k, hd⟩ := key ((Ieee.double.read x).sum (Ieee.double.read y)) (fun d hd => sum_sane hd) h
    obtain ⟨h1, h2⟩ := sum_number hd
    exact ⟨read_number h1, read_number h2⟩
  · obtain ⟨s, m, k, hd⟩ := key ((Ieee.double.read x).sum (Ieee.double.read y).opposite) (fun d hd => sum_sane hd) h
    obtain ⟨h1, h2⟩ := sum_number hd
    exact ⟨read_number h1, read_number (neg_number h2)⟩
  · obtain ⟨s, m, k, hd⟩ := key ((Ieee.double.read x).product (Ieee.double.read y)) (fun d hd => prod_sane hd) h
    obtain ⟨h1, h2⟩ := prod_number hd
    exact ⟨read_number h1, read_number h2⟩
theorem word_is (z : Int) (s : Bool) (hs : z ≠ 0 → s = decide (z < 0)) :
    (Ieee.double.word s (Fp.rung Ieee.double z.natAbs) % 9223372036854775808 < 9218868437227405312 ↔ (rn z).natAbs < 2 ^ Fp.dtop) ∧
    ((rn z).natAbs < 2 ^ Fp.dtop → Fp.un Ieee.double (Ieee.double.word s (Fp.rung Ieee.double z.natAbs)) = rn z) := by
  have hl : Fp.rung Ieee.double z.natAbs < Ieee.double.signWeight := Nat.lt_of_le_of_lt (Nat.min_le_right _ _) (Fp.inf_lt Ieee.double)
  have h1 := Fp.rg_word Ieee.double s _ hl
  have h2 := Fp.sg_word Ieee.double s _ hl
  have hg : (rn z).natAbs < 2 ^ Fp.dtop ↔ Fp.grid Ieee.double z.natAbs 0 < Ieee.double.infRung := by
    rw [rn_abs, ← Fp.mag_infD]; exact Fp.mag_lt_iff Ieee.double
  refine ⟨?_, fun h => ?_⟩
  · rw [← Fp.rg64, h1, hg, Fp.dI]
    unfold Fp.rung
    rw [Fp.dI]
    omega
  · have h3 := hg.1 h
    have h4 : Fp.rung Ieee.double z.natAbs = Fp.grid Ieee.double z.natAbs 0 := Nat.min_eq_left (Nat.le_of_lt h3)
    unfold Fp.un
    rw [h1, h2, h4]
    unfold rn
    by_cases h0 : z = 0
    · subst h0
      rw [Int.natAbs_zero, Fp.grid_zero, Fp.mag_zero]
      cases s <;> rfl
    · rw [hs h0]
      by_cases hn : z < 0
      · rw [decide_eq_true hn, if_pos rfl, if_pos hn]
      · rw [decide_eq_false hn, if_neg Bool.false_ne_true, if_neg hn]
theorem add_iff {u v : Option Nat} {z : Int} : Fz (fop .add u v) z ↔ ∃ A B, Fz u A ∧ Fz v B ∧ z = rn (A + B) ∧ z.natAbs < 2 ^ Fp.dtop := by
  constructor
  · rintro ⟨r, h, hr, hz⟩
    cases u with
    | none => cases h
    | some x =>
      cases v with
      | none => cases h
      | some y =>
        have hb : floatBits .add .f64 x y = some r := h
        obtain ⟨hx, hy⟩ := fin_back (.inl rfl) hb hr
        have ha := Fp.add_fin Ieee.double x y (by rw [Fp.rg64, Fp.dI]; exact hx) (by rw [Fp.rg64, Fp.dI]; exact hy)
        have he : some r = Ieee.double.add x y := hb.symm
        rw [ha] at he
        obtain rfl := Option.some.inj he
        obtain ⟨w1, w2⟩ := word_is (Fp.un Ieee.double x + Fp.un Ieee.double y) _ (fun h0 => if_neg h0)
        have hl := w1.1 hr
        have hv := w2 hl
        exact ⟨_, _, ⟨x, rfl, hx, rfl⟩, ⟨y, rfl, hy, rfl⟩, by rw [← hz, hv], by rw [← hz, hv]; exact hl⟩
  · rintro ⟨A, B, ⟨x, rfl, hx, rfl⟩, ⟨y, rfl, hy, rfl⟩, rfl, hl⟩
    have ha := Fp.add_fin Ieee.double x y (by rw [Fp.rg64, Fp.dI]; exact hx) (by rw [Fp.rg64, Fp.dI]; exact hy)
    obtain ⟨w1, w2⟩ := word_is (Fp.un Ieee.double x + Fp.un Ieee.double y) _ (fun h0 => if_neg h0)
    exact ⟨_, ha, w1.2 hl, w2 hl⟩
theorem sub_iff {u v : Option Nat} {z : Int} : Fz (fop .sub u v) z ↔ ∃ A B, Fz u A ∧ Fz v B ∧ z = rn (A - B) ∧ z.natAbs < 2 ^ Fp.dtop := by
  constructor
  · rintro ⟨r, h, hr, hz⟩
    cases u with
    | none => cases h
    | some x =>
      cases v with
      | none => cases h
      | some y =>
        have hb : floatBits .sub .f64 x y = some r := h
        obtain ⟨hx, hy⟩ := fin_back (.inr (.inl rfl)) hb hr
        have ha := Fp.sub_fin Ieee.double x y (by rw [Fp.rg64, Fp.dI]; exact hx) (by rw [Fp.rg64, Fp.dI]; exact hy)
        have he : some r = Ieee.double.sub x y := hb.symm
        rw [ha] at he
        obtain rfl := Option.some.inj he
        obtain ⟨w1, w2⟩ := word_is (Fp.un Ieee.double x - Fp.un Ieee.double y) _ (fun h0 => if_neg h0)
        have hl := w1.1 hr
        have hv := w2 hl
        exact ⟨_, _, ⟨x, rfl, hx, rfl⟩, ⟨y, rfl, hy, rfl⟩, by rw [← hz, hv], by rw [← hz, hv]; exact hl⟩
  · rintro ⟨A, B, ⟨x, rfl, hx, rfl⟩, ⟨y, rfl, hy, rfl⟩, rfl, hl⟩
    have ha := Fp.sub_fin Ieee.double x y (by rw [Fp.rg64, Fp.dI]; exact hx) (by rw [Fp.rg64, Fp.dI]; exact hy)
    obtain ⟨w1, w2⟩ := word_is (Fp.un Ieee.double x - Fp.un Ieee.double y) _ (fun h0 => if_neg h0)
    exact ⟨_, ha, w1.2 hl, w2 hl⟩
theorem un_abs (x : Nat) : (Fp.un Ieee.double x).natAbs = Fp.mag Ieee.double (Fp.rg Ieee.double x) := by
  unfold Fp.un; split <;> omega
theorem un_sign {x : Nat} (h : Fp.un Ieee.double x ≠ 0) : Fp.sg Ieee.double x = decide (Fp.un Ieee.double x < 0) := by
  unfold Fp.un at h ⊢
  cases hs : Fp.sg Ieee.double x
  · rw [hs, if_neg Bool.false_ne_true] at h
    rw [if_neg Bool.false_ne_true, decide_eq_false (by omega)]
  · rw [hs, if_pos rfl] at h
    rw [if_pos rfl, decide_eq_true (by omega)]
theorem sign_mul {A B : Int} (hA : A ≠ 0) (hB : B ≠ 0) : (decide (A < 0) ^^ decide (B < 0)) = decide (A * B < 0) := by
  rcases Int.lt_or_le A 0 with a | a <;> rcases Int.lt_or_le B 0 with b | b
  · rw [decide_eq_true a, decide_eq_true b, decide_eq_false (Int.not_lt.2 (Int.le_of_lt (Int.mul_pos_of_neg_of_neg a b)))]; rfl
  · rw [decide_eq_true a, decide_eq_false (by omega), decide_eq_true (Int.mul_neg_of_neg_of_pos a (by omega))]; rfl
  · rw [decide_eq_false (by omega), decide_eq_true b, decide_eq_true (Int.mul_neg_of_pos_of_neg (by omega) b)]; rfl
  · rw [decide_eq_false (by omega), decide_eq_false (by omega), decide_eq_false (Int.not_lt.2 (Int.mul_nonneg a b))]; rfl
theorem mul_iff {u v : Option Nat} {z : Int} : Fz (fop .mul u v) z → ∃ A B, Fz u A ∧ Fz v B ∧ ∀ P, A * B = P * 2 ^ upl → z = rn P ∧ z.natAbs < 2 ^ Fp.dtop := by
  rintro ⟨r, h, hr, hz⟩
  cases u with
  | none => cases h
  | some x =>
    cases v with
    | none => cases h
    | some y =>
      have hb : floatBits .mul .f64 x y = some r := h
      obtain ⟨hx, hy⟩ := fin_back (.inr (.inr rfl)) hb hr
      refine ⟨_, _, ⟨x, rfl, hx, rfl⟩, ⟨y, rfl, hy, rfl⟩, fun P hP => ?_⟩
      have hm := Fp.mul_fin Ieee.double Fp.dL0 x y (by rw [Fp.rg64, Fp.dI]; exact hx) (by rw [Fp.rg64, Fp.dI]; exact hy)
      have he : some r = Ieee.double.mul x y := hb.symm
      rw [hm] at he
      obtain rfl := Option.some.inj he
      have ha : Fp.mag Ieee.double (Fp.rg Ieee.double x) * Fp.mag Ieee.double (Fp.rg Ieee.double y) = P.natAbs * 2 ^ upl := by
        rw [← un_abs, ← un_abs, ← Int.natAbs_mul, hP, natAbs_mul_pow]
      have hd : Fp.deep Ieee.double = 0 + upl := by rw [Fp.dD]; rfl
      rw [ha, hd, Fp.grid_shift] at hr hz
      have hsg : P ≠ 0 → (Fp.sg Ieee.double x ^^ Fp.sg Ieee.double y) = decide (P < 0) := by
        intro h0
        have hpow : (2 : Int) ^ upl ≠ 0 := Int.pow_ne_zero (by decide)
        have hpp : (0 : Int) < 2 ^ upl := Int.pow_pos (by decide)
        have hA : Fp.un Ieee.double x ≠ 0 := fun h => by rw [h, Int.zero_mul] at hP; exact (Int.mul_ne_zero h0 hpow) hP.symm
        have hB : Fp.un Ieee.double y ≠ 0 := fun h => by rw [h, Int.mul_zero] at hP; exact (Int.mul_ne_zero h0 hpow) hP.symm
        rw [un_sign hA, un_sign hB]
        have hneg : P < 0 ↔ P * 2 ^ upl < 0 := ⟨fun h => Int.mul_neg_of_neg_of_pos h hpp, fun h => by
          rcases Int.lt_or_le P 0 with g | g
          · exact g
          · exact absurd (Int.mul_nonneg g (Int.le_of_lt hpp)) (Int.not_le.2 h)⟩
        have hneg' : P < 0 ↔ Fp.un Ieee.double x * Fp.un Ieee.double y < 0 := by rw [hP]; exact hneg
        rw [decide_eq_decide.2 hneg']
        exact sign_mul hA hB
      obtain ⟨w1, w2⟩ := word_is P _ hsg
      have hl := w1.1 hr
      have hv := w2 hl
      have hv' : Fp.un Ieee.double (Ieee.double.word (Fp.sg Ieee.double x ^^ Fp.sg Ieee.double y) (min (Fp.grid Ieee.double P.natAbs 0) Ieee.double.infRung)) = rn P := hv
      exact ⟨by rw [← hz]; exact hv', by rw [← hz, hv']; exact hl⟩
theorem Fz.rep {v : Option Nat} {z : Int} (h : Fz v z) : RepZ z := by
  obtain ⟨x, _, hx, rfl⟩ := h
  have hR := Fp.rep_mag Ieee.double Fp.dF (r := Fp.rg Ieee.double x) (by rw [Fp.rg64, Fp.dI]; exact hx)
  have e : rn (Fp.mag Ieee.double (Fp.rg Ieee.double x) : Int) = Fp.mag Ieee.double (Fp.rg Ieee.double x) := by
    unfold rn
    rw [if_neg (by omega), Int.natAbs_natCast, hR.2]
  have h1 : RepZ (Fp.mag Ieee.double (Fp.rg Ieee.double x) : Int) := by rw [← e]; exact rn_repz _
  unfold Fp.un
  split
  · exact h1.neg
  · exact h1
end Go.Proofs.YtjmaggfddinbkaaGreatDoor
end

section
namespace Go.Proofs.YtjmaggfddinbkaaGreatDoor
def twoS (u v : Option Nat) : Option Nat := fop .add u v
def twoL (u v : Option Nat) : Option Nat := fop .add (fop .sub u (fop .sub (twoS u v) (fop .sub (twoS u v) u))) (fop .sub v (fop .sub (twoS u v) u))
def quiL (u v : Option Nat) : Option Nat := fop .sub v (fop .sub (twoS u v) u)
def halC (u : Option Nat) : Option Nat := fop .mul (some 4728779608772575232) u
def halH (u : Option Nat) : Option Nat := fop .sub (halC u) (fop .sub (halC u) u)
def halL (u : Option Nat) : Option Nat := fop .sub u (halH u)
def proP (u v : Option Nat) : Option Nat := fop .mul u v
def proE (u v : Option Nat) : Option Nat :=
  fop .sub (fop .mul (halL u) (halL v)) (fop .sub (fop .sub (fop .sub (proP u v) (fop .mul (halH u) (halH v))) (fop .mul (halL u) (halH v))) (fop .mul (halH u) (halL v)))
theorem two_fin {u v : Option Nat} {S E : Int} (hS : Fz (twoS u v) S) (hE : Fz (twoL u v) E) : ∃ A B, Fz u A ∧ Fz v B ∧ S = rn (A + B) ∧ E = A + B - rn (A + B) := by
  obtain ⟨A, B, hA, hB, e1, _⟩ := add_iff.1 hS
  obtain ⟨X, Y, hX, hY, e2, _⟩ := add_iff.1 hE
  obtain ⟨A', D, hA', hD, e3, _⟩ := sub_iff.1 hX
  obtain ⟨B', T, hB', hT, e4, _⟩ := sub_iff.1 hY
  obtain ⟨S', T', hS', hT', e5, _⟩ := sub_iff.1 hD
  obtain ⟨S2, A2, hS2, hA2, e6, _⟩ := sub_iff.1 hT
  obtain rfl := hA'.eq hA
  obtain rfl := hB'.eq hB
  obtain rfl := hA2.eq hA
  obtain rfl := hT'.eq hT
  obtain rfl := hS'.eq hS
  obtain rfl := hS2.eq hS
  refine ⟨A2, B', hA, hB, e1, ?_⟩
  rw [← show sumL A2 B' = A2 + B' - rn (A2 + B') from two_sum hA.rep hB.rep]
  unfold sumL sumT sumS
  rw [e2, e3, e4, e5, e6, e1]
theorem qui_fin {u v : Option Nat} {S E : Int} (hS : Fz (twoS u v) S) (hE : Fz (quiL u v) E) : ∃ A B, Fz u A ∧ Fz v B ∧ S = rn (A + B) ∧ E = quickL A B := by
  obtain ⟨A, B, hA, hB, e1, _⟩ := add_iff.1 hS
  obtain ⟨B', D, hB', hD, e2, _⟩ := sub_iff.1 hE
  obtain ⟨S', A', hS', hA', e3, _⟩ := sub_iff.1 hD
  obtain rfl := hA'.eq hA
  obtain rfl := hB'.eq hB
  obtain rfl := hS'.eq hS
  refine ⟨A', B', hA, hB, e1, ?_⟩
  unfold quickL
  rw [e2, e3, e1]
theorem splitter_fz : Fz (some 4728779608772575232) (134217729 * 2 ^ upl) := by
  refine ⟨_, rfl, by decide, ?_⟩
  have e : Fp.mag Ieee.double 4728779608772575232 = 134217729 * 2 ^ upl := by decide +kernel
  have h1 : Fp.sg Ieee.double 4728779608772575232 = false := by decide
  have h2 : Fp.rg Ieee.double 4728779608772575232 = 4728779608772575232 := by decide
  unfold Fp.un
  rw [h1, h2, if_neg Bool.false_ne_true, e, Int.natCast_mul, cast_pow]
  rfl
theorem halC_fin {u : Option Nat} {z : Int} (h : Fz (halC u) z) : ∃ A, Fz u A ∧ z = splC A := by
  obtain ⟨C, A, hC, hA, hP⟩ := mul_iff h
  obtain rfl := hC.eq splitter_fz
  refine ⟨A, hA, (hP (134217729 * A) ?_).1⟩
  rw [Int.mul_right_comm]
theorem halH_fin {u : Option Nat} {z : Int} (h : Fz (halH u) z) : ∃ A, Fz u A ∧ z = splH A := by
  obtain ⟨C, D, hC, hD, e1, _⟩ := sub_iff.1 h
  obtain ⟨C', A, hC', hA, e2, _⟩ := sub_iff.1 hD
  obtain rfl := hC'.eq hC
  obtain ⟨A', hA', e3⟩ := halC_fin hC
  obtain rfl := hA'.eq hA
  refine ⟨A', hA, ?_⟩
  unfold splH
  rw [e1, e2, e3]
theorem halL_fin {u : Option Nat} {z : Int} (h : Fz (halL u) z) : ∃ A, Fz u A ∧ z = splL A := by
  obtain ⟨A, H, hA, hH, e1, _⟩ := sub_iff.1 h
  obtain ⟨A', hA', e2⟩ := halH_fin hH
  obtain rfl := hA'.eq hA
  refine ⟨A', hA, ?_⟩
  unfold splL
  rw [e1, e2]
theorem mu_prod {i j : Nat} {x y : Int} (hx : Mu i x) (hy : Mu j y) (h : upl ≤ i + j) : ∃ N : Int, x * y = N * 2 ^ upl := by
  obtain ⟨a, rfl⟩ := hx
  obtain ⟨b, rfl⟩ := hy
  refine ⟨a * b * 2 ^ (i + j - upl), ?_⟩
  have e : (2 : Int) ^ i * 2 ^ j = 2 ^ (i + j - upl) * 2 ^ upl := by rw [← Int.pow_add, ← Int.pow_add, Nat.sub_add_cancel h]
  have e1 : a * 2 ^ i * (b * 2 ^ j) = a * b * (2 ^ i * 2 ^ j) := by ac_rfl
  rw [e1, e, Int.mul_assoc (a * b)]
theorem pro_fin {u v : Option Nat} {p e : Int} (hp : Fz (proP u v) p) (he : Fz (proE u v) e) : ∃ A B, Fz u A ∧ Fz v B ∧
    ∀ i j, Mu i A → Mu j B → upl ≤ i + j → ∃ P, A * B = P * 2 ^ upl ∧ p = rn P ∧ e = P - rn P := by
  obtain ⟨A, B, hA, hB, hP⟩ := mul_iff hp
  refine ⟨A, B, hA, hB, fun i j hi hj hij => ?_⟩
  obtain ⟨P, eP⟩ := mu_prod hi hj hij
  have ep := (hP P eP).1
  obtain ⟨M1, D3, hM1, hD3, q1, _⟩ := sub_iff.1 he
  obtain ⟨D2, M4, hD2, hM4, q2, _⟩ := sub_iff.1 hD3
  obtain ⟨D1, M3, hD1, hM3, q3, _⟩ := sub_iff.1 hD2
  obtain ⟨p', M2, hp', hM2, q4, _⟩ := sub_iff.1 hD1
  obtain rfl := hp'.eq hp
  obtain ⟨L, K, hL, hK, r1⟩ := mul_iff hM1
  obtain ⟨H, I, hH, hI, r2⟩ := mul_iff hM2
  obtain ⟨L', I', hL', hI', r3⟩ := mul_iff hM3
  obtain ⟨H', K', hH', hK', r4⟩ := mul_iff hM4
  obtain rfl := hL'.eq hL
  obtain rfl := hI'.eq hI
  obtain rfl := hH'.eq hH
  obtain rfl := hK'.eq hK
  obtain ⟨A1, hA1, eH⟩ := halH_fin hH
  obtain ⟨A2, hA2, eL⟩ := halL_fin hL
  obtain ⟨B1, hB1, eI⟩ := halH_fin hI
  obtain ⟨B2, hB2, eK⟩ := halL_fin hK
  obtain rfl := hA1.eq hA
  obtain rfl := hA2.eq hA
  obtain rfl := hB1.eq hB
  obtain rfl := hB2.eq hB
  obtain ⟨mH, mL⟩ := spl_mu hi
  obtain ⟨mI, mK⟩ := spl_mu hj
  subst eH eL eI eK
  obtain ⟨N1, n1⟩ := mu_prod mL mK hij
  obtain ⟨N2, n2⟩ := mu_prod mH mI hij
  obtain ⟨N3, n3⟩ := mu_prod mL mI hij
  obtain ⟨N4, n4⟩ := mu_prod mH mK hij
  have s1 := (r1 N1 n1).1
  have s2 := (r2 N2 n2).1
  have s3 := (r3 N3 n3).1
  have s4 := (r4 N4 n4).1
  refine ⟨P, eP, ep, ?_⟩
  have key : e * 2 ^ upl = prodL A2 B2 := by
    unfold prodL
    rw [n1, n2, n3, n4, eP]
    rw [rn_shift N1, rn_shift N2, rn_shift N3, rn_shift N4, rn_shift P, ← s1, ← s2, ← s3, ← s4, ← ep]
    rw [← Int.sub_mul, rn_shift, ← q4, ← Int.sub_mul, rn_shift, ← q3, ← Int.sub_mul, rn_shift, ← q2, ← Int.sub_mul, rn_shift, ← q1]
  rw [prod_is hA.rep hB.rep, eP, rn_shift, ← Int.sub_mul] at key
  exact eq_of_shift key
end Go.Proofs.YtjmaggfddinbkaaGreatDoor
end

section
namespace Go.Proofs.YtjmaggfddinbkaaGreatDoor
open Go.RowKit
def Pr (S L : Option Nat) (W : World) (e : Ending) (w' : World) : Prop := ∃ s l, e = .returned (.tuple #[.float .f64 s, .float .f64 l]) ∧ s < 18446744073709551616 ∧ l < 18446744073709551616 ∧ fv s = S ∧ fv l = L ∧ Within W w'
theorem fv_arF (op : BinOp) (x y : Nat) (w : World) : fv (arF op x y w) = fop op (fv x) (fv y) := (fv_ar op x y w).1
theorem arF_lt (op : BinOp) (x y : Nat) (w : World) : arF op x y w < 18446744073709551616 := (fv_ar op x y w).2
set_option maxRecDepth 100000 in
set_option maxHeartbeats 600000 in
theorem etwo_any (a b : Nat) (ha : a < 18446744073709551616) (hb : b < 18446744073709551616) (w : World) : Calls Tryz.prog 85 #[.float .f64 a, .float .f64 b] w (Pr (twoS (fv a) (fv b)) (twoL (fv a) (fv b)) w) := by
  have hadd := fun t x y w => run_ar .add (.inr (.inl rfl)) t x y Tryz.prog w
  have hsub := fun t x y w => run_ar .sub (.inl rfl) t x y Tryz.prog w
  have hmul := fun t x y w => run_ar .mul (.inr (.inr (.inl rfl))) t x y Tryz.prog w
  go_enter Tryz.func85, Tryz.ntmps85
  go_wp2
  go_ret2
  exact ⟨_, _, rfl, (by first | assumption | exact arF_lt _ _ _ _), (by first | assumption | exact arF_lt _ _ _ _), (by simp only [fv_arF]; rfl), (by simp only [fv_arF]; rfl), (by repeat (first | with_reducible exact Within.refl _ | with_reducible assumption | with_reducible refine arW_within ?_ _ _ _ | with_reducible refine Within.alloc ?_ _ | with_reducible refine Within.drew ?_ | with_reducible refine Within.trans ?_ (by assumption)))⟩
set_option maxRecDepth 100000 in
set_option maxHeartbeats 600000 in
theorem equick_any (a b : Nat) (ha : a < 18446744073709551616) (hb : b < 18446744073709551616) (w : World) : Calls Tryz.prog 87 #[.float .f64 a, .float .f64 b] w (Pr (twoS (fv a) (fv b)) (quiL (fv a) (fv b)) w) := by
  have hadd := fun t x y w => run_ar .add (.inr (.inl rfl)) t x y Tryz.prog w
  have hsub := fun t x y w => run_ar .sub (.inl rfl) t x y Tryz.prog w
  have hmul := fun t x y w => run_ar .mul (.inr (.inr (.inl rfl))) t x y Tryz.prog w
  go_enter Tryz.func87, Tryz.ntmps87
  go_wp2
  go_ret2
  exact ⟨_, _, rfl, (by first | assumption | exact arF_lt _ _ _ _), (by first | assumption | exact arF_lt _ _ _ _), (by simp only [fv_arF]; rfl), (by simp only [fv_arF]; rfl), (by repeat (first | with_reducible exact Within.refl _ | with_reducible assumption | with_reducible refine arW_within ?_ _ _ _ | with_reducible refine Within.alloc ?_ _ | with_reducible refine Within.drew ?_ | with_reducible refine Within.trans ?_ (by assumption)))⟩
set_option maxRecDepth 100000 in
set_option maxHeartbeats 600000 in
theorem esplit_any (a : Nat) (ha : a < 18446744073709551616) (w : World) : Calls Tryz.prog 95 #[.float .f64 a] w (Pr (halH (fv a)) (halL (fv a)) w) := by
  have hadd := fun t x y w => run_ar .add (.inr (.inl rfl)) t x y Tryz.prog w
  have hsub := fun t x y w => run_ar .sub (.inl rfl) t x y Tryz.prog w
  have hmul := fun t x y w => run_ar .mul (.inr (.inr (.inl rfl))) t x y Tryz.prog w
  go_enter Tryz.func95, Tryz.ntmps95
  go_wp2
  go_ret2
  exact ⟨_, _, rfl, (by first | assumption | exact arF_lt _ _ _ _), (by first | assumption | exact arF_lt _ _ _ _), (by simp only [fv_arF]; rfl), (by simp only [fv_arF]; rfl), (by repeat (first | with_reducible exact Within.refl _ | with_reducible assumption | with_reducible refine arW_within ?_ _ _ _ | with_reducible refine Within.alloc ?_ _ | with_reducible refine Within.drew ?_ | with_reducible refine Within.trans ?_ (by assumption)))⟩
set_option maxRecDepth 100000 in
set_option maxHeartbeats 600000 in
theorem both_any (a b : Nat) (ha : a < 18446744073709551616) (hb : b < 18446744073709551616) (w : World) : Calls Tryz.prog 84 #[.float .f64 a, .float .f64 b] w (fun e w' => e = .returned (.tuple #[.float .f64 (canonD a), .float .f64 (canonD b)]) ∧ Within w w') := by
  have CA := Lib.hid (fun w => Canon_D a ha w)
  have CB := Lib.hid (fun w => Canon_D b hb w)
  go_enter Tryz.func84, Tryz.ntmps84
  go_wp2_with fail
  refine (CA.out _).mono ?_; rintro e1 w1 ⟨rfl, hb1⟩
  go_wp2_with fail
  refine (CB.out _).mono ?_; rintro e2 w2 ⟨rfl, hb2⟩
  go_wp2
  go_ret2
  exact ⟨rfl, (by repeat (first | with_reducible exact Within.refl _ | with_reducible assumption | with_reducible refine arW_within ?_ _ _ _ | with_reducible refine Within.alloc ?_ _ | with_reducible refine Within.drew ?_ | with_reducible refine Within.trans ?_ (by assumption)))⟩
set_option maxRecDepth 100000 in
set_option maxHeartbeats 600000 in
theorem eprod_any (a b : Nat) (ha : a < 18446744073709551616) (hb : b < 18446744073709551616) (w : World) : Calls Tryz.prog 90 #[.float .f64 a, .float .f64 b] w (Pr (proP (fv a) (fv b)) (proE (fv a) (fv b)) w) := by
  have hadd := fun t x y w => run_ar .add (.inr (.inl rfl)) t x y Tryz.prog w
  have hsub := fun t x y w => run_ar .sub (.inl rfl) t x y Tryz.prog w
  have hmul := fun t x y w => run_ar .mul (.inr (.inr (.inl rfl))) t x y Tryz.prog w
  have SA := Lib.hid (fun w => esplit_any a ha w)
  have SB := Lib.hid (fun w => esplit_any b hb w)
  go_enter Tryz.func90, Tryz.ntmps90
  go_wp2_with fail
  refine (SA.out _).mono ?_; rintro e1 w1 ⟨h, l, rfl, hh, hl, vh, vl, hb1⟩
  go_wp2_with fail
  refine (SB.out _).mono ?_; rintro e2 w2 ⟨i, k, rfl, hi, hk, vi, vk, hb2⟩
  have VH := Lib.hid vh; have VL := Lib.hid vl; have VI := Lib.hid vi; have VK := Lib.hid vk; clear vh vl vi vk
  go_wp2
  go_ret2
  exact ⟨_, _, rfl, (by first | assumption | exact arF_lt _ _ _ _), (by first | assumption | exact arF_lt _ _ _ _), (by simp only [fv_arF]; rfl), (by simp only [fv_arF, VH.out, VL.out, VI.out, VK.out]; rfl), (by repeat (first | with_reducible exact Within.refl _ | with_reducible assumption | with_reducible refine arW_within ?_ _ _ _ | with_reducible refine Within.alloc ?_ _ | with_reducible refine Within.drew ?_ | with_reducible refine Within.trans ?_ (by assumption)))⟩
set_option maxRecDepth 100000 in
set_option maxHeartbeats 600000 in
theorem Etwo_any (a b : Nat) (ha : a < 18446744073709551616) (hb : b < 18446744073709551616) (w : World) : Calls Tryz.prog 27 #[.float .f64 a, .float .f64 b] w (fun e w' => ∃ s l, e = .returned (.tuple #[.float .f64 (canonD s), .float .f64 (canonD l)]) ∧ s < 18446744073709551616 ∧ l < 18446744073709551616 ∧ fv s = twoS (fv a) (fv b) ∧ fv l = twoL (fv a) (fv b) ∧ Within w w') := by
  have TW := Lib.hid (fun w => etwo_any a b ha hb w)
  go_enter Tryz.func27, Tryz.ntmps27
  go_wp2_with fail
  refine (TW.out _).mono ?_; rintro e1 w1 ⟨s, l, rfl, hs, hl, vs, vl, hb1⟩
  have VS := Lib.hid vs; have VL := Lib.hid vl; clear vs vl
  go_wp2_with fail
  refine (both_any s l hs hl _).mono ?_; rintro e2 w2 ⟨rfl, hb2⟩
  go_wp2
  go_ret2
  exact ⟨s, l, rfl, hs, hl, VS.out, VL.out, (by repeat (first | with_reducible exact Within.refl _ | with_reducible assumption | with_reducible refine arW_within ?_ _ _ _ | with_reducible refine Within.alloc ?_ _ | with_reducible refine Within.drew ?_ | with_reducible refine Within.trans ?_ (by assumption)))⟩
set_option maxRecDepth 100000 in
set_option maxHeartbeats 600000 in
theorem Esplit_any (a : Nat) (ha : a < 18446744073709551616) (w : World) : Calls Tryz.prog 43 #[.float .f64 a] w (fun e w' => ∃ s l, e = .returned (.tuple #[.float .f64 (canonD s), .float .f64 (canonD l)]) ∧ s < 18446744073709551616 ∧ l < 18446744073709551616 ∧ fv s = halH (fv a) ∧ fv l = halL (fv a) ∧ Within w w') := by
  have TW := Lib.hid (fun w => esplit_any a ha w)
  go_enter Tryz.func43, Tryz.ntmps43
  go_wp2_with fail
  refine (TW.out _).mono ?_; rintro e1 w1 ⟨s, l, rfl, hs, hl, vs, vl, hb1⟩
  have VS := Lib.hid vs; have VL := Lib.hid vl; clear vs vl
  go_wp2_with fail
  refine (both_any s l hs hl _).mono ?_; rintro e2 w2 ⟨rfl, hb2⟩
  go_wp2
  go_ret2
  exact ⟨s, l, rfl, hs, hl, VS.out, VL.out, (by repeat (first | with_reducible exact Within.refl _ | with_reducible assumption | with_reducible refine arW_within ?_ _ _ _ | with_reducible refine Within.alloc ?_ _ | with_reducible refine Within.drew ?_ | with_reducible refine Within.trans ?_ (by assumption)))⟩
set_option maxRecDepth 100000 in
set_option maxHeartbeats 600000 in
theorem Eprod_any (a b : Nat) (ha : a < 18446744073709551616) (hb : b < 18446744073709551616) (w : World) : Calls Tryz.prog 57 #[.float .f64 a, .float .f64 b] w (fun e w' => ∃ s l, e = .returned (.tuple #[.float .f64 (canonD s), .float .f64 (canonD l)]) ∧ s < 18446744073709551616 ∧ l < 18446744073709551616 ∧ fv s = proP (fv a) (fv b) ∧ fv l = proE (fv a) (fv b) ∧ Within w w') := by
  have TW := Lib.hid (fun w => eprod_any a b ha hb w)
  go_enter Tryz.func57, Tryz.ntmps57
  go_wp2_with fail
  refine (TW.out _).mono ?_; rintro e1 w1 ⟨s, l, rfl, hs, hl, vs, vl, hb1⟩
  have VS := Lib.hid vs; have VL := Lib.hid vl; clear vs vl
  go_wp2_with fail
  refine (both_any s l hs hl _).mono ?_; rintro e2 w2 ⟨rfl, hb2⟩
  go_wp2
  go_ret2
  exact ⟨s, l, rfl, hs, hl, VS.out, VL.out, (by repeat (first | with_reducible exact Within.refl _ | with_reducible assumption | with_reducible refine arW_within ?_ _ _ _ | with_reducible refine Within.alloc ?_ _ | with_reducible refine Within.drew ?_ | with_reducible refine Within.trans ?_ (by assumption)))⟩
end Go.Proofs.YtjmaggfddinbkaaGreatDoor
end

section
namespace Go.Proofs.YtjmaggfddinbkaaGreatDoor
def finV : Option Nat → Bool
  | none => false
  | some x => decide (x % 9223372036854775808 < 9218868437227405312)
def nzV : Option Nat → Bool
  | none => true
  | some x => decide (x % 9223372036854775808 ≠ 0)
def finW (x : Nat) : Bool := decide (x % 9223372036854775808 < 9218868437227405312)
theorem finV_fv (x : Nat) : finV (fv x) = finW x := by
  unfold fv finW
  split
  · exact (decide_eq_false (by omega)).symm
  · rfl
theorem nzV_fv (x : Nat) : nzV (fv x) = decide (x % 9223372036854775808 ≠ 0) := by
  unfold fv
  split
  · exact (decide_eq_true (by omega)).symm
  · rfl
def layV (l : List (Option Nat)) (h : Option Nat) : List (Option Nat) := if nzV h then l ++ [h] else l
theorem layV_len (l : List (Option Nat)) (h : Option Nat) : (layV l h).length ≤ l.length + 1 := by
  unfold layV; split
  · simp
  · omega
structure Lay where
  q : Option Nat
  l : List (Option Nat)
  ov : Bool
def Lay.see (s : Lay) (a b : Option Nat) : Bool := s.ov || !finV a || !finV b
def growStep (s : Lay) (e : Option Nat) : Lay := ⟨twoS s.q e, layV s.l (twoL s.q e), s.see (twoS s.q e) (twoL s.q e)⟩
def growSt (es : List (Option Nat)) (b : Option Nat) : Lay := es.foldl growStep ⟨b, [], false⟩
def Lay.all (s : Lay) : List (Option Nat) := layV s.l s.q
def Lay.err (s : Lay) : Int := if s.ov then 5 else if 64 < s.all.length then 2 else 0
def Lay.out (s : Lay) : List (Option Nat) := if s.err = 0 then s.all else []
theorem fold_take {α β : Type} (f : α → β → α) (s : α) (l : List β) (d : β) {k : Nat} (h : k < l.length) : (l.take (k + 1)).foldl f s = f ((l.take k).foldl f s) (l.getD k d) := by
  have e : l.take (k + 1) = l.take k ++ [l.getD k d] := by
    rw [List.take_add_one, List.getD, List.getElem?_eq_getElem h]; rfl
  rw [e, List.foldl_append]; rfl
theorem growSt_len (es : List (Option Nat)) (b : Option Nat) : (growSt es b).l.length ≤ es.length := by
  have key : ∀ (es : List (Option Nat)) (s : Lay), (es.foldl growStep s).l.length ≤ s.l.length + es.length := by
    intro es
    induction es with
    | nil => intro s; exact Nat.le_refl _
    | cons e es ih =>
      intro s
      have h1 := ih (growStep s e)
      have h2 : (growStep s e).l.length ≤ s.l.length + 1 := layV_len _ _
      simp only [List.foldl_cons, List.length_cons]
      omega
  have := key es ⟨b, [], false⟩
  simpa [growSt] using this
def scaleStep (b : Option Nat) (s : Lay) (e : Option Nat) : Lay :=
  let T := proP e b
  let t := proE e b
  let o1 := s.see T t
  let U := twoS s.q t
  let h := twoL s.q t
  let o2 := o1 || !finV U || !finV h
  let l1 := layV s.l h
  let Q := twoS T U
  let g := quiL T U
  ⟨Q, layV l1 g, o2 || !finV Q || !finV g⟩
def scaleSt (e : Option Nat) (es : List (Option Nat)) (b : Option Nat) : Lay :=
  es.foldl (scaleStep b) ⟨proP e b, layV [] (proE e b), !finV (proP e b) || !finV (proE e b)⟩
def downStep (s : Lay) (e : Option Nat) : Lay :=
  let S := twoS s.q e
  let h := quiL s.q e
  if nzV h then ⟨h, s.l ++ [S], s.see S h⟩ else ⟨S, s.l, s.see S h⟩
def downSt (q : Option Nat) (es : List (Option Nat)) : Lay := es.foldl downStep ⟨q, [], false⟩
def upStep (s : Lay) (g : Option Nat) : Lay := ⟨twoS g s.q, layV s.l (quiL g s.q), s.see (twoS g s.q) (quiL g s.q)⟩
def upSt (d : Lay) : Lay := d.l.reverse.foldl upStep ⟨d.q, [], d.ov⟩
end Go.Proofs.YtjmaggfddinbkaaGreatDoor
end

section
namespace Go.Proofs.YtjmaggfddinbkaaGreatDoor
open Go.RowKit
theorem finD_is {x : Nat} (h : x < 18446744073709551616) : finD x = finW x := by
  unfold finD finW classD classOf expD fracD canonD nanD
  refine decide_eq_decide.2 ?_
  by_cases hn : 9218868437227405312 < x % 9223372036854775808
  · rw [decide_eq_true hn, if_pos rfl]
    simp
    omega
  · rw [decide_eq_false hn, if_neg Bool.false_ne_true]
    split
    · omega
    split
    · omega
    split
    · omega
    split <;> omega
theorem fin_sub (x : Nat) (w : World) : (FloatKind.f64.format.order (arF .sub x x w) 0 == some .eq) = finW x := by
  unfold arF finW
  obtain ⟨h1, h2⟩ := sub_self_zero x
  by_cases hf : x % 9223372036854775808 < 9218868437227405312
  · rw [h1 hf, decide_eq_true hf]
    show (FloatKind.f64.format.order 0 0 == some .eq) = true
    decide
  · rw [h2 hf, decide_eq_false hf]
    exact c_nan (.inl (cut_nan x x _).1) _
def LayP (w : World) (p : Nat) (L : List (Option Nat)) (ov : Bool) : Prop :=
  ∃ sv ls, w.cell? ⟨p, 0, none⟩ = some sv ∧ w.cell? ⟨p, 1, none⟩ = some (.bool ov) ∧ (∀ i, w.frozen? ⟨p, i, none⟩ = false) ∧ OwnF w (p + 1) sv ls ∧ Words64 ls ∧ ls.map fv = L
theorem LayP.lt {w : World} {p : Nat} {L : List (Option Nat)} {ov : Bool} (h : LayP w p L ov) : p < w.heap.size := by
  obtain ⟨sv, ls, h0, _⟩ := h
  exact World.block_lt_of_cell? _ _ h0
theorem LayP.of {w w' : World} {p : Nat} {L : List (Option Nat)} {ov : Bool} (h : LayP w p L ov) (k : Within w w') : LayP w' p L ov := by
  have hl := h.lt
  obtain ⟨sv, ls, h0, h1, hf, ho, hw, hm⟩ := h
  exact ⟨sv, ls, (k.cells _ _ hl).trans h0, (k.cells _ _ hl).trans h1, fun i => (k.frozens _ i hl).trans (hf i), ho.of k, hw, hm⟩
theorem LayP.see {w : World} {p : Nat} {L : List (Option Nat)} {ov : Bool} (h : LayP w p L ov) (b : Bool) : LayP (w.setCell ⟨p, 1, none⟩ (.bool b)) p L b := by
  obtain ⟨sv, ls, h0, h1, hf, ho, hw, hm⟩ := h
  have hl := World.block_lt_of_cell? _ _ h0
  exact ⟨sv, ls, by go_simp, by go_simp, fun i => by go_simp, ho.set (Nat.lt_succ_self p) _, hw, hm⟩
def ResF (W : World) (L : List (Option Nat)) (er : Int) (e : Ending) (w' : World) : Prop := ∃ sv ls, e = .returned (.tuple #[sv, .int .i64 er]) ∧ OwnF w' W.heap.size sv ls ∧ Words64 ls ∧ ls.map fv = L ∧ Within W w'
theorem below_within {W w w' : World} {p : Nat} (h : Within W w) (k : Below p w w') (hp : W.heap.size ≤ p) : Within W w' := Below.trans h (Below.mono k hp)
set_option maxRecDepth 100000 in
set_option maxHeartbeats 600000 in
theorem efinite_any (x : Nat) (w : World) : Calls Tryz.prog 66 #[.float .f64 x] w fun e w' => e = .returned (.bool (finW x)) ∧ Within w w' := by
  have hsub := fun t x y w => run_ar .sub (.inl rfl) t x y Tryz.prog w
  have hf := fun w => fin_sub x w
  go_enter Tryz.func66, Tryz.ntmps66
  go_wp2
  go_ret
  exact ⟨rfl, (by repeat (first | with_reducible exact Within.refl _ | with_reducible assumption | with_reducible refine arW_within ?_ _ _ _ | with_reducible refine Within.alloc ?_ _ | with_reducible refine Within.drew ?_ | with_reducible refine Within.trans ?_ (by assumption)))⟩
set_option maxRecDepth 100000 in
set_option maxHeartbeats 600000 in
theorem see_ov (p a b : Nat) (L : List (Option Nat)) (w : World) (h : LayP w p L true) : Calls Tryz.prog 89 #[.pointer (some ⟨p, 0, none⟩), .float .f64 a, .float .f64 b] w fun e w' => e = .returned (.tuple #[.float .f64 a, .float .f64 b]) ∧ LayP w' p L (true || !finW a || !finW b) ∧ Below p w w' := by
  have hL0 := h.lt
  have hLL := Lib.hid h
  obtain ⟨sv, ls, s0, t0, u0, _⟩ := h
  have FI := Lib.hid (fun x w => efinite_any x w)
  have e : (true || !finW a || !finW b) = true := rfl
  rw [e]
  clear e
  go_enter Tryz.func89, Tryz.ntmps89
  go_wp2
  go_ret2
  exact ⟨rfl, hLL.out.see true, Below.setCell (p := ⟨p, 1, none⟩) (Below.refl _ _) (Nat.le_refl p) _⟩
set_option maxRecDepth 100000 in
set_option maxHeartbeats 600000 in
theorem see_a (p a b : Nat) (L : List (Option Nat)) (ha : finW a = false) (w : World) (h : LayP w p L false) : Calls Tryz.prog 89 #[.pointer (some ⟨p, 0, none⟩), .float .f64 a, .float .f64 b] w fun e w' => e = .returned (.tuple #[.float .f64 a, .float .f64 b]) ∧ LayP w' p L (false || !finW a || !finW b) ∧ Below p w w' := by
  have hL0 := h.lt
  have hLL := Lib.hid h
  obtain ⟨sv, ls, s0, t0, u0, _⟩ := h
  have FI := Lib.hid (fun x w => efinite_any x w)
  have e : (false || !finW a || !finW b) = true := by rw [ha]; rfl
  rw [e]
  clear e
  have HA := Lib.hid ha; clear ha
  go_enter Tryz.func89, Tryz.ntmps89
  go_wp2_with fail
  refine (FI.out a _).mono ?_; rintro e1 w1 ⟨rfl, hb1⟩
  rw [HA.out]
  have hL1 := hLL.out.of hb1
  obtain ⟨sv1, ls1, s1, t1, u1, _⟩ := hL1
  have z1 : p < w1.heap.size := Nat.lt_of_lt_of_le hL0 hb1.sizes
  have hL1 := hLL.out.of hb1
  go_wp2
  go_ret2
  exact ⟨rfl, (hL1).see true, Below.setCell (p := ⟨p, 1, none⟩) (Below.mono hb1 (Nat.le_of_lt hL0)) (Nat.le_refl p) _⟩
set_option maxRecDepth 100000 in
set_option maxHeartbeats 600000 in
theorem see_b (p a b : Nat) (L : List (Option Nat)) (ha : finW a = true) (w : World) (h : LayP w p L false) : Calls Tryz.prog 89 #[.pointer (some ⟨p, 0, none⟩), .float .f64 a, .float .f64 b] w fun e w' => e = .returned (.tuple #[.float .f64 a, .float .f64 b]) ∧ LayP w' p L (false || !finW a || !finW b) ∧ Below p w w' := by
  have hL0 := h.lt
  have hLL := Lib.hid h
  obtain ⟨sv, ls, s0, t0, u0, _⟩ := h
  have FI := Lib.hid (fun x w => efinite_any x w)
  have e : (false || !finW a || !finW b) = !finW b := by rw [ha]; rfl
  rw [e]
  clear e
  have HA := Lib.hid ha; clear ha
  go_enter Tryz.func89, Tryz.ntmps89
  go_wp2_with fail
  refine (FI.out a _).mono ?_; rintro e1 w1 ⟨rfl, hb1⟩
  rw [HA.out]
  have hL1 := hLL.out.of hb1
  obtain ⟨sv1, ls1, s1, t1, u1, _⟩ := hL1
  have z1 : p < w1.heap.size := Nat.lt_of_lt_of_le hL0 hb1.sizes
  have hL1 := hLL.out.of hb1
  go_wp2_with fail
  refine (FI.out b _).mono ?_; rintro e2 w2 ⟨rfl, hb2'⟩
  have hb2 := hb1.trans hb2'
  have hL2 := hLL.out.of hb2
  obtain ⟨sv2, ls2, s2, t2, u2, _⟩ := hL2
  have z2 : p < w2.heap.size := Nat.lt_of_lt_of_le hL0 hb2.sizes
  have hL2 := hLL.out.of hb2
  go_wp2
  go_ret2
  exact ⟨rfl, (hL2).see (!finW b), Below.setCell (p := ⟨p, 1, none⟩) (Below.mono hb2 (Nat.le_of_lt hL0)) (Nat.le_refl p) _⟩
theorem see_any (p a b : Nat) (L : List (Option Nat)) (ov : Bool) (w : World) (h : LayP w p L ov) : Calls Tryz.prog 89 #[.pointer (some ⟨p, 0, none⟩), .float .f64 a, .float .f64 b] w fun e w' => e = .returned (.tuple #[.float .f64 a, .float .f64 b]) ∧ LayP w' p L (ov || !finW a || !finW b) ∧ Below p w w' := by
  cases ov
  · cases ha : finW a
    · have := see_a p a b L ha w h
      rwa [ha] at this
    · have := see_b p a b L ha w h
      rwa [ha] at this
  · exact see_ov p a b L w h
theorem SlAt.two (w : World) (u v : Value) (E : TypeId) : SlAt (w.alloc (.cells #[u, v] E)) (some ⟨w.heap.size, 0, none⟩) [u, v] := fun _ => by
  refine ⟨_, rfl, by simp, fun j x hj => ?_⟩
  match j, hj with
  | 0, hj =>
    have e : u = x := by simpa using hj
    subst e
    rw [add_nought, World.cell?_alloc_at _ _ _ _ rfl]; rfl
  | 1, hj =>
    have e : v = x := by simpa using hj
    subst e
    rw [show (Addr.add ⟨w.heap.size, 0, none⟩ 1) = ⟨w.heap.size, 1, none⟩ from rfl, World.cell?_alloc_at _ _ _ _ rfl]; rfl
  | j + 2, hj => simp at hj
set_option maxRecDepth 100000 in
set_option maxHeartbeats 600000 in
theorem elay_no (p x : Nat) (L : List (Option Nat)) (ov : Bool) (hx : x % 9223372036854775808 = 0) (w : World) (h : LayP w p L ov) : Calls Tryz.prog 91 #[.pointer (some ⟨p, 0, none⟩), .float .f64 x] w fun e w' => e = .returned (.tuple #[]) ∧ LayP w' p (layV L (fv x)) ov ∧ Below p w w' := by
  have hz : (FloatKind.f64.format.order x 0 == some .eq) = true := by rw [c_zero, decide_eq_true hx]
  have hne : (FloatKind.f64.format.order x 0 != some .eq) = false := by simp [bne, hz]
  have hl : layV L (fv x) = L := by unfold layV; rw [nzV_fv, decide_eq_false (fun g => g hx)]; rfl
  rw [hl]
  clear hx hl
  have hLL := Lib.hid h; clear h
  go_enter Tryz.func91, Tryz.ntmps91
  go_wp2
  go_end0
  exact ⟨rfl, hLL.out, Below.refl _ _⟩
set_option maxRecDepth 100000 in
set_option maxHeartbeats 600000 in
theorem elay_yes (p x : Nat) (L : List (Option Nat)) (ov : Bool) (hx : ¬ x % 9223372036854775808 = 0) (hx2 : x < 18446744073709551616) (hn : L.length ≤ 1000000) (w : World) (h : LayP w p L ov) : Calls Tryz.prog 91 #[.pointer (some ⟨p, 0, none⟩), .float .f64 x] w fun e w' => e = .returned (.tuple #[]) ∧ LayP w' p (layV L (fv x)) ov ∧ Below p w w' := by
  have hz : (FloatKind.f64.format.order x 0 == some .eq) = false := by rw [c_zero, decide_eq_false hx]
  have hne : (FloatKind.f64.format.order x 0 != some .eq) = true := by simp [bne, hz]
  have hl : layV L (fv x) = L ++ [fv x] := by unfold layV; rw [nzV_fv, decide_eq_true hx]; rfl
  rw [hl]
  clear hx hl
  have hL0 := h.lt
  obtain ⟨sv, ls, s0, t0, u0, hown, hw, hm⟩ := h
  obtain ⟨A, c, rfl, _, _, _⟩ := hown.form
  have hlen : ls.length = L.length := by rw [← hm, List.length_map]
  obtain ⟨v', w', hrun, hown', hbl'⟩ := run_app_float w (p + 1) _ _ x hown (by omega) hL0
  obtain ⟨A2, c2, rfl, _, _, _⟩ := hown'.form
  have RUN := Lib.hid hrun; have HOW := Lib.hid hown'
  obtain ⟨n2, hn2⟩ : ∃ n2, n2 = (ls ++ [x]).length := ⟨_, rfl⟩
  rw [← hn2] at RUN HOW
  clear hn2
  have HW := Lib.hid hw; have HM := Lib.hid hm
  clear hrun hown' hown hw hm hlen hn
  have s1 : w'.cell? ⟨p, 1, none⟩ = some (.bool ov) := (hbl'.cell (p := ⟨p, 1, none⟩) (Nat.lt_succ_self p)).trans t0
  have s2 : ∀ i, w'.frozen? ⟨p, i, none⟩ = false := fun i => (hbl'.frozen (p := ⟨p, i, none⟩) (Nat.lt_succ_self p)).trans (u0 i)
  have s3 : w'.cell? ⟨p, 0, none⟩ = some (.slice A ls.length c) := (hbl'.cell (p := ⟨p, 0, none⟩) (Nat.lt_succ_self p)).trans s0
  have s4 : p < w'.heap.size := World.block_lt_of_cell? _ _ s3
  obtain ⟨n, hn⟩ : ∃ n, n = ls.length := ⟨_, rfl⟩
  rw [← hn] at s0 s3 RUN
  clear hn
  go_enter Tryz.func91, Tryz.ntmps91
  go_wp2_with (at_builtin; refine wpList_append_run rfl (.tmp 10) (.tmp 12) 24 rfl _ _ rfl rfl RUN.out ?_)
  go_end0
  exact ⟨rfl, ⟨_, ls ++ [x], by go_simp, by go_simp, fun i => by go_simp, (HOW.out).set (Nat.lt_succ_self p) _, (fun y hy => by rcases List.mem_append.1 hy with hy | hy; exact HW.out y hy; rcases List.mem_singleton.1 hy with rfl; exact hx2), by rw [List.map_append, HM.out]; rfl⟩, Below.setCell (p := ⟨p, 0, none⟩) (Below.mono hbl' (Nat.le_succ p)) (Nat.le_refl p) _⟩
theorem elay_any (p x : Nat) (L : List (Option Nat)) (ov : Bool) (hx : x < 18446744073709551616) (hn : L.length ≤ 1000000) (w : World) (h : LayP w p L ov) : Calls Tryz.prog 91 #[.pointer (some ⟨p, 0, none⟩), .float .f64 x] w fun e w' => e = .returned (.tuple #[]) ∧ LayP w' p (layV L (fv x)) ov ∧ Below p w w' := by
  by_cases h0 : x % 9223372036854775808 = 0
  · exact elay_no p x L ov h0 w h
  · exact elay_yes p x L ov h0 hx hn w h
def endE (L : List (Option Nat)) (ov : Bool) : Int := if ov then 5 else if 64 < L.length then 2 else 0
set_option maxRecDepth 100000 in
set_option maxHeartbeats 600000 in
theorem eend_ov (p : Nat) (L : List (Option Nat)) (w : World) (h : LayP w p L true) : Calls Tryz.prog 92 #[.pointer (some ⟨p, 0, none⟩)] w fun e w' => (∃ sv ls, e = .returned (.tuple #[sv, .int .i64 5]) ∧ OwnF w' (p + 1) sv ls ∧ Words64 ls ∧ ls.map fv = []) ∧ w = w' := by
  obtain ⟨sv, ls, s0, t0, u0, _⟩ := h
  go_enter Tryz.func92, Tryz.ntmps92
  go_wp2
  go_ret2
  exact ⟨⟨_, [], rfl, OwnF.nil_ _ _, (fun x hx => by cases hx), rfl⟩, rfl⟩
set_option maxRecDepth 100000 in
set_option maxHeartbeats 600000 in
theorem eend_long (p : Nat) (L : List (Option Nat)) (hn : 64 < L.length) (w : World) (h : LayP w p L false) : Calls Tryz.prog 92 #[.pointer (some ⟨p, 0, none⟩)] w fun e w' => (∃ sv ls, e = .returned (.tuple #[sv, .int .i64 2]) ∧ OwnF w' (p + 1) sv ls ∧ Words64 ls ∧ ls.map fv = []) ∧ w = w' := by
  obtain ⟨sv, ls, s0, t0, u0, hown, hw, hm⟩ := h
  obtain ⟨A, c, rfl, _, _, _⟩ := hown.form
  have hlen : ls.length = L.length := by rw [← hm, List.length_map]
  obtain ⟨n, hn2⟩ : ∃ n, n = ls.length := ⟨_, rfl⟩
  rw [← hn2] at s0
  have d1 : decide ((n : Int) > 64) = true := decide_eq_true (by omega)
  clear hown hw hm hlen hn hn2
  go_enter Tryz.func92, Tryz.ntmps92
  go_wp2
  go_ret2
  exact ⟨⟨_, [], rfl, OwnF.nil_ _ _, (fun x hx => by cases hx), rfl⟩, rfl⟩
set_option maxRecDepth 100000 in
set_option maxHeartbeats 600000 in
theorem eend_fine (p : Nat) (L : List (Option Nat)) (hn : L.length ≤ 64) (w : World) (h : LayP w p L false) : Calls Tryz.prog 92 #[.pointer (some ⟨p, 0, none⟩)] w fun e w' => (∃ sv ls, e = .returned (.tuple #[sv, .int .i64 0]) ∧ OwnF w' (p + 1) sv ls ∧ Words64 ls ∧ ls.map fv = L) ∧ w = w' := by
  obtain ⟨sv, ls, s0, t0, u0, hown, hw, hm⟩ := h
  obtain ⟨A, c, rfl, _, _, _⟩ := hown.form
  have hlen : ls.length = L.length := by rw [← hm, List.length_map]
  have HO := Lib.hid hown; have HW := Lib.hid hw; have HM := Lib.hid hm
  obtain ⟨n, hn2⟩ : ∃ n, n = ls.length := ⟨_, rfl⟩
  rw [← hn2] at s0 HO
  have d1 : decide ((n : Int) > 64) = false := decide_eq_false (by omega)
  clear hown hw hm hlen hn hn2
  go_enter Tryz.func92, Tryz.ntmps92
  go_wp2
  go_ret2
  exact ⟨⟨_, ls, rfl, HO.out, HW.out, HM.out⟩, rfl⟩
theorem eend_any (p : Nat) (L : List (Option Nat)) (ov : Bool) (w : World) (h : LayP w p L ov) : Calls Tryz.prog 92 #[.pointer (some ⟨p, 0, none⟩)] w fun e w' => (∃ sv ls, e = .returned (.tuple #[sv, .int .i64 (endE L ov)]) ∧ OwnF w' (p + 1) sv ls ∧ Words64 ls ∧ ls.map fv = (if endE L ov = 0 then L else [])) ∧ w = w' := by
  unfold endE
  cases ov
  · rw [if_neg Bool.false_ne_true]
    by_cases hn : 64 < L.length
    · rw [if_pos hn, if_neg (by decide)]; exact eend_long p L hn w h
    · rw [if_neg hn, if_pos rfl]; exact eend_fine p L (by omega) w h
  · rw [if_pos rfl, if_neg (by decide)]; exact eend_ov p L w h
end Go.Proofs.YtjmaggfddinbkaaGreatDoor
end

section
namespace Go.Proofs.YtjmaggfddinbkaaGreatDoor
open Go.RowKit
theorem LayP.made (w : World) (T : TypeId) : LayP (w.alloc (.cells #[.slice none 0 0, .bool false] T)) w.heap.size [] false := by
  refine ⟨.slice none 0 0, [], ?_, ?_, fun i => ?_, OwnF.nil_ _ _, (fun x hx => by cases hx), rfl⟩
  · rw [World.cell?_alloc_at _ _ _ _ rfl]; rfl
  · rw [World.cell?_alloc_at _ _ _ _ rfl]; rfl
  · simp
def gs (es : List Nat) (b k : Nat) : Lay := ((es.map fv).take k).foldl growStep ⟨fv b, [], false⟩
theorem gs_zero (es : List Nat) (b : Nat) : gs es b 0 = ⟨fv b, [], false⟩ := by unfold gs; rw [List.take_zero]; rfl
theorem gs_all (es : List Nat) (b : Nat) : gs es b es.length = growSt (es.map fv) (fv b) := by
  unfold gs growSt
  rw [List.take_of_length_le (by rw [List.length_map]; exact Nat.le_refl _)]
theorem getD_fv (es : List Nat) {k : Nat} (h : k < es.length) : (es.map fv).getD k none = fv (es.getD k 0) := by
  simp [List.getD, h]
theorem gs_succ (es : List Nat) (b : Nat) {k : Nat} (h : k < es.length) : gs es b (k + 1) = growStep (gs es b k) (fv (es.getD k 0)) := by
  unfold gs
  rw [fold_take growStep _ (es.map fv) none (by rw [List.length_map]; exact h), getD_fv es h]
theorem gs_len (es : List Nat) (b k : Nat) : (gs es b k).l.length ≤ es.length := by
  have := growSt_len ((es.map fv).take k) (fv b)
  have h2 : ((es.map fv).take k).length ≤ es.length := by rw [List.length_take, List.length_map]; exact Nat.min_le_right _ _
  exact Nat.le_trans this h2
set_option maxRecDepth 100000 in
set_option maxHeartbeats 600000 in
theorem egrow_any (A : Option Addr) (c : Nat) (es : List Nat) (b : Nat) (hw : Words64 es) (hl : es.length ≤ 100000) (hb : b < 18446744073709551616) (w : World) (hr : SlAt w A (f64v es)) : Calls Tryz.prog 67 #[.slice A es.length c, .float .f64 b] w (ResF w (growSt (es.map fv) (fv b)).out (growSt (es.map fv) (fv b)).err) := by
  have HW := Lib.hid hw; have HR := Lib.hid hr; have HL := Lib.hid hl; have HB := Lib.hid hb; have hl2 : es.length ≤ 1152921504606846976 := by omega
  clear hw hr hl hb
  have LAY0 := LayP.made w 94
  go_enter Tryz.func67, Tryz.ntmps67
  go_wp2
  go_loopw [7, 15] (fun qv iv wr => ∃ k q : Nat, k ≤ es.length ∧ iv = .int .i64 (k : Int) ∧ qv = .float .f64 q ∧ q < 18446744073709551616 ∧ fv q = (gs es b k).q ∧ LayP wr w.heap.size (gs es b k).l (gs es b k).ov ∧ Within w wr) (fun _ iv _ => es.length - (intOf iv).toNat)
  case atStart => exact ⟨0, b, Nat.zero_le _, rfl, rfl, HB.out, by rw [gs_zero], by rw [gs_zero]; exact LAY0, (by repeat (first | with_reducible exact Within.refl _ | with_reducible assumption | with_reducible refine arW_within ?_ _ _ _ | with_reducible refine Within.alloc ?_ _ | with_reducible refine Within.drew ?_ | with_reducible refine Within.trans ?_ (by assumption)))⟩
  case round =>
    obtain ⟨k, q, hk, rfl, rfl, hq, vq, hL, hin⟩ := hrel
    have HQ := Lib.hid hq; have VQ := Lib.hid vq; have LL := Lib.hid hL; clear hq vq hL
    by_cases hlt : k < es.length
    · obtain ⟨ad, rfl, hblk, hc⟩ := (HR.out.of hin).at hlt
      obtain ⟨x, hx⟩ : ∃ x, x = es.getD k 0 := ⟨_, rfl⟩
      have hx2 : x < 18446744073709551616 := by rw [hx]; exact HW.out.at hlt
      rw [← hx] at hc
      have HX2 := Lib.hid hx2; clear hx2
      have hnext := gs_succ es b hlt
      rw [← hx] at hnext
      have HN := Lib.hid hnext; clear hnext hx
      have TW := Lib.hid (fun w => etwo_any q x HQ.out HX2.out w)
      have hlen := Nat.le_trans (gs_len es b k) HL.out
      have HLEN := Lib.hid hlen; clear hlen
      go_wp2_with fail
      refine (TW.out _).mono ?_; rintro e1 w1 ⟨s, l, rfl, hs, hl', vs, vl, hb1⟩
      have HS := Lib.hid hs; have HL2 := Lib.hid hl'; have VS := Lib.hid vs; have VL := Lib.hid vl; clear hs hl' vs vl
      have L1 := Lib.hid (LL.out.of hb1)
      go_wp2_with fail
      refine (see_any _ s l _ _ _ L1.out).mono ?_; rintro e2 w2 ⟨rfl, hL2, hb2⟩
      have L2 := Lib.hid hL2; clear hL2
      go_wp2_with fail
      refine (elay_any _ l _ _ HL2.out (Nat.le_trans HLEN.out (by decide)) _ L2.out).mono ?_; rintro e3 w3 ⟨rfl, hL3, hb3⟩
      have hin3 : Within w w3 := below_within (below_within (hin.trans hb1) hb2 (Nat.le_refl _)) hb3 (Nat.le_refl _)
      have L3 := Lib.hid hL3; clear hL3 hb1 hb2 hb3
      go_wp2
      go_roundw
      case rel =>
        refine ⟨k + 1, s, hlt, by go_num, rfl, HS.out, ?_, ?_, hin3⟩
        · rw [HN.out, VS.out, VQ.out]; rfl
        · rw [HN.out]
          have h := L3.out
          rw [VL.out, VQ.out] at h
          have e : ((gs es b k).ov || !finW s || !finW l) = (gs es b k).see (twoS (gs es b k).q (fv x)) (twoL (gs es b k).q (fv x)) := by
            unfold Lay.see; rw [← VQ.out, ← VS.out, ← VL.out, finV_fv, finV_fv]
          rw [e] at h
          exact h
      case measure => simp [intOf]; omega
    · obtain rfl : k = es.length := by omega
      have vq2 := VQ.out
      rw [gs_all] at vq2
      have l0 := LL.out
      rw [gs_all] at l0
      have VQ2 := Lib.hid vq2; have LL2 := Lib.hid l0; clear vq2 l0
      have hlen : (growSt (es.map fv) (fv b)).l.length ≤ 1000000 := Nat.le_trans (growSt_len _ _) (by rw [List.length_map]; exact Nat.le_trans HL.out (by decide))
      have HLEN := Lib.hid hlen; clear hlen
      go_wp2_with fail
      refine (elay_any _ q _ _ HQ.out HLEN.out _ LL2.out).mono ?_; rintro e3 w3 ⟨rfl, hL3, hb3⟩
      rw [VQ2.out] at hL3
      have hin3 : Within w w3 := below_within hin hb3 (Nat.le_refl _)
      have L3 := Lib.hid hL3; clear hL3 hb3
      go_wp2_with fail
      refine (eend_any _ _ _ _ L3.out).mono ?_; rintro e4 w4 ⟨⟨sv, ls, rfl, hown, hw', hm⟩, rfl⟩
      have HO := Lib.hid hown; have HM := Lib.hid hm; have HWW := Lib.hid hw'; clear hown hm hw'
      go_wp2
      go_ret2
      exact ⟨_, ls, rfl, HO.out.less (Nat.le_succ _), HWW.out, HM.out, hin3⟩
end Go.Proofs.YtjmaggfddinbkaaGreatDoor
end

section
namespace Go.Proofs.YtjmaggfddinbkaaGreatDoor
open Go.RowKit
/-! amounts by their parts -/
theorem fin_canon {b : Nat} (h : b % 9223372036854775808 < 9218868437227405312) : canonD b = b := by
  unfold canonD
  rw [if_neg]
  unfold nanD
  simp; omega
theorem fin_exp {b : Nat} (h : b % 9223372036854775808 < 9218868437227405312) : expD b = b % 9223372036854775808 / 4503599627370496 ∧ fracD b = b % 4503599627370496 ∧ expD b < 2047 := by
  unfold expD fracD
  rw [fin_canon h]
  omega
theorem mag_parts {b : Nat} (h : b % 9223372036854775808 < 9218868437227405312) : Fp.mag Ieee.double (b % 9223372036854775808) = mantD b * 2 ^ (lowD b + 1074).toNat := by
  obtain ⟨h1, h2, h3⟩ := fin_exp h
  unfold Fp.mag mantD lowD
  rw [Fp.dB, h2, h1]
  by_cases h0 : b % 9223372036854775808 < 4503599627370496
  · rw [if_pos h0, if_pos (by omega), if_pos (by omega), show (((1 : Nat) : Int) - 1075 + 1074).toNat = 0 from rfl, Nat.pow_zero, Nat.mul_one]
    omega
  · rw [if_neg h0, if_neg (by omega), if_neg (by omega), show (((b % 9223372036854775808 / 4503599627370496 : Nat) : Int) - 1075 + 1074).toNat = b % 9223372036854775808 / 4503599627370496 - 1 by omega]
    congr 1
    omega
theorem lowD_ge (b : Nat) : -1074 ≤ lowD b := by unfold lowD; split <;> omega
theorem mag_odd {b : Nat} (h : b % 9223372036854775808 < 9218868437227405312) : Fp.mag Ieee.double (b % 9223372036854775808) = pMantD b * 2 ^ (pExpD b + 1074).toNat := by
  rw [mag_parts h]
  obtain ⟨_, _, h3⟩ := fin_exp h
  unfold pMantD pExpD
  rw [if_neg (by omega)]
  by_cases h0 : mantD b = 0
  · rw [if_pos (.inr h0), h0, Nat.zero_mul, Nat.zero_div, Nat.zero_mul]
  · rw [if_neg (by omega)]
    obtain ⟨m, e1, e2, e3⟩ := odd_split h0 (by have := mantD_lt b; omega)
    have hl := lowD_ge b
    generalize Lib.ctz 64 (mantD b) = k at *
    rw [show (lowD b + (k : Int) + 1074).toNat = k + (lowD b + 1074).toNat by omega, Nat.pow_add, ← Nat.mul_assoc]
    congr 1
    rw [e2, Nat.mul_div_cancel_left _ (Nat.two_pow_pos k), Nat.mul_comm]
theorem sg_is {b : Nat} (hb : b < 18446744073709551616) : Fp.sg Ieee.double b = decide (9223372036854775808 ≤ b) := by
  unfold Fp.sg
  rw [show Ieee.double.signWeight = 9223372036854775808 by decide +kernel]
  exact decide_eq_decide.2 (by omega)
theorem whole_un {b : Nat} (hb : b < 18446744073709551616) (h : b % 9223372036854775808 < 9218868437227405312) : P64.wholeI b = Fp.un Ieee.double b := by
  obtain ⟨_, _, h3⟩ := fin_exp h
  have hn0 : pNegD b = decide (9223372036854775808 ≤ b) := by
    unfold pNegD negD
    rw [if_neg (by omega), fin_canon h]
  unfold P64.wholeI Fp.un P64.sgv
  rw [hn0, Fp.rg64, mag_odd h]
  have hs := sg_is hb
  rw [hs]
  by_cases hn : 9223372036854775808 ≤ b
  · rw [if_pos (decide_eq_true hn), if_pos (decide_eq_true hn), Int.neg_mul]; simp
  · rw [if_neg (by simpa using hn), if_neg (by simpa using hn)]; simp
theorem top_le {p : Int} (h : 1023 < p) : Fp.dtop ≤ (p + 1074).toNat := by
  have : Fp.dtop = 2098 := rfl
  omega
theorem pExp_hi {b : Nat} (h : b % 9223372036854775808 < 9218868437227405312) : pExpD b ≤ 1023 := by
  by_cases h0 : pMantD b = 0
  · have : pExpD b = 0 := by
      obtain ⟨_, _, h3⟩ := fin_exp h
      unfold pMantD at h0
      rw [if_neg (by omega)] at h0
      unfold pExpD
      by_cases hm : mantD b = 0
      · rw [if_pos (.inr hm)]
      · obtain ⟨m, e1, e2, e3⟩ := odd_split hm (by have := mantD_lt b; omega)
        unfold oddM at e1; omega
    omega
  · have h1 := mag_odd h
    have h2 : Fp.mag Ieee.double (b % 9223372036854775808) < Fp.mag Ieee.double 9218868437227405312 := (Fp.mag_lt_iff Ieee.double).2 h
    have h3 : Fp.mag Ieee.double 9218868437227405312 = 2 ^ Fp.dtop := by
      have := Fp.mag_infD
      rw [Fp.dI] at this
      exact this
    rcases Int.lt_or_le 1023 (pExpD b) with hc | hc
    · exfalso
      have h4 : 2 ^ Fp.dtop ≤ 2 ^ (pExpD b + 1074).toNat := Nat.pow_le_pow_right (by decide) (top_le hc)
      have h5 : 2 ^ (pExpD b + 1074).toNat ≤ pMantD b * 2 ^ (pExpD b + 1074).toNat := Nat.le_mul_of_pos_left _ (Nat.pos_of_ne_zero h0)
      rw [h1, h3] at h2
      exact absurd (Nat.lt_of_lt_of_le h2 (Nat.le_trans h4 h5)) (Nat.lt_irrefl _)
    · exact hc
end Go.Proofs.YtjmaggfddinbkaaGreatDoor
end

section
namespace Go.Proofs.YtjmaggfddinbkaaGreatDoor
open Go.RowKit
theorem odd_one : oddM 1 = 1 := by decide
theorem ctz_one : Lib.ctz 64 1 = 0 := by decide
theorem bitLen_one : Lib.bitLen 1 = 1 := by decide
theorem down_one (e : Int) : downD 1 e = min 52 (e + 1074).toNat := by
  unfold downD oddE
  rw [odd_one, ctz_one, bitLen_one]
  omega
theorem bad_one {e : Int} (h1 : -1074 ≤ e) (h2 : e ≤ 1023) : badD 1 e = false := by
  unfold badD oddE
  rw [odd_one, ctz_one, bitLen_one, decide_eq_false (by omega), decide_eq_false (by omega), decide_eq_false (by omega), decide_eq_false (by omega)]; rfl
theorem pow52 : (2 : Nat) ^ 52 = 4503599627370496 := by decide
theorem join_low {t : Nat} (h : t < 4503599627370496) : joinD false 0 t = t := by
  unfold joinD bitsOfD
  rw [if_neg (by omega), if_neg Bool.false_ne_true, show (0 : Int).toNat * 4503599627370496 + t + 0 = t by simp, fin_canon (by omega)]
theorem join_high {n : Nat} (h : n ≤ 2046) : joinD false (n : Int) 0 = n * 4503599627370496 := by
  unfold joinD bitsOfD
  rw [if_neg (by omega), if_neg Bool.false_ne_true, Int.toNat_natCast, Nat.add_zero, fin_canon (by omega)]
theorem last_is {e : Int} (h1 : -1074 ≤ e) (h2 : e ≤ 1023) : madeD false 1 e < 9218868437227405312 ∧ Fp.mag Ieee.double (madeD false 1 e) = 2 ^ (e + 1074).toNat := by
  unfold madeD fieldD topD
  rw [if_neg (by decide), bad_one h1 h2, if_neg Bool.false_ne_true, odd_one, down_one, Nat.one_mul]
  rcases Nat.lt_or_ge (e + 1074).toNat 52 with hk | hk
  · rw [Nat.min_eq_right (Nat.le_of_lt hk)]
    have ht : 2 ^ (e + 1074).toNat < 4503599627370496 := by rw [← pow52]; exact Nat.pow_lt_pow_right (by decide) hk
    generalize 2 ^ (e + 1074).toNat = t at *
    rw [if_pos ht, if_neg (by omega), Nat.mod_eq_of_lt ht, join_low ht]
    exact ⟨by omega, by rw [Fp.mag_lt _ _ (by rw [Fp.dB]; exact ht)]⟩
  · rw [Nat.min_eq_left hk, pow52, if_neg (Nat.lt_irrefl 4503599627370496), show oddE 1 e - ((52 : Nat) : Int) + 1075 = (((e + 1074).toNat - 51 : Nat) : Int) by unfold oddE; rw [ctz_one]; omega]
    generalize hK : (e + 1074).toNat = K at *
    rw [if_neg (by omega), join_high (by omega)]
    refine ⟨by omega, ?_⟩
    unfold Fp.mag
    rw [Fp.dB, if_neg (by omega), Nat.mul_mod_left, Nat.add_zero, Nat.mul_div_cancel _ (by decide), ← pow52, ← Nat.pow_add, show 52 + (K - 51 - 1) = K by omega]
theorem un_pos {r : Nat} (h : r < 9223372036854775808) : Fp.un Ieee.double r = Fp.mag Ieee.double r := by
  unfold Fp.un
  rw [sg_is (by omega), decide_eq_false (by omega), if_neg Bool.false_ne_true, Fp.rg64, Nat.mod_eq_of_lt h]
def lowB (a b : Nat) : Bool := decide ((Fp.un Ieee.double a).natAbs < 2 ^ (pExpD b + 1074).toNat)
def absB (x : Nat) : Nat := if Fp.un Ieee.double x < 0 then x - 9223372036854775808 else x
theorem sub63 {x : Nat} (h : 9223372036854775808 ≤ x) (hx : x < 18446744073709551616) (hf : x % 9223372036854775808 < 9218868437227405312) : x - 9223372036854775808 < 9223372036854775808 ∧ (x - 9223372036854775808) % 9223372036854775808 < 9218868437227405312 ∧ x - 9223372036854775808 = x % 9223372036854775808 := by omega
theorem absB_is {x : Nat} (hx : x < 18446744073709551616) (h : x % 9223372036854775808 < 9218868437227405312) : absB x < 18446744073709551616 ∧ absB x % 9223372036854775808 < 9218868437227405312 ∧ Fp.un Ieee.double (absB x) = (Fp.un Ieee.double x).natAbs := by
  unfold absB
  by_cases h0 : Fp.un Ieee.double x < 0
  · rw [if_pos h0]
    have hs := un_sign (x := x) (by omega)
    rw [decide_eq_true h0] at hs
    rw [sg_is hx] at hs
    have hge := of_decide_eq_true hs
    obtain ⟨k1, k2, k3⟩ := sub63 hge hx h
    refine ⟨Nat.lt_trans k1 (by decide), k2, ?_⟩
    rw [un_pos k1, un_abs, Fp.rg64, k3]
  · rw [if_neg h0]
    exact ⟨hx, h, (Int.natAbs_of_nonneg (Int.not_lt.1 h0)).symm⟩
theorem geq_low {a b : Nat} (ha : a < 18446744073709551616) (fa : a % 9223372036854775808 < 9218868437227405312) (fb : b % 9223372036854775808 < 9218868437227405312) :
    (FloatKind.f64.format.order (absB a) (madeD false 1 (pExpD b)) == some .gt || FloatKind.f64.format.order (absB a) (madeD false 1 (pExpD b)) == some .eq) = !lowB a b := by
  obtain ⟨h1, h2⟩ := last_is (P64.pExpD_range b).1 (pExp_hi fb)
  obtain ⟨_, k2, k3⟩ := absB_is ha fa
  rw [c_ge (by omega) (by rw [Nat.mod_eq_of_lt (by omega)]; omega), k3, un_pos (by omega), h2]
  unfold lowB
  generalize 2 ^ (pExpD b + 1074).toNat = P
  by_cases h : (Fp.un Ieee.double a).natAbs < P
  · rw [decide_eq_true h, decide_eq_false (by omega)]; rfl
  · rw [decide_eq_false h, decide_eq_true (by omega)]; rfl
theorem neg_flip {a : Nat} (ha : a < 9223372036854775808) : a ^^^ 2 ^ 63 = a + 9223372036854775808 := by
  have := Nat.two_pow_add_eq_or_of_lt (i := 63) (b := a) ha 1
  rw [Nat.mul_one] at this
  rw [show a + 9223372036854775808 = 2 ^ 63 + a by omega, this, Nat.xor_comm]
  apply Nat.eq_of_testBit_eq
  intro i
  rw [Nat.testBit_xor, Nat.testBit_or, Nat.testBit_two_pow]
  by_cases hi : 63 = i
  · subst hi
    rw [Nat.testBit_lt_two_pow ha]; simp
  · simp [hi]
theorem neg_float {x : Nat} (h : 9223372036854775808 ≤ x) (hx : x < 18446744073709551616) : Go.Op.negFloat .f64 x = x - 9223372036854775808 := by
  have g := neg_flip (a := x - 9223372036854775808) (by omega)
  rw [show x - 9223372036854775808 + 9223372036854775808 = x by omega] at g
  show x ^^^ 2 ^ 63 = _
  conv => lhs; rw [← g]
  rw [Nat.xor_assoc, Nat.xor_self, Nat.xor_zero]
theorem un_neg_ge {x : Nat} (hx : x < 18446744073709551616) (h0 : Fp.un Ieee.double x < 0) : 9223372036854775808 ≤ x := by
  have hs := un_sign (x := x) (by omega)
  rw [decide_eq_true h0, sg_is hx] at hs
  exact of_decide_eq_true hs
set_option maxHeartbeats 600000 in
theorem Eabs (x : Nat) (hx : x < 18446744073709551616) (h : x % 9223372036854775808 < 9218868437227405312) (w : World) : Calls Tryz.prog 74 #[.float .f64 x] w fun e w' => e = .returned (.float .f64 (absB x)) ∧ w = w' := by
  have h0 := c_lt (x := x) (y := 0) (by omega) (by decide)
  rw [show Fp.un Ieee.double 0 = 0 by rw [un_pos (by decide), Fp.mag_zero]; rfl] at h0
  unfold absB
  by_cases hn : Fp.un Ieee.double x < 0
  · rw [decide_eq_true hn] at h0
    rw [if_pos hn]
    have hf := neg_float (un_neg_ge hx hn) hx
    clear hn
    go_enter Tryz.func74, Tryz.ntmps74
    go_wp2
    go_ret
    exact ⟨by rw [← hf]; rfl, rfl⟩
  · rw [decide_eq_false hn] at h0
    rw [if_neg hn]
    clear hn
    go_enter Tryz.func74, Tryz.ntmps74
    go_wp2
    go_ret
    exact ⟨rfl, rfl⟩
set_option maxRecDepth 100000 in
set_option maxHeartbeats 600000 in
theorem Elast (b : Nat) (hb : b < 18446744073709551616) (w : World) (hT : Tab w) : Calls Tryz.prog 75 #[.float .f64 b] w fun e w' => e = .returned (.float .f64 (madeD false 1 (pExpD b))) ∧ Within w w' := by
  have HB := Lib.hid hb; have HT := Lib.hid hT; clear hb hT
  have CO := Lib.hid (fun w hT => Of_D false 1 (pExpD b) (by decide) w hT)
  have CP := Lib.hid (Parts_D b HB.out w HT.out)
  obtain ⟨e, he⟩ : ∃ e, e = pExpD b := ⟨_, rfl⟩
  rw [← he] at CO CP ⊢
  obtain ⟨r, hr⟩ : ∃ r, r = madeD false 1 e := ⟨_, rfl⟩
  obtain ⟨er, her⟩ : ∃ er, er = madeED 1 e := ⟨_, rfl⟩
  rw [← hr, ← her] at CO
  rw [← hr]
  clear hr her he
  go_enter Tryz.func75, Tryz.ntmps75
  go_wp2_with fail
  refine CP.out.mono ?_; rintro e1 w1 ⟨rfl, hb1⟩
  go_wp2_with fail
  refine (CO.out _ (HT.out.of (hb1.alloc _))).mono ?_; rintro e2 w2 ⟨rfl, hb2⟩
  go_wp2
  go_ret
  exact ⟨rfl, (hb1.alloc _).trans hb2⟩
end Go.Proofs.YtjmaggfddinbkaaGreatDoor
end

section
namespace Go.Proofs.YtjmaggfddinbkaaGreatDoor
open Go.RowKit
section
variable {P : Program} {ops : Array Oper}
end
def okAt (l : List Nat) (i : Nat) : Bool := decide (l.getD i 0 % 9223372036854775808 ≠ 0) && (decide (i = 0) || lowB (l.getD (i - 1) 0) (l.getD i 0))
def isB (l : List Nat) : Bool := decide (l.length ≤ 64) && l.all finD && (List.range l.length).all (okAt l)
theorem isB_no {l : List Nat} {k : Nat} (hk : k < l.length) (h : okAt l k = false) : isB l = false := by
  unfold isB
  have : (List.range l.length).all (okAt l) = false := by
    rw [List.all_eq_false]
    exact ⟨k, List.mem_range.2 hk, by rw [h]; decide⟩
  rw [this, Bool.and_false]
theorem isB_yes {l : List Nat} (h1 : l.length ≤ 64) (h2 : l.all finD = true) (h3 : ∀ k, k < l.length → okAt l k = true) : isB l = true := by
  unfold isB
  rw [decide_eq_true h1, h2, List.all_eq_true.2 (fun k hk => h3 k (List.mem_range.1 hk))]; rfl
theorem isB_long {l : List Nat} (h : 64 < l.length) : isB l = false := by
  unfold isB
  rw [decide_eq_false (by omega)]; rfl
theorem isB_fin {l : List Nat} (h : l.all finD = false) : isB l = false := by
  unfold isB
  rw [h]; simp
theorem fin_at {l : List Nat} (hw : Words64 l) (h : l.all finD = true) {k : Nat} (hk : k < l.length) : l.getD k 0 % 9223372036854775808 < 9218868437227405312 := by
  have hm : l.getD k 0 ∈ l := by rw [List.getD, List.getElem?_eq_getElem hk]; exact List.getElem_mem hk
  have := List.all_eq_true.1 h _ hm
  rw [finD_is (hw _ hm)] at this
  exact of_decide_eq_true this
set_option maxRecDepth 100000 in
set_option maxHeartbeats 600000 in
theorem eis_long (A : Option Addr) (c : Nat) (es : List Nat) (hw : Words64 es) (hl : es.length ≤ 1152921504606846976) (h64 : 64 < es.length) (w : World) (hT : Tab w) (hr : SlAt w A (f64v es)) : Calls Tryz.prog 17 #[.slice A es.length c] w fun e w' => e = .returned (.bool false) ∧ Within w w' := by
  have d : decide ((es.length : Int) > 64) = true := decide_eq_true (by omega)
  clear hw hr hT
  go_enter Tryz.func17, Tryz.ntmps17
  go_wp2
  go_ret
  exact ⟨rfl, Within.refl _⟩
set_option maxRecDepth 100000 in
set_option maxHeartbeats 600000 in
theorem eis_fin (A : Option Addr) (c : Nat) (es : List Nat) (hw : Words64 es) (hl : es.length ≤ 1152921504606846976) (h64 : es.length ≤ 64) (hf : es.all finD = false) (w : World) (hT : Tab w) (hr : SlAt w A (f64v es)) : Calls Tryz.prog 17 #[.slice A es.length c] w fun e w' => e = .returned (.bool false) ∧ Within w w' := by
  have d : decide ((es.length : Int) > 64) = false := decide_eq_false (by omega)
  have CF := Lib.hid (Finite_any A c es hw hl w hr)
  rw [hf] at CF
  clear hw hr hT hf
  go_enter Tryz.func17, Tryz.ntmps17
  go_wp2_with fail
  refine CF.out.mono ?_; rintro e1 w1 ⟨rfl, hb1⟩
  go_wp2
  go_ret
  exact ⟨rfl, hb1⟩
set_option maxRecDepth 100000 in
set_option maxHeartbeats 600000 in
theorem eis_main (A : Option Addr) (c : Nat) (es : List Nat) (hw : Words64 es) (hl : es.length ≤ 1152921504606846976) (h64 : es.length ≤ 64) (hf : es.all finD = true) (w : World) (hT : Tab w) (hr : SlAt w A (f64v es)) : Calls Tryz.prog 17 #[.slice A es.length c] w fun e w' => e = .returned (.bool (isB es)) ∧ Within w w' := by
  have d : decide ((es.length : Int) > 64) = false := decide_eq_false (by omega)
  have CF := Lib.hid (Finite_any A c es hw hl w hr)
  rw [hf] at CF
  have HW := Lib.hid hw; have HR := Lib.hid hr; have HT := Lib.hid hT; have HF := Lib.hid hf; have H64 := Lib.hid h64; clear hw hr hT hf
  go_enter Tryz.func17, Tryz.ntmps17
  go_wp2_with fail
  refine CF.out.mono ?_; rintro e1 w1 ⟨rfl, hb1⟩
  go_wp2
  go_loopw [14] (fun iv wr => ∃ k : Nat, k ≤ es.length ∧ iv = .int .i64 (k : Int) ∧ (∀ j, j < k → okAt es j = true) ∧ Within w wr) (fun iv _ => es.length - (intOf iv).toNat)
  case atStart => exact ⟨0, Nat.zero_le _, rfl, fun j hj => absurd hj (Nat.not_lt_zero _), hb1⟩
  case round =>
    obtain ⟨k, hk, rfl, hok, hin⟩ := hrel
    have HOK := Lib.hid hok; clear hok
    by_cases hlt : k < es.length
    · obtain ⟨ad, hA, hblk, hc⟩ := (HR.out.of hin).at hlt
      have fx := fin_at HW.out HF.out hlt
      have hx64 := HW.out.at hlt
      obtain ⟨x, hx⟩ : ∃ x, x = es.getD k 0 := ⟨_, rfl⟩
      rw [← hx] at hc fx hx64
      by_cases h0 : x % 9223372036854775808 = 0
      · have hz : (FloatKind.f64.format.order x 0 == some .eq) = true := by rw [c_zero, decide_eq_true h0]
        have NO := Lib.hid (isB_no hlt (by unfold okAt; rw [← hx, decide_eq_false (by omega)]; rfl))
        subst hA
        have cx := hc
        clear hc fx hx64 hx h0
        go_wp2
        go_region
        go_wp2
        go_ret
        exact ⟨(by rw [NO.out]; first | done | rfl), (by repeat (first | with_reducible exact Within.refl _ | with_reducible assumption | with_reducible refine arW_within ?_ _ _ _ | with_reducible refine Within.alloc ?_ _ | with_reducible refine Within.drew ?_ | with_reducible refine Within.trans ?_ (by assumption)))⟩
      · have hz : (FloatKind.f64.format.order x 0 == some .eq) = false := by rw [c_zero, decide_eq_false h0]
        rcases k with _ | j
        · have OKN := Lib.hid (show ∀ j, j < 0 + 1 → okAt es j = true by
            intro j hj
            have : j = 0 := by omega
            subst this
            unfold okAt
            rw [← hx, decide_eq_true (by omega)]; rfl)
          subst hA
          have cx : wr.cell? ad = some (.float .f64 x) := hc
          clear hc fx hx64 hx h0
          go_wp2
          go_region
          go_wp2
          go_roundw
          case rel => exact ⟨0 + 1, hlt, by go_num, OKN.out, (by repeat (first | with_reducible exact Within.refl _ | with_reducible assumption | with_reducible refine arW_within ?_ _ _ _ | with_reducible refine Within.alloc ?_ _ | with_reducible refine Within.drew ?_ | with_reducible refine Within.trans ?_ (by assumption)))⟩
          case measure => simp [intOf]; omega
        · obtain ⟨ad', hA', _, hc'⟩ := (HR.out.of hin).at (k := j) (by omega)
          have ead : ad = ad' := by rw [hA] at hA'; injection hA' with h
          subst ead
          have fy := fin_at HW.out HF.out (k := j) (by omega)
          have hy64 := HW.out.at (k := j) (by omega)
          obtain ⟨y, hy⟩ : ∃ y, y = es.getD j 0 := ⟨_, rfl⟩
          rw [← hy] at hc' fy hy64
          have CA := Lib.hid (fun w => Eabs y hy64 fy w)
          have CL := Lib.hid (fun w hT => Elast x hx64 w hT)
          have hge := geq_low hy64 fy fx
          obtain ⟨a, ha⟩ : ∃ a, a = absB y := ⟨_, rfl⟩
          obtain ⟨r, hr⟩ : ∃ r, r = madeD false 1 (pExpD x) := ⟨_, rfl⟩
          rw [← ha] at CA hge
          rw [← hr] at CL hge
          clear ha hr
          have e9 : IntKind.i64.wrap (((j + 1 : Nat) : Int) - 1) = (j : Int) := by rw [IntWalk.i64_in _ (by omega)]; omega
          have e8 : decide (((j + 1 : Nat) : Int) > 0) = true := decide_eq_true (by omega)
          have e8' : decide ((j : Int) + 1 > 0) = true := decide_eq_true (by omega)
          have hTr : Tab wr := HT.out.of hin
          have HIN := Lib.hid hin; clear hin
          subst hA
          have cx := hc
          have cy := hc'
          clear hc hc' hA' fx fy hx64 hy64
          obtain ⟨k, hke⟩ : ∃ k, k = j + 1 := ⟨_, rfl⟩
          cases hlb : lowB y x
          · rw [hlb] at hge
            have NO := Lib.hid (isB_no hlt (by unfold okAt; rw [← hx, Nat.add_sub_cancel, ← hy, hlb, decide_eq_false (Nat.succ_ne_zero j)]; simp))
            clear hlb hx hy h0
            rw [← hke] at hlt cx e8 e9 ⊢
            have hjl : j < es.length := by omega
            have hk0 : 0 < k := by omega
            have HKE := Lib.hid hke; clear hke e8'
            go_wp2
            refine wp_region_schG (fun W => W.cell? (ad.add k) = some (.float .f64 x) ∧ W.cell? (ad.add j) = some (.float .f64 y) ∧ ad.block < W.heap.size ∧ Tab W ∧ Within w W) 22 (.firm 0 (.firm 1 (.firm 2 (.firm 3 (.firm 4 (.firm 5 (.firm 6 (.firm 7 (.firm 8 (.firm 9 (.firm 10 (.firm 11 (.firm 12 (.firm 13 (.firm 15 (.firm 16 (.firm 17 (.firm 18 (.one 14 (.one 19 (.firm 20 (.firm 21 (.one 22 .nil))))))))))))))))))))))) (by kernel_rfl) (by kernel_rfl) ⟨cx, cy, hblk, hTr, HIN.out⟩ ?_
            rintro w0 ⟨cx, cy, hblk, hTw, hw0⟩
            try simp only [Act.put, List.setIfInBounds_toArray, List.set_cons_zero, List.set_cons_succ]
            apply sch_firm rfl rfl (by repeat (first | with_reducible exact Within.refl _ | with_reducible assumption | with_reducible refine Within.alloc ?_ _ | with_reducible refine Within.drew ?_ | with_reducible refine Within.drewN ?_ _ | with_reducible refine Within.setCell ?_ (by first | (simp; done) | (simp; omega)) _ | with_reducible refine Within.trans ?_ (by assumption)))
            · intro wq hq
              have hcq := hq.cells
              have gx := (hq.cell (p := ad.add k) (by rw [add_block]; exact hblk)).trans cx
              have gxb := Nat.lt_of_lt_of_le hblk hq.size
              have gy := (hq.cell (p := ad.add j) (by rw [add_block]; exact hblk)).trans cy
              clear hq
              go_simp
              first | rfl | (trace_state; fail)
            try simp only [Act.put, List.setIfInBounds_toArray, List.set_cons_zero, List.set_cons_succ]
            apply sch_firm rfl rfl (by repeat (first | with_reducible exact Within.refl _ | with_reducible assumption | with_reducible refine Within.alloc ?_ _ | with_reducible refine Within.drew ?_ | with_reducible refine Within.drewN ?_ _ | with_reducible refine Within.setCell ?_ (by first | (simp; done) | (simp; omega)) _ | with_reducible refine Within.trans ?_ (by assumption)))
            · intro wq hq
              have hcq := hq.cells
              have gx := (hq.cell (p := ad.add k) (by rw [add_block]; exact hblk)).trans cx
              have gxb := Nat.lt_of_lt_of_le hblk hq.size
              have gy := (hq.cell (p := ad.add j) (by rw [add_block]; exact hblk)).trans cy
              clear hq
              go_simp
              first | rfl | (trace_state; fail)
            try simp only [Act.put, List.setIfInBounds_toArray, List.set_cons_zero, List.set_cons_succ]
            apply sch_firm rfl rfl (by repeat (first | with_reducible exact Within.refl _ | with_reducible assumption | with_reducible refine Within.alloc ?_ _ | with_reducible refine Within.drew ?_ | with_reducible refine Within.drewN ?_ _ | with_reducible refine Within.setCell ?_ (by first | (simp; done) | (simp; omega)) _ | with_reducible refine Within.trans ?_ (by assumption)))
            · intro wq hq
              have hcq := hq.cells
              have gx := (hq.cell (p := ad.add k) (by rw [add_block]; exact hblk)).trans cx
              have gxb := Nat.lt_of_lt_of_le hblk hq.size
              have gy := (hq.cell (p := ad.add j) (by rw [add_block]; exact hblk)).trans cy
              clear hq
              go_simp
              first | rfl | (trace_state; fail)
            try simp only [Act.put, List.setIfInBounds_toArray, List.set_cons_zero, List.set_cons_succ]
            apply sch_firm rfl rfl (by repeat (first | with_reducible exact Within.refl _ | with_reducible assumption | with_reducible refine Within.alloc ?_ _ | with_reducible refine Within.drew ?_ | with_reducible refine Within.drewN ?_ _ | with_reducible refine Within.setCell ?_ (by first | (simp; done) | (simp; omega)) _ | with_reducible refine Within.trans ?_ (by assumption)))
            · intro wq hq
              have hcq := hq.cells
              have gx := (hq.cell (p := ad.add k) (by rw [add_block]; exact hblk)).trans cx
              have gxb := Nat.lt_of_lt_of_le hblk hq.size
              have gy := (hq.cell (p := ad.add j) (by rw [add_block]; exact hblk)).trans cy
              clear hq
              go_simp
              first | rfl | (trace_state; fail)
            try simp only [Act.put, List.setIfInBounds_toArray, List.set_cons_zero, List.set_cons_succ]
            apply sch_firm rfl rfl (by repeat (first | with_reducible exact Within.refl _ | with_reducible assumption | with_reducible refine Within.alloc ?_ _ | with_reducible refine Within.drew ?_ | with_reducible refine Within.drewN ?_ _ | with_reducible refine Within.setCell ?_ (by first | (simp; done) | (simp; omega)) _ | with_reducible refine Within.trans ?_ (by assumption)))
            · intro wq hq
              have hcq := hq.cells
              have gx := (hq.cell (p := ad.add k) (by rw [add_block]; exact hblk)).trans cx
              have gxb := Nat.lt_of_lt_of_le hblk hq.size
              have gy := (hq.cell (p := ad.add j) (by rw [add_block]; exact hblk)).trans cy
              clear hq
              go_simp
              first | rfl | (trace_state; fail)
            try simp only [Act.put, List.setIfInBounds_toArray, List.set_cons_zero, List.set_cons_succ]
            apply sch_firm rfl rfl (by repeat (first | with_reducible exact Within.refl _ | with_reducible assumption | with_reducible refine Within.alloc ?_ _ | with_reducible refine Within.drew ?_ | with_reducible refine Within.drewN ?_ _ | with_reducible refine Within.setCell ?_ (by first | (simp; done) | (simp; omega)) _ | with_reducible refine Within.trans ?_ (by assumption)))
            · intro wq hq
              have hcq := hq.cells
              have gx := (hq.cell (p := ad.add k) (by rw [add_block]; exact hblk)).trans cx
              have gxb := Nat.lt_of_lt_of_le hblk hq.size
              have gy := (hq.cell (p := ad.add j) (by rw [add_block]; exact hblk)).trans cy
              clear hq
              go_simp
              first | rfl | (trace_state; fail)
            try simp only [Act.put, List.setIfInBounds_toArray, List.set_cons_zero, List.set_cons_succ]
            apply sch_want rfl (by first | rfl | decide | (simp [Region.wanted, yielded]; done) | (simp [Region.wanted, yielded]; assumption)) (by repeat (first | with_reducible exact Within.refl _ | with_reducible assumption | with_reducible refine Within.alloc ?_ _ | with_reducible refine Within.drew ?_ | with_reducible refine Within.drewN ?_ _ | with_reducible refine Within.setCell ?_ (by first | (simp; done) | (simp; omega)) _ | with_reducible refine Within.trans ?_ (by assumption)))
            · intro wq hq
              have hcq := hq.cells
              have gx := (hq.cell (p := ad.add k) (by rw [add_block]; exact hblk)).trans cx
              have gxb := Nat.lt_of_lt_of_le hblk hq.size
              have gy := (hq.cell (p := ad.add j) (by rw [add_block]; exact hblk)).trans cy
              clear hq
              go_simp
              first | rfl | (trace_state; fail)
            try simp only [Act.put, List.setIfInBounds_toArray, List.set_cons_zero, List.set_cons_succ]
            apply sch_want rfl (by first | rfl | decide | (simp [Region.wanted, yielded]; done) | (simp [Region.wanted, yielded]; assumption)) (by repeat (first | with_reducible exact Within.refl _ | with_reducible assumption | with_reducible refine Within.alloc ?_ _ | with_reducible refine Within.drew ?_ | with_reducible refine Within.drewN ?_ _ | with_reducible refine Within.setCell ?_ (by first | (simp; done) | (simp; omega)) _ | with_reducible refine Within.trans ?_ (by assumption)))
            · intro wq hq
              have hcq := hq.cells
              have gx := (hq.cell (p := ad.add k) (by rw [add_block]; exact hblk)).trans cx
              have gxb := Nat.lt_of_lt_of_le hblk hq.size
              have gy := (hq.cell (p := ad.add j) (by rw [add_block]; exact hblk)).trans cy
              clear hq
              go_simp
              first | rfl | (trace_state; fail)
            try simp only [Act.put, List.setIfInBounds_toArray, List.set_cons_zero, List.set_cons_succ]
            apply sch_want rfl (by first | rfl | decide | (simp [Region.wanted, yielded]; done) | (simp [Region.wanted, yielded]; assumption)) (by repeat (first | with_reducible exact Within.refl _ | with_reducible assumption | with_reducible refine Within.alloc ?_ _ | with_reducible refine Within.drew ?_ | with_reducible refine Within.drewN ?_ _ | with_reducible refine Within.setCell ?_ (by first | (simp; done) | (simp; omega)) _ | with_reducible refine Within.trans ?_ (by assumption)))
            · intro wq hq
              have hcq := hq.cells
              have gx := (hq.cell (p := ad.add k) (by rw [add_block]; exact hblk)).trans cx
              have gxb := Nat.lt_of_lt_of_le hblk hq.size
              have gy := (hq.cell (p := ad.add j) (by rw [add_block]; exact hblk)).trans cy
              clear hq
              go_simp
              first | rfl | (trace_state; fail)
            try simp only [Act.put, List.setIfInBounds_toArray, List.set_cons_zero, List.set_cons_succ]
            apply sch_want rfl (by first | rfl | decide | (simp [Region.wanted, yielded]; done) | (simp [Region.wanted, yielded]; assumption)) (by repeat (first | with_reducible exact Within.refl _ | with_reducible assumption | with_reducible refine Within.alloc ?_ _ | with_reducible refine Within.drew ?_ | with_reducible refine Within.drewN ?_ _ | with_reducible refine Within.setCell ?_ (by first | (simp; done) | (simp; omega)) _ | with_reducible refine Within.trans ?_ (by assumption)))
            · intro wq hq
              have hcq := hq.cells
              have gx := (hq.cell (p := ad.add k) (by rw [add_block]; exact hblk)).trans cx
              have gxb := Nat.lt_of_lt_of_le hblk hq.size
              have gy := (hq.cell (p := ad.add j) (by rw [add_block]; exact hblk)).trans cy
              clear hq
              go_simp
              first | rfl | (trace_state; fail)
            try simp only [Act.put, List.setIfInBounds_toArray, List.set_cons_zero, List.set_cons_succ]
            apply sch_want rfl (by first | rfl | decide | (simp [Region.wanted, yielded]; done) | (simp [Region.wanted, yielded]; assumption)) (by repeat (first | with_reducible exact Within.refl _ | with_reducible assumption | with_reducible refine Within.alloc ?_ _ | with_reducible refine Within.drew ?_ | with_reducible refine Within.drewN ?_ _ | with_reducible refine Within.setCell ?_ (by first | (simp; done) | (simp; omega)) _ | with_reducible refine Within.trans ?_ (by assumption)))
            · intro wq hq
              have hcq := hq.cells
              have gx := (hq.cell (p := ad.add k) (by rw [add_block]; exact hblk)).trans cx
              have gxb := Nat.lt_of_lt_of_le hblk hq.size
              have gy := (hq.cell (p := ad.add j) (by rw [add_block]; exact hblk)).trans cy
              clear hq
              go_simp
              first | rfl | (trace_state; fail)
            try simp only [Act.put, List.setIfInBounds_toArray, List.set_cons_zero, List.set_cons_succ]
            apply sch_want rfl (by first | rfl | decide | (simp [Region.wanted, yielded]; done) | (simp [Region.wanted, yielded]; assumption)) (by repeat (first | with_reducible exact Within.refl _ | with_reducible assumption | with_reducible refine Within.alloc ?_ _ | with_reducible refine Within.drew ?_ | with_reducible refine Within.drewN ?_ _ | with_reducible refine Within.setCell ?_ (by first | (simp; done) | (simp; omega)) _ | with_reducible refine Within.trans ?_ (by assumption)))
            · intro wq hq
              have hcq := hq.cells
              have gx := (hq.cell (p := ad.add k) (by rw [add_block]; exact hblk)).trans cx
              have gxb := Nat.lt_of_lt_of_le hblk hq.size
              have gy := (hq.cell (p := ad.add j) (by rw [add_block]; exact hblk)).trans cy
              clear hq
              go_simp
              first | rfl | (trace_state; fail)
            try simp only [Act.put, List.setIfInBounds_toArray, List.set_cons_zero, List.set_cons_succ]
            apply sch_want rfl (by first | rfl | decide | (simp [Region.wanted, yielded]; done) | (simp [Region.wanted, yielded]; assumption)) (by repeat (first | with_reducible exact Within.refl _ | with_reducible assumption | with_reducible refine Within.alloc ?_ _ | with_reducible refine Within.drew ?_ | with_reducible refine Within.drewN ?_ _ | with_reducible refine Within.setCell ?_ (by first | (simp; done) | (simp; omega)) _ | with_reducible refine Within.trans ?_ (by assumption)))
            · intro wq hq
              have hcq := hq.cells
              have gx := (hq.cell (p := ad.add k) (by rw [add_block]; exact hblk)).trans cx
              have gxb := Nat.lt_of_lt_of_le hblk hq.size
              have gy := (hq.cell (p := ad.add j) (by rw [add_block]; exact hblk)).trans cy
              clear hq
              go_simp
              first | rfl | (trace_state; fail)
            try simp only [Act.put, List.setIfInBounds_toArray, List.set_cons_zero, List.set_cons_succ]
            apply sch_want rfl (by first | rfl | decide | (simp [Region.wanted, yielded]; done) | (simp [Region.wanted, yielded]; assumption)) (by repeat (first | with_reducible exact Within.refl _ | with_reducible assumption | with_reducible refine Within.alloc ?_ _ | with_reducible refine Within.drew ?_ | with_reducible refine Within.drewN ?_ _ | with_reducible refine Within.setCell ?_ (by first | (simp; done) | (simp; omega)) _ | with_reducible refine Within.trans ?_ (by assumption)))
            · intro wq hq
              have hcq := hq.cells
              have gx := (hq.cell (p := ad.add k) (by rw [add_block]; exact hblk)).trans cx
              have gxb := Nat.lt_of_lt_of_le hblk hq.size
              have gy := (hq.cell (p := ad.add j) (by rw [add_block]; exact hblk)).trans cy
              clear hq
              go_simp
              first | rfl | (trace_state; fail)
            try simp only [Act.put, List.setIfInBounds_toArray, List.set_cons_zero, List.set_cons_succ]
            apply sch_want rfl (by first | rfl | decide | (simp [Region.wanted, yielded]; done) | (simp [Region.wanted, yielded]; assumption)) (by repeat (first | with_reducible exact Within.refl _ | with_reducible assumption | with_reducible refine Within.alloc ?_ _ | with_reducible refine Within.drew ?_ | with_reducible refine Within.drewN ?_ _ | with_reducible refine Within.setCell ?_ (by first | (simp; done) | (simp; omega)) _ | with_reducible refine Within.trans ?_ (by assumption)))
            · intro wq hq
              have hcq := hq.cells
              have gx := (hq.cell (p := ad.add k) (by rw [add_block]; exact hblk)).trans cx
              have gxb := Nat.lt_of_lt_of_le hblk hq.size
              have gy := (hq.cell (p := ad.add j) (by rw [add_block]; exact hblk)).trans cy
              clear hq
              go_simp
              first | rfl | (trace_state; fail)
            try simp only [Act.put, List.setIfInBounds_toArray, List.set_cons_zero, List.set_cons_succ]
            apply sch_want rfl (by first | rfl | decide | (simp [Region.wanted, yielded]; done) | (simp [Region.wanted, yielded]; assumption)) (by repeat (first | with_reducible exact Within.refl _ | with_reducible assumption | with_reducible refine Within.alloc ?_ _ | with_reducible refine Within.drew ?_ | with_reducible refine Within.drewN ?_ _ | with_reducible refine Within.setCell ?_ (by first | (simp; done) | (simp; omega)) _ | with_reducible refine Within.trans ?_ (by assumption)))
            · intro wq hq
              have hcq := hq.cells
              have gx := (hq.cell (p := ad.add k) (by rw [add_block]; exact hblk)).trans cx
              have gxb := Nat.lt_of_lt_of_le hblk hq.size
              have gy := (hq.cell (p := ad.add j) (by rw [add_block]; exact hblk)).trans cy
              clear hq
              go_simp
              first | rfl | (trace_state; fail)
            try simp only [Act.put, List.setIfInBounds_toArray, List.set_cons_zero, List.set_cons_succ]
            apply sch_want rfl (by first | rfl | decide | (simp [Region.wanted, yielded]; done) | (simp [Region.wanted, yielded]; assumption)) (by repeat (first | with_reducible exact Within.refl _ | with_reducible assumption | with_reducible refine Within.alloc ?_ _ | with_reducible refine Within.drew ?_ | with_reducible refine Within.drewN ?_ _ | with_reducible refine Within.setCell ?_ (by first | (simp; done) | (simp; omega)) _ | with_reducible refine Within.trans ?_ (by assumption)))
            · intro wq hq
              have hcq := hq.cells
              have gx := (hq.cell (p := ad.add k) (by rw [add_block]; exact hblk)).trans cx
              have gxb := Nat.lt_of_lt_of_le hblk hq.size
              have gy := (hq.cell (p := ad.add j) (by rw [add_block]; exact hblk)).trans cy
              clear hq
              go_simp
              first | rfl | (trace_state; fail)
            try simp only [Act.put, List.setIfInBounds_toArray, List.set_cons_zero, List.set_cons_succ]
            apply sch_want rfl (by first | rfl | decide | (simp [Region.wanted, yielded]; done) | (simp [Region.wanted, yielded]; assumption)) (by repeat (first | with_reducible exact Within.refl _ | with_reducible assumption | with_reducible refine Within.alloc ?_ _ | with_reducible refine Within.drew ?_ | with_reducible refine Within.drewN ?_ _ | with_reducible refine Within.setCell ?_ (by first | (simp; done) | (simp; omega)) _ | with_reducible refine Within.trans ?_ (by assumption)))
            · intro wq hq
              have hcq := hq.cells
              have gx := (hq.cell (p := ad.add k) (by rw [add_block]; exact hblk)).trans cx
              have gxb := Nat.lt_of_lt_of_le hblk hq.size
              have gy := (hq.cell (p := ad.add j) (by rw [add_block]; exact hblk)).trans cy
              clear hq
              go_simp
              first | rfl | (trace_state; fail)
            try simp only [Act.put, List.setIfInBounds_toArray, List.set_cons_zero, List.set_cons_succ]
            refine sch_one_want rfl (by first | rfl | decide | (simp [Region.wanted, yielded]; done) | (simp [Region.wanted, yielded]; assumption)) (fun K hK => ?_)
            go_simp
            refine (CA.out _).mono ?_; rintro e5 w5 ⟨rfl, rfl⟩
            refine hK _ _ (fun _ => (by repeat (first | with_reducible exact Within.refl _ | with_reducible assumption | with_reducible refine Within.alloc ?_ _ | with_reducible refine Within.drew ?_ | with_reducible refine Within.drewN ?_ _ | with_reducible refine Within.setCell ?_ (by first | (simp; done) | (simp; omega)) _ | with_reducible refine Within.trans ?_ (by assumption)))) ?_
            clear hK K
            try simp only [Act.put, List.setIfInBounds_toArray, List.set_cons_zero, List.set_cons_succ]
            refine sch_one_want rfl (by first | rfl | decide | (simp [Region.wanted, yielded]; done) | (simp [Region.wanted, yielded]; assumption)) (fun K hK => ?_)
            go_simp
            refine (CL.out _ (hTw.of (by repeat (first | with_reducible exact Within.refl _ | with_reducible assumption | with_reducible refine Within.drew ?_ | with_reducible refine Within.trans ?_ (by assumption))))).mono ?_; rintro e6 w6 ⟨rfl, hb6⟩
            refine hK _ _ (fun _ => (by repeat (first | with_reducible exact Within.refl _ | with_reducible assumption | with_reducible refine Within.alloc ?_ _ | with_reducible refine Within.drew ?_ | with_reducible refine Within.drewN ?_ _ | with_reducible refine Within.setCell ?_ (by first | (simp; done) | (simp; omega)) _ | with_reducible refine Within.trans ?_ (by assumption)))) ?_
            clear hK K
            try simp only [Act.put, List.setIfInBounds_toArray, List.set_cons_zero, List.set_cons_succ]
            apply sch_want rfl (by first | rfl | decide | (simp [Region.wanted, yielded]; done) | (simp [Region.wanted, yielded]; assumption)) (by repeat (first | with_reducible exact Within.refl _ | with_reducible assumption | with_reducible refine Within.alloc ?_ _ | with_reducible refine Within.drew ?_ | with_reducible refine Within.drewN ?_ _ | with_reducible refine Within.setCell ?_ (by first | (simp; done) | (simp; omega)) _ | with_reducible refine Within.trans ?_ (by assumption)))
            · intro wq hq
              have hcq := hq.cells
              have gx := (hq.cell (p := ad.add k) (by rw [add_block]; exact hblk)).trans cx
              have gxb := Nat.lt_of_lt_of_le hblk hq.size
              have gy := (hq.cell (p := ad.add j) (by rw [add_block]; exact hblk)).trans cy
              clear hq
              go_simp
              first | rfl | (trace_state; fail)
            try simp only [Act.put, List.setIfInBounds_toArray, List.set_cons_zero, List.set_cons_succ]
            apply sch_want rfl (by first | rfl | decide | (simp [Region.wanted, yielded]; done) | (simp [Region.wanted, yielded]; assumption)) (by repeat (first | with_reducible exact Within.refl _ | with_reducible assumption | with_reducible refine Within.alloc ?_ _ | with_reducible refine Within.drew ?_ | with_reducible refine Within.drewN ?_ _ | with_reducible refine Within.setCell ?_ (by first | (simp; done) | (simp; omega)) _ | with_reducible refine Within.trans ?_ (by assumption)))
            · intro wq hq
              have hcq := hq.cells
              have gx := (hq.cell (p := ad.add k) (by rw [add_block]; exact hblk)).trans cx
              have gxb := Nat.lt_of_lt_of_le hblk hq.size
              have gy := (hq.cell (p := ad.add j) (by rw [add_block]; exact hblk)).trans cy
              clear hq
              go_simp
              first | rfl | (trace_state; fail)
            try simp only [Act.put, List.setIfInBounds_toArray, List.set_cons_zero, List.set_cons_succ]
            refine sch_one rfl rfl (fun K hK => ?_)
            go_simp
            refine hK _ _ (fun h => absurd h (by decide)) ?_
            clear hK K
            try simp only [Act.put, List.setIfInBounds_toArray, List.set_cons_zero, List.set_cons_succ]
            refine sch_nil ?_
            go_wp2
            go_ret
            exact ⟨(by rw [NO.out]; first | done | rfl), hw0.drew.trans hb6⟩
          · rw [hlb] at hge
            have OKN := Lib.hid (show ∀ i, i < j + 1 + 1 → okAt es i = true by
              intro i hi
              rcases Nat.lt_or_ge i (j + 1) with h | h
              · exact HOK.out i h
              · have : i = j + 1 := by omega
                subst this
                unfold okAt
                rw [← hx, Nat.add_sub_cancel, ← hy, hlb, decide_eq_true (by omega)]; simp)
            clear hlb hx hy h0
            rw [← hke] at hlt cx e8 e9 OKN ⊢
            have hjl : j < es.length := by omega
            have hk0 : 0 < k := by omega
            have HKE := Lib.hid hke; clear hke e8'
            go_wp2
            refine wp_region_schG (fun W => W.cell? (ad.add k) = some (.float .f64 x) ∧ W.cell? (ad.add j) = some (.float .f64 y) ∧ ad.block < W.heap.size ∧ Tab W ∧ Within w W) 22 (.firm 0 (.firm 1 (.firm 2 (.firm 3 (.firm 4 (.firm 5 (.firm 6 (.firm 7 (.firm 8 (.firm 9 (.firm 10 (.firm 11 (.firm 12 (.firm 13 (.firm 15 (.firm 16 (.firm 17 (.firm 18 (.one 14 (.one 19 (.firm 20 (.firm 21 (.one 22 .nil))))))))))))))))))))))) (by kernel_rfl) (by kernel_rfl) ⟨cx, cy, hblk, hTr, HIN.out⟩ ?_
            rintro w0 ⟨cx, cy, hblk, hTw, hw0⟩
            try simp only [Act.put, List.setIfInBounds_toArray, List.set_cons_zero, List.set_cons_succ]
            apply sch_firm rfl rfl (by repeat (first | with_reducible exact Within.refl _ | with_reducible assumption | with_reducible refine Within.alloc ?_ _ | with_reducible refine Within.drew ?_ | with_reducible refine Within.drewN ?_ _ | with_reducible refine Within.setCell ?_ (by first | (simp; done) | (simp; omega)) _ | with_reducible refine Within.trans ?_ (by assumption)))
            · intro wq hq
              have hcq := hq.cells
              have gx := (hq.cell (p := ad.add k) (by rw [add_block]; exact hblk)).trans cx
              have gxb := Nat.lt_of_lt_of_le hblk hq.size
              have gy := (hq.cell (p := ad.add j) (by rw [add_block]; exact hblk)).trans cy
              clear hq
              go_simp
              first | rfl | (trace_state; fail)
            try simp only [Act.put, List.setIfInBounds_toArray, List.set_cons_zero, List.set_cons_succ]
            apply sch_firm rfl rfl (by repeat (first | with_reducible exact Within.refl _ | with_reducible assumption | with_reducible refine Within.alloc ?_ _ | with_reducible refine Within.drew ?_ | with_reducible refine Within.drewN ?_ _ | with_reducible refine Within.setCell ?_ (by first | (simp; done) | (simp; omega)) _ | with_reducible refine Within.trans ?_ (by assumption)))
            · intro wq hq
              have hcq := hq.cells
              have gx := (hq.cell (p := ad.add k) (by rw [add_block]; exact hblk)).trans cx
              have gxb := Nat.lt_of_lt_of_le hblk hq.size
              have gy := (hq.cell (p := ad.add j) (by rw [add_block]; exact hblk)).trans cy
              clear hq
              go_simp
              first | rfl | (trace_state; fail)
            try simp only [Act.put, List.setIfInBounds_toArray, List.set_cons_zero, List.set_cons_succ]
            apply sch_firm rfl rfl (by repeat (first | with_reducible exact Within.refl _ | with_reducible assumption | with_reducible refine Within.alloc ?_ _ | with_reducible refine Within.drew ?_ | with_reducible refine Within.drewN ?_ _ | with_reducible refine Within.setCell ?_ (by first | (simp; done) | (simp; omega)) _ | with_reducible refine Within.trans ?_ (by assumption)))
            · intro wq hq
              have hcq := hq.cells
              have gx := (hq.cell (p := ad.add k) (by rw [add_block]; exact hblk)).trans cx
              have gxb := Nat.lt_of_lt_of_le hblk hq.size
              have gy := (hq.cell (p := ad.add j) (by rw [add_block]; exact hblk)).trans cy
              clear hq
              go_simp
              first | rfl | (trace_state; fail)
            try simp only [Act.put, List.setIfInBounds_toArray, List.set_cons_zero, List.set_cons_succ]
            apply sch_firm rfl rfl (by repeat (first | with_reducible exact Within.refl _ | with_reducible assumption | with_reducible refine Within.alloc ?_ _ | with_reducible refine Within.drew ?_ | with_reducible refine Within.drewN ?_ _ | with_reducible refine Within.setCell ?_ (by first | (simp; done) | (simp; omega)) _ | with_reducible refine Within.trans ?_ (by assumption)))
            · intro wq hq
              have hcq := hq.cells
              have gx := (hq.cell (p := ad.add k) (by rw [add_block]; exact hblk)).trans cx
              have gxb := Nat.lt_of_lt_of_le hblk hq.size
              have gy := (hq.cell (p := ad.add j) (by rw [add_block]; exact hblk)).trans cy
              clear hq
              go_simp
              first | rfl | (trace_state; fail)
            try simp only [Act.put, List.setIfInBounds_toArray, List.set_cons_zero, List.set_cons_succ]
            apply sch_firm rfl rfl (by repeat (first | with_reducible exact Within.refl _ | with_reducible assumption | with_reducible refine Within.alloc ?_ _ | with_reducible refine Within.drew ?_ | with_reducible refine Within.drewN ?_ _ | with_reducible refine Within.setCell ?_ (by first | (simp; done) | (simp; omega)) _ | with_reducible refine Within.trans ?_ (by assumption)))
            · intro wq hq
              have hcq := hq.cells
              have gx := (hq.cell (p := ad.add k) (by rw [add_block]; exact hblk)).trans cx
              have gxb := Nat.lt_of_lt_of_le hblk hq.size
              have gy := (hq.cell (p := ad.add j) (by rw [add_block]; exact hblk)).trans cy
              clear hq
              go_simp
              first | rfl | (trace_state; fail)
            try simp only [Act.put, List.setIfInBounds_toArray, List.set_cons_zero, List.set_cons_succ]
            apply sch_firm rfl rfl (by repeat (first | with_reducible exact Within.refl _ | with_reducible assumption | with_reducible refine Within.alloc ?_ _ | with_reducible refine Within.drew ?_ | with_reducible refine Within.drewN ?_ _ | with_reducible refine Within.setCell ?_ (by first | (simp; done) | (simp; omega)) _ | with_reducible refine Within.trans ?_ (by assumption)))
            · intro wq hq
              have hcq := hq.cells
              have gx := (hq.cell (p := ad.add k) (by rw [add_block]; exact hblk)).trans cx
              have gxb := Nat.lt_of_lt_of_le hblk hq.size
              have gy := (hq.cell (p := ad.add j) (by rw [add_block]; exact hblk)).trans cy
              clear hq
              go_simp
              first | rfl | (trace_state; fail)
            try simp only [Act.put, List.setIfInBounds_toArray, List.set_cons_zero, List.set_cons_succ]
            apply sch_want rfl (by first | rfl | decide | (simp [Region.wanted, yielded]; done) | (simp [Region.wanted, yielded]; assumption)) (by repeat (first | with_reducible exact Within.refl _ | with_reducible assumption | with_reducible refine Within.alloc ?_ _ | with_reducible refine Within.drew ?_ | with_reducible refine Within.drewN ?_ _ | with_reducible refine Within.setCell ?_ (by first | (simp; done) | (simp; omega)) _ | with_reducible refine Within.trans ?_ (by assumption)))
            · intro wq hq
              have hcq := hq.cells
              have gx := (hq.cell (p := ad.add k) (by rw [add_block]; exact hblk)).trans cx
              have gxb := Nat.lt_of_lt_of_le hblk hq.size
              have gy := (hq.cell (p := ad.add j) (by rw [add_block]; exact hblk)).trans cy
              clear hq
              go_simp
              first | rfl | (trace_state; fail)
            try simp only [Act.put, List.setIfInBounds_toArray, List.set_cons_zero, List.set_cons_succ]
            apply sch_want rfl (by first | rfl | decide | (simp [Region.wanted, yielded]; done) | (simp [Region.wanted, yielded]; assumption)) (by repeat (first | with_reducible exact Within.refl _ | with_reducible assumption | with_reducible refine Within.alloc ?_ _ | with_reducible refine Within.drew ?_ | with_reducible refine Within.drewN ?_ _ | with_reducible refine Within.setCell ?_ (by first | (simp; done) | (simp; omega)) _ | with_reducible refine Within.trans ?_ (by assumption)))
            · intro wq hq
              have hcq := hq.cells
              have gx := (hq.cell (p := ad.add k) (by rw [add_block]; exact hblk)).trans cx
              have gxb := Nat.lt_of_lt_of_le hblk hq.size
              have gy := (hq.cell (p := ad.add j) (by rw [add_block]; exact hblk)).trans cy
              clear hq
              go_simp
              first | rfl | (trace_state; fail)
            try simp only [Act.put, List.setIfInBounds_toArray, List.set_cons_zero, List.set_cons_succ]
            apply sch_want rfl (by first | rfl | decide | (simp [Region.wanted, yielded]; done) | (simp [Region.wanted, yielded]; assumption)) (by repeat (first | with_reducible exact Within.refl _ | with_reducible assumption | with_reducible refine Within.alloc ?_ _ | with_reducible refine Within.drew ?_ | with_reducible refine Within.drewN ?_ _ | with_reducible refine Within.setCell ?_ (by first | (simp; done) | (simp; omega)) _ | with_reducible refine Within.trans ?_ (by assumption)))
            · intro wq hq
              have hcq := hq.cells
              have gx := (hq.cell (p := ad.add k) (by rw [add_block]; exact hblk)).trans cx
              have gxb := Nat.lt_of_lt_of_le hblk hq.size
              have gy := (hq.cell (p := ad.add j) (by rw [add_block]; exact hblk)).trans cy
              clear hq
              go_simp
              first | rfl | (trace_state; fail)
            try simp only [Act.put, List.setIfInBounds_toArray, List.set_cons_zero, List.set_cons_succ]
            apply sch_want rfl (by first | rfl | decide | (simp [Region.wanted, yielded]; done) | (simp [Region.wanted, yielded]; assumption)) (by repeat (first | with_reducible exact Within.refl _ | with_reducible assumption | with_reducible refine Within.alloc ?_ _ | with_reducible refine Within.drew ?_ | with_reducible refine Within.drewN ?_ _ | with_reducible refine Within.setCell ?_ (by first | (simp; done) | (simp; omega)) _ | with_reducible refine Within.trans ?_ (by assumption)))
            · intro wq hq
              have hcq := hq.cells
              have gx := (hq.cell (p := ad.add k) (by rw [add_block]; exact hblk)).trans cx
              have gxb := Nat.lt_of_lt_of_le hblk hq.size
              have gy := (hq.cell (p := ad.add j) (by rw [add_block]; exact hblk)).trans cy
              clear hq
              go_simp
              first | rfl | (trace_state; fail)
            try simp only [Act.put, List.setIfInBounds_toArray, List.set_cons_zero, List.set_cons_succ]
            apply sch_want rfl (by first | rfl | decide | (simp [Region.wanted, yielded]; done) | (simp [Region.wanted, yielded]; assumption)) (by repeat (first | with_reducible exact Within.refl _ | with_reducible assumption | with_reducible refine Within.alloc ?_ _ | with_reducible refine Within.drew ?_ | with_reducible refine Within.drewN ?_ _ | with_reducible refine Within.setCell ?_ (by first | (simp; done) | (simp; omega)) _ | with_reducible refine Within.trans ?_ (by assumption)))
            · intro wq hq
              have hcq := hq.cells
              have gx := (hq.cell (p := ad.add k) (by rw [add_block]; exact hblk)).trans cx
              have gxb := Nat.lt_of_lt_of_le hblk hq.size
              have gy := (hq.cell (p := ad.add j) (by rw [add_block]; exact hblk)).trans cy
              clear hq
              go_simp
              first | rfl | (trace_state; fail)
            try simp only [Act.put, List.setIfInBounds_toArray, List.set_cons_zero, List.set_cons_succ]
            apply sch_want rfl (by first | rfl | decide | (simp [Region.wanted, yielded]; done) | (simp [Region.wanted, yielded]; assumption)) (by repeat (first | with_reducible exact Within.refl _ | with_reducible assumption | with_reducible refine Within.alloc ?_ _ | with_reducible refine Within.drew ?_ | with_reducible refine Within.drewN ?_ _ | with_reducible refine Within.setCell ?_ (by first | (simp; done) | (simp; omega)) _ | with_reducible refine Within.trans ?_ (by assumption)))
            · intro wq hq
              have hcq := hq.cells
              have gx := (hq.cell (p := ad.add k) (by rw [add_block]; exact hblk)).trans cx
              have gxb := Nat.lt_of_lt_of_le hblk hq.size
              have gy := (hq.cell (p := ad.add j) (by rw [add_block]; exact hblk)).trans cy
              clear hq
              go_simp
              first | rfl | (trace_state; fail)
            try simp only [Act.put, List.setIfInBounds_toArray, List.set_cons_zero, List.set_cons_succ]
            apply sch_want rfl (by first | rfl | decide | (simp [Region.wanted, yielded]; done) | (simp [Region.wanted, yielded]; assumption)) (by repeat (first | with_reducible exact Within.refl _ | with_reducible assumption | with_reducible refine Within.alloc ?_ _ | with_reducible refine Within.drew ?_ | with_reducible refine Within.drewN ?_ _ | with_reducible refine Within.setCell ?_ (by first | (simp; done) | (simp; omega)) _ | with_reducible refine Within.trans ?_ (by assumption)))
            · intro wq hq
              have hcq := hq.cells
              have gx := (hq.cell (p := ad.add k) (by rw [add_block]; exact hblk)).trans cx
              have gxb := Nat.lt_of_lt_of_le hblk hq.size
              have gy := (hq.cell (p := ad.add j) (by rw [add_block]; exact hblk)).trans cy
              clear hq
              go_simp
              first | rfl | (trace_state; fail)
            try simp only [Act.put, List.setIfInBounds_toArray, List.set_cons_zero, List.set_cons_succ]
            apply sch_want rfl (by first | rfl | decide | (simp [Region.wanted, yielded]; done) | (simp [Region.wanted, yielded]; assumption)) (by repeat (first | with_reducible exact Within.refl _ | with_reducible assumption | with_reducible refine Within.alloc ?_ _ | with_reducible refine Within.drew ?_ | with_reducible refine Within.drewN ?_ _ | with_reducible refine Within.setCell ?_ (by first | (simp; done) | (simp; omega)) _ | with_reducible refine Within.trans ?_ (by assumption)))
            · intro wq hq
              have hcq := hq.cells
              have gx := (hq.cell (p := ad.add k) (by rw [add_block]; exact hblk)).trans cx
              have gxb := Nat.lt_of_lt_of_le hblk hq.size
              have gy := (hq.cell (p := ad.add j) (by rw [add_block]; exact hblk)).trans cy
              clear hq
              go_simp
              first | rfl | (trace_state; fail)
            try simp only [Act.put, List.setIfInBounds_toArray, List.set_cons_zero, List.set_cons_succ]
            apply sch_want rfl (by first | rfl | decide | (simp [Region.wanted, yielded]; done) | (simp [Region.wanted, yielded]; assumption)) (by repeat (first | with_reducible exact Within.refl _ | with_reducible assumption | with_reducible refine Within.alloc ?_ _ | with_reducible refine Within.drew ?_ | with_reducible refine Within.drewN ?_ _ | with_reducible refine Within.setCell ?_ (by first | (simp; done) | (simp; omega)) _ | with_reducible refine Within.trans ?_ (by assumption)))
            · intro wq hq
              have hcq := hq.cells
              have gx := (hq.cell (p := ad.add k) (by rw [add_block]; exact hblk)).trans cx
              have gxb := Nat.lt_of_lt_of_le hblk hq.size
              have gy := (hq.cell (p := ad.add j) (by rw [add_block]; exact hblk)).trans cy
              clear hq
              go_simp
              first | rfl | (trace_state; fail)
            try simp only [Act.put, List.setIfInBounds_toArray, List.set_cons_zero, List.set_cons_succ]
            apply sch_want rfl (by first | rfl | decide | (simp [Region.wanted, yielded]; done) | (simp [Region.wanted, yielded]; assumption)) (by repeat (first | with_reducible exact Within.refl _ | with_reducible assumption | with_reducible refine Within.alloc ?_ _ | with_reducible refine Within.drew ?_ | with_reducible refine Within.drewN ?_ _ | with_reducible refine Within.setCell ?_ (by first | (simp; done) | (simp; omega)) _ | with_reducible refine Within.trans ?_ (by assumption)))
            · intro wq hq
              have hcq := hq.cells
              have gx := (hq.cell (p := ad.add k) (by rw [add_block]; exact hblk)).trans cx
              have gxb := Nat.lt_of_lt_of_le hblk hq.size
              have gy := (hq.cell (p := ad.add j) (by rw [add_block]; exact hblk)).trans cy
              clear hq
              go_simp
              first | rfl | (trace_state; fail)
            try simp only [Act.put, List.setIfInBounds_toArray, List.set_cons_zero, List.set_cons_succ]
            apply sch_want rfl (by first | rfl | decide | (simp [Region.wanted, yielded]; done) | (simp [Region.wanted, yielded]; assumption)) (by repeat (first | with_reducible exact Within.refl _ | with_reducible assumption | with_reducible refine Within.alloc ?_ _ | with_reducible refine Within.drew ?_ | with_reducible refine Within.drewN ?_ _ | with_reducible refine Within.setCell ?_ (by first | (simp; done) | (simp; omega)) _ | with_reducible refine Within.trans ?_ (by assumption)))
            · intro wq hq
              have hcq := hq.cells
              have gx := (hq.cell (p := ad.add k) (by rw [add_block]; exact hblk)).trans cx
              have gxb := Nat.lt_of_lt_of_le hblk hq.size
              have gy := (hq.cell (p := ad.add j) (by rw [add_block]; exact hblk)).trans cy
              clear hq
              go_simp
              first | rfl | (trace_state; fail)
            try simp only [Act.put, List.setIfInBounds_toArray, List.set_cons_zero, List.set_cons_succ]
            apply sch_want rfl (by first | rfl | decide | (simp [Region.wanted, yielded]; done) | (simp [Region.wanted, yielded]; assumption)) (by repeat (first | with_reducible exact Within.refl _ | with_reducible assumption | with_reducible refine Within.alloc ?_ _ | with_reducible refine Within.drew ?_ | with_reducible refine Within.drewN ?_ _ | with_reducible refine Within.setCell ?_ (by first | (simp; done) | (simp; omega)) _ | with_reducible refine Within.trans ?_ (by assumption)))
            · intro wq hq
              have hcq := hq.cells
              have gx := (hq.cell (p := ad.add k) (by rw [add_block]; exact hblk)).trans cx
              have gxb := Nat.lt_of_lt_of_le hblk hq.size
              have gy := (hq.cell (p := ad.add j) (by rw [add_block]; exact hblk)).trans cy
              clear hq
              go_simp
              first | rfl | (trace_state; fail)
            try simp only [Act.put, List.setIfInBounds_toArray, List.set_cons_zero, List.set_cons_succ]
            refine sch_one_want rfl (by first | rfl | decide | (simp [Region.wanted, yielded]; done) | (simp [Region.wanted, yielded]; assumption)) (fun K hK => ?_)
            go_simp
            refine (CA.out _).mono ?_; rintro e5 w5 ⟨rfl, rfl⟩
            refine hK _ _ (fun _ => (by repeat (first | with_reducible exact Within.refl _ | with_reducible assumption | with_reducible refine Within.alloc ?_ _ | with_reducible refine Within.drew ?_ | with_reducible refine Within.drewN ?_ _ | with_reducible refine Within.setCell ?_ (by first | (simp; done) | (simp; omega)) _ | with_reducible refine Within.trans ?_ (by assumption)))) ?_
            clear hK K
            try simp only [Act.put, List.setIfInBounds_toArray, List.set_cons_zero, List.set_cons_succ]
            refine sch_one_want rfl (by first | rfl | decide | (simp [Region.wanted, yielded]; done) | (simp [Region.wanted, yielded]; assumption)) (fun K hK => ?_)
            go_simp
            refine (CL.out _ (hTw.of (by repeat (first | with_reducible exact Within.refl _ | with_reducible assumption | with_reducible refine Within.drew ?_ | with_reducible refine Within.trans ?_ (by assumption))))).mono ?_; rintro e6 w6 ⟨rfl, hb6⟩
            refine hK _ _ (fun _ => (by repeat (first | with_reducible exact Within.refl _ | with_reducible assumption | with_reducible refine Within.alloc ?_ _ | with_reducible refine Within.drew ?_ | with_reducible refine Within.drewN ?_ _ | with_reducible refine Within.setCell ?_ (by first | (simp; done) | (simp; omega)) _ | with_reducible refine Within.trans ?_ (by assumption)))) ?_
            clear hK K
            try simp only [Act.put, List.setIfInBounds_toArray, List.set_cons_zero, List.set_cons_succ]
            apply sch_want rfl (by first | rfl | decide | (simp [Region.wanted, yielded]; done) | (simp [Region.wanted, yielded]; assumption)) (by repeat (first | with_reducible exact Within.refl _ | with_reducible assumption | with_reducible refine Within.alloc ?_ _ | with_reducible refine Within.drew ?_ | with_reducible refine Within.drewN ?_ _ | with_reducible refine Within.setCell ?_ (by first | (simp; done) | (simp; omega)) _ | with_reducible refine Within.trans ?_ (by assumption)))
            · intro wq hq
              have hcq := hq.cells
              have gx := (hq.cell (p := ad.add k) (by rw [add_block]; exact hblk)).trans cx
              have gxb := Nat.lt_of_lt_of_le hblk hq.size
              have gy := (hq.cell (p := ad.add j) (by rw [add_block]; exact hblk)).trans cy
              clear hq
              go_simp
              first | rfl | (trace_state; fail)
            try simp only [Act.put, List.setIfInBounds_toArray, List.set_cons_zero, List.set_cons_succ]
            apply sch_want rfl (by first | rfl | decide | (simp [Region.wanted, yielded]; done) | (simp [Region.wanted, yielded]; assumption)) (by repeat (first | with_reducible exact Within.refl _ | with_reducible assumption | with_reducible refine Within.alloc ?_ _ | with_reducible refine Within.drew ?_ | with_reducible refine Within.drewN ?_ _ | with_reducible refine Within.setCell ?_ (by first | (simp; done) | (simp; omega)) _ | with_reducible refine Within.trans ?_ (by assumption)))
            · intro wq hq
              have hcq := hq.cells
              have gx := (hq.cell (p := ad.add k) (by rw [add_block]; exact hblk)).trans cx
              have gxb := Nat.lt_of_lt_of_le hblk hq.size
              have gy := (hq.cell (p := ad.add j) (by rw [add_block]; exact hblk)).trans cy
              clear hq
              go_simp
              first | rfl | (trace_state; fail)
            try simp only [Act.put, List.setIfInBounds_toArray, List.set_cons_zero, List.set_cons_succ]
            refine sch_one rfl rfl (fun K hK => ?_)
            go_simp
            refine hK _ _ (fun h => absurd h (by decide)) ?_
            clear hK K
            try simp only [Act.put, List.setIfInBounds_toArray, List.set_cons_zero, List.set_cons_succ]
            refine sch_nil ?_
            have hw4 : Within w w6 := hw0.drew.trans hb6
            clear hw0
            go_wp2
            go_roundw
            case rel => exact ⟨k + 1, hlt, by go_num, OKN.out, hw4⟩
            case measure => simp [intOf]; omega
    · obtain rfl : k = es.length := by omega
      have YES := Lib.hid (isB_yes H64.out HF.out HOK.out)
      go_wp2
      go_ret
      exact ⟨(by rw [YES.out]; first | done | rfl), hin⟩
theorem eis_any (A : Option Addr) (c : Nat) (es : List Nat) (hw : Words64 es) (hl : es.length ≤ 1152921504606846976) (w : World) (hT : Tab w) (hr : SlAt w A (f64v es)) : Calls Tryz.prog 17 #[.slice A es.length c] w fun e w' => e = .returned (.bool (isB es)) ∧ Within w w' := by
  by_cases h64 : es.length ≤ 64
  · cases hf : es.all finD
    · rw [isB_fin hf]; exact eis_fin A c es hw hl h64 hf w hT hr
    · exact eis_main A c es hw hl h64 hf w hT hr
  · rw [isB_long (by omega)]; exact eis_long A c es hw hl (by omega) w hT hr
end Go.Proofs.YtjmaggfddinbkaaGreatDoor
end

section
namespace Go.Proofs.YtjmaggfddinbkaaGreatDoor
open Go.RowKit
def chkE (l : List Nat) : Int := if l.all finD = false then 4 else if 64 < l.length then 2 else if isB l = false then 40 else 0
theorem chkE_zero {l : List Nat} : chkE l = 0 ↔ isB l = true := by
  unfold chkE
  constructor
  · intro h
    split at h
    · cases h
    · split at h
      · cases h
      · split at h
        · cases h
        · rename_i h3; simpa using h3
  · intro h
    have h1 : l.all finD = true := by
      unfold isB at h; simp only [Bool.and_eq_true] at h; exact h.1.2
    have h2 : l.length ≤ 64 := by
      unfold isB at h; simp only [Bool.and_eq_true, decide_eq_true_eq] at h; exact h.1.1
    rw [h1, if_neg (by decide), if_neg (by omega), h, if_neg (by decide)]
theorem chk_len {l : List Nat} (h : chkE l = 0) : l.length ≤ 64 := by
  have := chkE_zero.1 h
  unfold isB at this; simp only [Bool.and_eq_true, decide_eq_true_eq] at this; exact this.1.1
def growL (es : List Nat) (b : Nat) : List (Option Nat) := if chkE es = 0 then (if finW b then (growSt (es.map fv) (fv b)).out else []) else []
def growEr (es : List Nat) (b : Nat) : Int := if chkE es = 0 then (if finW b then (growSt (es.map fv) (fv b)).err else 4) else chkE es
theorem ResF.none_ {W w : World} (er : Int) (h : Within W w) : ResF W [] er (.returned (.tuple #[.slice none 0 0, .int .i64 er])) w := ⟨_, [], rfl, OwnF.nil_ _ _, (fun x hx => by cases hx), rfl, h⟩
set_option maxRecDepth 100000 in
set_option maxHeartbeats 600000 in
theorem echeck_fin (A : Option Addr) (c : Nat) (es : List Nat) (hw : Words64 es) (hl : es.length ≤ 1152921504606846976) (hf : es.all finD = false) (w : World) (hT : Tab w) (hr : SlAt w A (f64v es)) : Calls Tryz.prog 65 #[.slice A es.length c] w fun e w' => e = .returned (.int .i64 (4)) ∧ Within w w' := by
  have CF := Lib.hid (Finite_any A c es hw (by omega) w hr)
  rw [hf] at CF
  clear hw hr hT hf
  go_enter Tryz.func65, Tryz.ntmps65
  go_wp2_with fail
  refine CF.out.mono ?_; rintro e1 w1 ⟨rfl, hb1⟩
  go_wp2
  go_ret
  exact ⟨rfl, hb1⟩
set_option maxRecDepth 100000 in
set_option maxHeartbeats 600000 in
theorem echeck_long (A : Option Addr) (c : Nat) (es : List Nat) (hw : Words64 es) (hl : es.length ≤ 1152921504606846976) (hf : es.all finD = true) (h64 : 64 < es.length) (w : World) (hT : Tab w) (hr : SlAt w A (f64v es)) : Calls Tryz.prog 65 #[.slice A es.length c] w fun e w' => e = .returned (.int .i64 (2)) ∧ Within w w' := by
  have CF := Lib.hid (Finite_any A c es hw (by omega) w hr)
  rw [hf] at CF
  have d : decide ((es.length : Int) > 64) = true := decide_eq_true (by omega)
  clear hw hr hT hf
  go_enter Tryz.func65, Tryz.ntmps65
  go_wp2_with fail
  refine CF.out.mono ?_; rintro e1 w1 ⟨rfl, hb1⟩
  go_wp2
  go_ret
  exact ⟨rfl, hb1⟩
set_option maxRecDepth 100000 in
set_option maxHeartbeats 600000 in
theorem echeck_is (A : Option Addr) (c : Nat) (es : List Nat) (hw : Words64 es) (hl : es.length ≤ 1152921504606846976) (hf : es.all finD = true) (h64 : es.length ≤ 64) (v : Int) (b : Bool) (hb : isB es = b) (hv : (if b then 0 else 40) = v) (w : World) (hT : Tab w) (hr : SlAt w A (f64v es)) : Calls Tryz.prog 65 #[.slice A es.length c] w fun e w' => e = .returned (.int .i64 (v)) ∧ Within w w' := by
  have CF := Lib.hid (Finite_any A c es hw (by omega) w hr)
  rw [hf] at CF
  have d : decide ((es.length : Int) > 64) = false := decide_eq_false (by omega)
  have CI := Lib.hid (fun w hT hr => eis_any A c es hw (by omega) w hT hr)
  rw [hb] at CI
  have HT := Lib.hid hT; have HR := Lib.hid hr; clear hw hr hT hf hb
  cases b
  · obtain rfl : v = 40 := by simpa using hv.symm
    clear hv
    go_enter Tryz.func65, Tryz.ntmps65
    go_wp2_with fail
    refine CF.out.mono ?_; rintro e1 w1 ⟨rfl, hb1⟩
    go_wp2_with fail
    refine (CI.out _ (HT.out.of hb1) (HR.out.of hb1)).mono ?_; rintro e2 w2 ⟨rfl, hb2⟩
    go_wp2
    go_ret
    exact ⟨rfl, hb1.trans hb2⟩
  · obtain rfl : v = 0 := by simpa using hv.symm
    clear hv
    go_enter Tryz.func65, Tryz.ntmps65
    go_wp2_with fail
    refine CF.out.mono ?_; rintro e1 w1 ⟨rfl, hb1⟩
    go_wp2_with fail
    refine (CI.out _ (HT.out.of hb1) (HR.out.of hb1)).mono ?_; rintro e2 w2 ⟨rfl, hb2⟩
    go_wp2
    go_ret
    exact ⟨rfl, hb1.trans hb2⟩
theorem echeck_any (A : Option Addr) (c : Nat) (es : List Nat) (hw : Words64 es) (hl : es.length ≤ 1152921504606846976) (w : World) (hT : Tab w) (hr : SlAt w A (f64v es)) : Calls Tryz.prog 65 #[.slice A es.length c] w fun e w' => e = .returned (.int .i64 (chkE es)) ∧ Within w w' := by
  unfold chkE
  cases hf : es.all finD
  · rw [if_pos rfl]; exact echeck_fin A c es hw hl hf w hT hr
  · rw [if_neg (by decide)]
    by_cases h64 : 64 < es.length
    · rw [if_pos h64]; exact echeck_long A c es hw hl hf h64 w hT hr
    · rw [if_neg h64]
      refine echeck_is A c es hw hl hf (by omega) _ (isB es) rfl ?_ w hT hr
      cases isB es <;> rfl
set_option maxRecDepth 100000 in
set_option maxHeartbeats 600000 in
theorem eGrow_any (A : Option Addr) (c : Nat) (es : List Nat) (hw : Words64 es) (hl : es.length ≤ 1152921504606846976) (b : Nat) (hb : b < 18446744073709551616) (w : World) (hT : Tab w) (hr : SlAt w A (f64v es)) : Calls Tryz.prog 13 #[.slice A es.length c, .float .f64 b] w (ResF w (growL es b) (growEr es b)) := by
  have CK := Lib.hid (echeck_any A c es hw hl w hT hr)
  have HR := Lib.hid hr; clear hr hT
  unfold growL growEr
  by_cases h0 : chkE es = 0
  · rw [if_pos h0, if_pos h0]
    have CG := Lib.hid (fun w hr => egrow_any A c es b hw (Nat.le_trans (chk_len h0) (by decide)) hb w hr)
    rw [h0] at CK
    clear h0 hw hb
    have CN := Lib.hid (fun w => efinite_any b w)
    cases hf : finW b
    · rw [if_neg (by decide), if_neg (by decide)]
      rw [hf] at CN
      clear hf
      go_enter Tryz.func13, Tryz.ntmps13
      go_wp2_with fail
      refine CK.out.mono ?_; rintro e1 w1 ⟨rfl, hb1⟩
      go_wp2_with fail
      refine (CN.out _).mono ?_; rintro e2 w2 ⟨rfl, hb2⟩
      go_wp2
      go_ret2
      exact ResF.none_ 4 (hb1.trans hb2)
    · rw [if_pos rfl, if_pos rfl]
      rw [hf] at CN
      clear hf
      obtain ⟨go, hgo⟩ : ∃ go, go = (growSt (es.map fv) (fv b)).out := ⟨_, rfl⟩
      obtain ⟨ge, hge⟩ : ∃ ge, ge = (growSt (es.map fv) (fv b)).err := ⟨_, rfl⟩
      rw [← hgo, ← hge] at CG ⊢
      clear hgo hge
      go_enter Tryz.func13, Tryz.ntmps13
      go_wp2_with fail
      refine CK.out.mono ?_; rintro e1 w1 ⟨rfl, hb1⟩
      go_wp2_with fail
      refine (CN.out _).mono ?_; rintro e2 w2 ⟨rfl, hb2⟩
      go_wp2_with fail
      refine (CG.out _ (HR.out.of (hb1.trans hb2))).mono ?_; rintro e3 w3 ⟨sv, ls, rfl, ho, hws, hm, hb3⟩
      go_wp2
      go_ret2
      exact ⟨sv, ls, rfl, OwnF.less ho (hb1.trans hb2).size, hws, hm, (hb1.trans hb2).trans hb3⟩
  · clear hw hb
    rw [if_neg h0, if_neg h0]
    obtain ⟨v, hv⟩ : ∃ v, v = chkE es := ⟨_, rfl⟩
    rw [← hv] at CK h0 ⊢
    have hne : (v != 0) = true := by simpa using h0
    clear hv h0
    go_enter Tryz.func13, Tryz.ntmps13
    go_wp2_with fail
    refine CK.out.mono ?_; rintro e1 w1 ⟨rfl, hb1⟩
    go_wp2
    go_ret2
    exact ResF.none_ v hb1
end Go.Proofs.YtjmaggfddinbkaaGreatDoor
end

section
namespace Go.Proofs.YtjmaggfddinbkaaGreatDoor
open Go.RowKit
theorem fv_some {x v : Nat} (h : fv x = some v) : x = v := by
  unfold fv at h
  split at h
  · cases h
  · injection h
theorem map_fv_two {ls : List Nat} {a b : Nat} (h : ls.map fv = [some a, some b]) : ls = [a, b] := by
  rcases ls with _ | ⟨x, _ | ⟨y, _ | ⟨z, l⟩⟩⟩
  · simp at h
  · simp at h
  · simp only [List.map_cons, List.map_nil, List.cons.injEq, and_true] at h
    rw [fv_some h.1, fv_some h.2]
  · simp at h
set_option maxRecDepth 100000 in
set_option maxHeartbeats 600000 in
theorem ef_any (a : Nat) (w : World) : Calls Tryz.prog 14 #[.int .u64 a] w fun e w' => e = .returned (.float .f64 a) ∧ w = w' := by
  go_enter Tryz.func14, Tryz.ntmps14
  go_wp2
  go_ret
  exact ⟨rfl, rfl⟩
theorem t_twoS : twoS (fv 4845873199050653696) (fv 4607182418800017408) = some 4845873199050653696 := by decide +kernel
theorem t_twoL : twoL (fv 4845873199050653696) (fv 4607182418800017408) = some 4607182418800017408 := by decide +kernel
theorem t_halH : halH (fv 4728779608772575232) = some 4728779608739020800 := by decide +kernel
theorem t_halL : halL (fv 4728779608772575232) = some 4607182418800017408 := by decide +kernel
theorem t_proP : proP (fv 4728779608772575232) (fv 4728779608772575232) = some 4850376798745133056 := by decide +kernel
theorem t_proE : proE (fv 4728779608772575232) (fv 4728779608772575232) = some 4607182418800017408 := by decide +kernel
theorem t_growL : growL [4607182418800017408] 4877398396442247168 = [some 4607182418800017408, some 4877398396442247168] := by decide +kernel
theorem t_growE : growEr [4607182418800017408] 4877398396442247168 = 0 := by decide +kernel
theorem t_is : isB [4607182418800017408, 4877398396442247168] = true := by decide +kernel
theorem t_det : P64.detI 4607182418800017408 4611686018427387904 4613937818241073152 4616189618054758400 = -1 := by decide +kernel
theorem t_fin : [4607182418800017408, 4611686018427387904, 4613937818241073152, 4616189618054758400].all finD = true := by decide +kernel
set_option maxRecDepth 100000 in
set_option maxHeartbeats 1600000 in
theorem awake_true (w : World) (hT : Tab w) : Calls Tryz.prog 21 #[] w fun e w' => e = .returned (.bool true) ∧ Within w w' := by
  have C1 := Lib.hid (fun w => Etwo_any 4845873199050653696 4607182418800017408 (by decide) (by decide) w)
  have C2 := Lib.hid (fun w => Esplit_any 4728779608772575232 (by decide) w)
  have C3 := Lib.hid (fun w => Eprod_any 4728779608772575232 4728779608772575232 (by decide) (by decide) w)
  have C4 := Lib.hid (fun A w hT hr => eGrow_any A 1 [4607182418800017408] (by intro x hx; simp at hx; omega) (by decide) 4877398396442247168 (by decide) w hT hr)
  have C5 := Lib.hid (fun w hT => P64.Edet 4607182418800017408 4611686018427387904 4613937818241073152 4616189618054758400 (by decide) (by decide) (by decide) (by decide) w hT)
  have C6 := Lib.hid (fun A c w hT hr => eis_any A c [4607182418800017408, 4877398396442247168] (by intro x hx; simp at hx; omega) (by decide) w hT hr)
  rw [t_twoS, t_twoL] at C1
  rw [t_halH, t_halL] at C2
  rw [t_proP, t_proE] at C3
  rw [t_growL, t_growE] at C4
  rw [t_det, t_fin, if_pos rfl, if_pos rfl] at C5
  rw [t_is] at C6
  have HT := Lib.hid hT; clear hT
  have c47_47 : (FloatKind.f64.format.order 4845873199050653696 4845873199050653696 == some .eq) = true := by decide +kernel
  have c72_72 : (FloatKind.f64.format.order 4607182418800017408 4607182418800017408 == some .eq) = true := by decide +kernel
  have c19_19 : (FloatKind.f64.format.order 4728779608739020800 4728779608739020800 == some .eq) = true := by decide +kernel
  have c59_59 : (FloatKind.f64.format.order 4850376798745133056 4850376798745133056 == some .eq) = true := by decide +kernel
  go_enter Tryz.func21, Tryz.ntmps21
  go_wp2_with fail
  refine (C1.out _).mono ?_; rintro e1 w1 ⟨s1, l1, rfl, _, _, k1, k2, hb1⟩
  obtain rfl := fv_some k1
  obtain rfl := fv_some k2
  clear k1 k2
  rw [show canonD 4845873199050653696 = 4845873199050653696 by decide, show canonD 4607182418800017408 = 4607182418800017408 by decide]
  go_wp2_with fail
  refine (C2.out _).mono ?_; rintro e2 w2 ⟨s2, l2, rfl, _, _, k1, k2, hb2⟩
  obtain rfl := fv_some k1
  obtain rfl := fv_some k2
  clear k1 k2
  rw [show canonD 4728779608739020800 = 4728779608739020800 by decide, show canonD 4607182418800017408 = 4607182418800017408 by decide]
  go_wp2_with fail
  refine (C3.out _).mono ?_; rintro e3 w3 ⟨s3, l3, rfl, _, _, k1, k2, hb3⟩
  obtain rfl := fv_some k1
  obtain rfl := fv_some k2
  clear k1 k2
  rw [show canonD 4850376798745133056 = 4850376798745133056 by decide, show canonD 4607182418800017408 = 4607182418800017408 by decide]
  have h3 := (hb1.trans hb2).trans hb3
  clear hb1 hb2 hb3
  have HS := Lib.hid (P64.slAt_made w3 [4607182418800017408] _ 29 rfl)
  go_wp2_with fail
  refine (C4.out _ _ (HT.out.of (h3.alloc _)) HS.out).mono ?_; rintro e4 w4 ⟨sv, ls, rfl, ho, _, hm, hb4⟩
  obtain rfl := map_fv_two hm
  clear hm
  have h4 := (h3.alloc _).trans hb4
  clear hb4 h3
  obtain ⟨A, c, rfl, hc, hs, _⟩ := ho.form
  have HSL := Lib.hid hs
  clear ho
  go_wp2_with fail
  refine (C5.out _ (HT.out.of h4)).mono ?_; rintro e5 w5 ⟨rfl, hb5⟩
  have h5 := h4.trans hb5
  have HS5 := Lib.hid (hs.of hb5)
  clear hs HSL
  obtain ⟨ad, rfl, hblk, hcell⟩ := HS5.out.at (k := 0) (by decide)
  have hc0 : w5.cell? ad = some (.float .f64 4607182418800017408) := hcell
  clear hcell
  have C6' := Lib.hid (fun w hT hr => C6.out (some ad) c w hT hr)
  clear C6
  go_wp2_with fail
  refine (C6'.out _ (HT.out.of h5) HS5.out).mono ?_; rintro e6 w6 ⟨rfl, hb6⟩
  go_wp2
  go_ret
  exact ⟨rfl, h5.trans hb6⟩
end Go.Proofs.YtjmaggfddinbkaaGreatDoor
end

section
namespace Go.Proofs.YtjmaggfddinbkaaGreatDoor
open Go.RowKit
def ExR (W : World) (n E : Int) (e : Ending) (w' : World) : Prop := ∃ h, e = .returned (.agg #[.pointer (some ⟨h, 0, none⟩), .int .i64 E]) ∧ IntB w' h n ∧ W.heap.size ≤ h ∧ Within W w'
theorem IntB.setEx0 {w : World} {g n : Nat} {v : Int} {t : TypeId} {cs : Array Value} (h : IntB w g v) (hn : w.heap[n]? = some (.cells cs t (0, 0))) (ht : t ≠ 133) (hne : g ≠ n) {w' : World} (hb : ∀ k, k ≠ n → w'.heap[k]? = w.heap[k]?) : IntB w' g v := by
  obtain ⟨A, c, hb', hc, hr⟩ := h
  refine ⟨A, c, (hb _ hne).trans hb', hc, hr.of_block fun k m f hk => hb _ ?_⟩
  rintro rfl
  obtain ⟨cs', h1, _⟩ := hk
  rw [hn] at h1
  injection h1 with h1
  injection h1 with _ h2
  exact ht h2
theorem ex_set {w : World} {b h : Nat} {n E : Int} {x y : Value} (hb : w.heap[b]? = some (.cells #[x, y] 53 (0, 0))) (hI : IntB w h n) (hne : h ≠ b) :
    ((w.setCell ⟨b, 0, none⟩ (.pointer (some ⟨h, 0, none⟩))).setCell ⟨b, 1, none⟩ (.int .i64 E)).cell? ⟨b, 0, none⟩ = some (.pointer (some ⟨h, 0, none⟩)) ∧ ((w.setCell ⟨b, 0, none⟩ (.pointer (some ⟨h, 0, none⟩))).setCell ⟨b, 1, none⟩ (.int .i64 E)).cell? ⟨b, 1, none⟩ = some (.int .i64 E) ∧ IntB ((w.setCell ⟨b, 0, none⟩ (.pointer (some ⟨h, 0, none⟩))).setCell ⟨b, 1, none⟩ (.int .i64 E)) h n := by
  have h1 : ((w.setCell ⟨b, 0, none⟩ (.pointer (some ⟨h, 0, none⟩))).setCell ⟨b, 1, none⟩ (.int .i64 E)).heap[b]? = some (.cells #[.pointer (some ⟨h, 0, none⟩), .int .i64 E] 53 (0, 0)) := by
    simp [World.setCell, Array.getElem?_modify, hb]
  refine ⟨by unfold World.cell?; rw [h1]; rfl, by unfold World.cell?; rw [h1]; rfl, hI.setEx0 hb (by decide) hne (fun k hk => ?_)⟩
  rw [Below.heap_setCell _ _ _ _ hk, Below.heap_setCell _ _ _ _ hk]
theorem ex_cells {w : World} {b : Nat} (hb : w.heap[b]? = some (.cells #[.pointer none, .int .i64 0] 53 (0, 0))) : w.cell? ⟨b, 0, none⟩ = some (.pointer none) ∧ w.cell? ⟨b, 1, none⟩ = some (.int .i64 0) ∧ ∀ o, w.frozen? ⟨b, o, none⟩ = false :=
  ⟨by unfold World.cell?; rw [hb]; rfl, by unfold World.cell?; rw [hb]; rfl, fun o => by simp [World.frozen?, hb]⟩
set_option maxRecDepth 100000 in
set_option maxHeartbeats 600000 in
theorem Xneg (n E : Int) (g : Nat) (hl : (dg n.natAbs).length ≤ 1000) (w : World) (hI : IntB w g n) : Calls Tryz.prog 50 #[.agg #[.pointer (some ⟨g, 0, none⟩), .int .i64 E]] w (ExR w (-n) E) := by
  have HL := Lib.hid hl; clear hl
  go_enter Tryz.func50, Tryz.ntmps50
  go_wp2
  refine wp_region_schG (fun W => W.cell? ⟨w.heap.size, 0, none⟩ = some (.pointer (some ⟨g, 0, none⟩)) ∧ W.cell? ⟨w.heap.size, 1, none⟩ = some (.int .i64 E) ∧ W.heap[w.heap.size + 1]? = some (.cells #[.pointer none, .int .i64 0] 53 (0, 0)) ∧ IntB W g n ∧ w.heap.size < W.heap.size ∧ w.heap.size + 1 < W.heap.size ∧ Within w W) 7 (.firm 1 (.firm 2 (.firm 4 (.firm 5 (.one 0 (.one 3 (.firm 6 (.one 7 .nil)))))))) (by kernel_rfl) (by kernel_rfl) ⟨by go_simp, by go_simp, (by have := heap_alloc_new (w.alloc (.cells #[.pointer (some ⟨g, 0, none⟩), .int .i64 E] 53)) (.cells #[.pointer none, .int .i64 0] 53); simpa using this), (IntB.of hI (by repeat (first | with_reducible exact Within.refl _ | with_reducible assumption | with_reducible refine Within.alloc ?_ _ | with_reducible refine Within.drew ?_ | with_reducible refine Within.drewN ?_ _ | with_reducible refine Within.setCell ?_ (by first | (simp; done) | (simp; omega)) _ | with_reducible refine Within.trans ?_ (by assumption)))), by first | (simp; done) | (simp; omega), by first | (simp; done) | (simp; omega), (by repeat (first | with_reducible exact Within.refl _ | with_reducible assumption | with_reducible refine Within.alloc ?_ _ | with_reducible refine Within.drew ?_ | with_reducible refine Within.drewN ?_ _ | with_reducible refine Within.setCell ?_ (by first | (simp; done) | (simp; omega)) _ | with_reducible refine Within.trans ?_ (by assumption)))⟩ ?_
  rintro w0 ⟨c0, c1, hz, hI, l0, l1, hw0⟩
  try simp only [Act.put, List.setIfInBounds_toArray, List.set_cons_zero, List.set_cons_succ]
  apply sch_firm rfl rfl (by repeat (first | with_reducible exact Within.refl _ | with_reducible assumption | with_reducible refine Within.alloc ?_ _ | with_reducible refine Within.drew ?_ | with_reducible refine Within.drewN ?_ _ | with_reducible refine Within.setCell ?_ (by first | (simp; done) | (simp; omega)) _ | with_reducible refine Within.trans ?_ (by assumption)))
  · intro wq hq
    have hcq := hq.cells
    clear hq
    go_simp
    first | rfl | (trace_state; fail)
  try simp only [Act.put, List.setIfInBounds_toArray, List.set_cons_zero, List.set_cons_succ]
  apply sch_firm rfl rfl (by repeat (first | with_reducible exact Within.refl _ | with_reducible assumption | with_reducible refine Within.alloc ?_ _ | with_reducible refine Within.drew ?_ | with_reducible refine Within.drewN ?_ _ | with_reducible refine Within.setCell ?_ (by first | (simp; done) | (simp; omega)) _ | with_reducible refine Within.trans ?_ (by assumption)))
  · intro wq hq
    have hcq := hq.cells
    clear hq
    go_simp
    first | rfl | (trace_state; fail)
  try simp only [Act.put, List.setIfInBounds_toArray, List.set_cons_zero, List.set_cons_succ]
  apply sch_firm rfl rfl (by repeat (first | with_reducible exact Within.refl _ | with_reducible assumption | with_reducible refine Within.alloc ?_ _ | with_reducible refine Within.drew ?_ | with_reducible refine Within.drewN ?_ _ | with_reducible refine Within.setCell ?_ (by first | (simp; done) | (simp; omega)) _ | with_reducible refine Within.trans ?_ (by assumption)))
  · intro wq hq
    have hcq := hq.cells
    clear hq
    go_simp
    first | rfl | (trace_state; fail)
  try simp only [Act.put, List.setIfInBounds_toArray, List.set_cons_zero, List.set_cons_succ]
  apply sch_firm rfl rfl (by repeat (first | with_reducible exact Within.refl _ | with_reducible assumption | with_reducible refine Within.alloc ?_ _ | with_reducible refine Within.drew ?_ | with_reducible refine Within.drewN ?_ _ | with_reducible refine Within.setCell ?_ (by first | (simp; done) | (simp; omega)) _ | with_reducible refine Within.trans ?_ (by assumption)))
  · intro wq hq
    have hcq := hq.cells
    clear hq
    go_simp
    first | rfl | (trace_state; fail)
  try simp only [Act.put, List.setIfInBounds_toArray, List.set_cons_zero, List.set_cons_succ]
  refine sch_one rfl rfl (fun K hK => ?_)
  go_simp
  refine hK _ _ (fun _ => (by repeat (first | with_reducible exact Within.refl _ | with_reducible assumption | with_reducible refine Within.alloc ?_ _ | with_reducible refine Within.drew ?_ | with_reducible refine Within.drewN ?_ _ | with_reducible refine Within.setCell ?_ (by first | (simp; done) | (simp; omega)) _ | with_reducible refine Within.trans ?_ (by assumption)))) ?_
  clear hK K
  try simp only [Act.put, List.setIfInBounds_toArray, List.set_cons_zero, List.set_cons_succ]
  refine sch_one rfl rfl (fun K hK => ?_)
  go_simp
  refine (Bneg _ g n (Nat.le_trans HL.out (by decide)) _ (by exact (IntB.made w0).ty) (IntB.of hI (by repeat (first | with_reducible exact Within.refl _ | with_reducible assumption | with_reducible refine Within.alloc ?_ _ | with_reducible refine Within.drew ?_ | with_reducible refine Within.drewN ?_ _ | with_reducible refine Within.setCell ?_ (by first | (simp; done) | (simp; omega)) _ | with_reducible refine Within.trans ?_ (by assumption))))).mono ?_; rintro e5 w5 ⟨rfl, hJ, hG⟩
  have hv5 : Within w0 w5 := Within.grown (by repeat (first | with_reducible exact Within.refl _ | with_reducible assumption | with_reducible refine Within.alloc ?_ _ | with_reducible refine Within.drew ?_ | with_reducible refine Within.drewN ?_ _ | with_reducible refine Within.setCell ?_ (by first | (simp; done) | (simp; omega)) _ | with_reducible refine Within.trans ?_ (by assumption))) hG (by simp)
  have hz5 := (hv5.block _ l1).trans hz
  obtain ⟨y0, y1, yf⟩ := ex_cells hz5
  have yl := Nat.lt_of_lt_of_le l1 hv5.sizes
  refine hK _ _ (fun _ => (by repeat (first | with_reducible exact Within.refl _ | with_reducible assumption | with_reducible refine Within.alloc ?_ _ | with_reducible refine Within.drew ?_ | with_reducible refine Within.drewN ?_ _ | with_reducible refine Within.setCell ?_ (by first | (simp; done) | (simp; omega)) _ | with_reducible refine Within.trans ?_ (by assumption)))) ?_
  clear hK K
  try simp only [Act.put, List.setIfInBounds_toArray, List.set_cons_zero, List.set_cons_succ]
  apply sch_firm rfl rfl (by repeat (first | with_reducible exact Within.refl _ | with_reducible assumption | with_reducible refine Within.alloc ?_ _ | with_reducible refine Within.drew ?_ | with_reducible refine Within.drewN ?_ _ | with_reducible refine Within.setCell ?_ (by first | (simp; done) | (simp; omega)) _ | with_reducible refine Within.trans ?_ (by assumption)))
  · intro wq hq
    have hcq := hq.cells
    clear hq
    go_simp
    first | rfl | (trace_state; fail)
  try simp only [Act.put, List.setIfInBounds_toArray, List.set_cons_zero, List.set_cons_succ]
  refine sch_one rfl rfl (fun K hK => ?_)
  go_simp
  refine hK _ _ (fun h => absurd h (by decide)) ?_
  clear hK K
  try simp only [Act.put, List.setIfInBounds_toArray, List.set_cons_zero, List.set_cons_succ]
  refine sch_nil ?_
  obtain ⟨r0, r1, rI⟩ := ex_set (E := E) hz5 hJ (show w0.heap.size ≠ (w.heap.size + 1) by omega)
  have rl : (w.heap.size + 1) < w5.heap.size := by have := yl; omega
  go_wp2
  refine bodyPost_ret (v := .agg #[.pointer (some ⟨w0.heap.size, 0, none⟩), .int .i64 E]) (by simp [results, Tryz.results50, go_sem, r0, r1, rl]) rfl ⟨w0.heap.size, rfl, rI, hw0.sizes, ?_⟩
  exact ((hw0.trans hv5).setCell (by show _ ≤ (w.heap.size + 1); omega) _).setCell (by show _ ≤ (w.heap.size + 1); omega) _
set_option maxRecDepth 100000 in
set_option maxHeartbeats 600000 in
theorem Xmul (n1 n2 E1 E2 : Int) (g1 g2 : Nat) (hl1 : (dg n1.natAbs).length ≤ 1000) (hl2 : (dg n2.natAbs).length ≤ 1000) (hE1 : -100000 ≤ E1 ∧ E1 ≤ 100000) (hE2 : -100000 ≤ E2 ∧ E2 ≤ 100000) (w : World) (hI1 : IntB w g1 n1) (hI2 : IntB w g2 n2) : Calls Tryz.prog 49 #[.agg #[.pointer (some ⟨g1, 0, none⟩), .int .i64 E1], .agg #[.pointer (some ⟨g2, 0, none⟩), .int .i64 E2]] w (ExR w (n1 * n2) (E1 + E2)) := by
  have HL1 := Lib.hid hl1; have HL2 := Lib.hid hl2; clear hl1 hl2
  have gw : IntKind.i64.wrap (E1 + E2) = E1 + E2 := IntWalk.i64_in _ ⟨by omega, by omega⟩
  clear hE1 hE2
  go_enter Tryz.func49, Tryz.ntmps49
  go_wp2
  refine wp_region_schG (fun W => W.cell? ⟨w.heap.size, 0, none⟩ = some (.pointer (some ⟨g1, 0, none⟩)) ∧ W.cell? ⟨w.heap.size, 1, none⟩ = some (.int .i64 E1) ∧ W.cell? ⟨w.heap.size + 1, 0, none⟩ = some (.pointer (some ⟨g2, 0, none⟩)) ∧ W.cell? ⟨w.heap.size + 1, 1, none⟩ = some (.int .i64 E2) ∧ W.heap[w.heap.size + 2]? = some (.cells #[.pointer none, .int .i64 0] 53 (0, 0)) ∧ IntB W g1 n1 ∧ IntB W g2 n2 ∧ w.heap.size < W.heap.size ∧ w.heap.size + 1 < W.heap.size ∧ w.heap.size + 2 < W.heap.size ∧ Within w W) 12 (.firm 1 (.firm 2 (.firm 3 (.firm 4 (.firm 6 (.firm 7 (.firm 8 (.firm 9 (.firm 10 (.one 0 (.one 5 (.firm 11 (.one 12 .nil))))))))))))) (by kernel_rfl) (by kernel_rfl) ⟨by go_simp, by go_simp, by go_simp, by go_simp, (by have := heap_alloc_new ((w.alloc (.cells #[.pointer (some ⟨g1, 0, none⟩), .int .i64 E1] 53)).alloc (.cells #[.pointer (some ⟨g2, 0, none⟩), .int .i64 E2] 53)) (.cells #[.pointer none, .int .i64 0] 53); simpa using this), hI1.of (by repeat (first | with_reducible exact Within.refl _ | with_reducible assumption | with_reducible refine Within.alloc ?_ _ | with_reducible refine Within.drew ?_ | with_reducible refine Within.drewN ?_ _ | with_reducible refine Within.setCell ?_ (by first | (simp; done) | (simp; omega)) _ | with_reducible refine Within.trans ?_ (by assumption))), hI2.of (by repeat (first | with_reducible exact Within.refl _ | with_reducible assumption | with_reducible refine Within.alloc ?_ _ | with_reducible refine Within.drew ?_ | with_reducible refine Within.drewN ?_ _ | with_reducible refine Within.setCell ?_ (by first | (simp; done) | (simp; omega)) _ | with_reducible refine Within.trans ?_ (by assumption))), by first | (simp; done) | (simp; omega), by first | (simp; done) | (simp; omega), by first | (simp; done) | (simp; omega), (by repeat (first | with_reducible exact Within.refl _ | with_reducible assumption | with_reducible refine Within.alloc ?_ _ | with_reducible refine Within.drew ?_ | with_reducible refine Within.drewN ?_ _ | with_reducible refine Within.setCell ?_ (by first | (simp; done) | (simp; omega)) _ | with_reducible refine Within.trans ?_ (by assumption)))⟩ ?_
  rintro w0 ⟨c0, c1, d0, d1, hz, hI1, hI2, l0, l1, l2, hw0⟩
  try simp only [Act.put, List.setIfInBounds_toArray, List.set_cons_zero, List.set_cons_succ]
  apply sch_firm rfl rfl (by repeat (first | with_reducible exact Within.refl _ | with_reducible assumption | with_reducible refine Within.alloc ?_ _ | with_reducible refine Within.drew ?_ | with_reducible refine Within.drewN ?_ _ | with_reducible refine Within.setCell ?_ (by first | (simp; done) | (simp; omega)) _ | with_reducible refine Within.trans ?_ (by assumption)))
  · intro wq hq
    have hcq := hq.cells
    clear hq
    go_simp
    first | rfl | (trace_state; fail)
  try simp only [Act.put, List.setIfInBounds_toArray, List.set_cons_zero, List.set_cons_succ]
  apply sch_firm rfl rfl (by repeat (first | with_reducible exact Within.refl _ | with_reducible assumption | with_reducible refine Within.alloc ?_ _ | with_reducible refine Within.drew ?_ | with_reducible refine Within.drewN ?_ _ | with_reducible refine Within.setCell ?_ (by first | (simp; done) | (simp; omega)) _ | with_reducible refine Within.trans ?_ (by assumption)))
  · intro wq hq
    have hcq := hq.cells
    clear hq
    go_simp
    first | rfl | (trace_state; fail)
  try simp only [Act.put, List.setIfInBounds_toArray, List.set_cons_zero, List.set_cons_succ]
  apply sch_firm rfl rfl (by repeat (first | with_reducible exact Within.refl _ | with_reducible assumption | with_reducible refine Within.alloc ?_ _ | with_reducible refine Within.drew ?_ | with_reducible refine Within.drewN ?_ _ | with_reducible refine Within.setCell ?_ (by first | (simp; done) | (simp; omega)) _ | with_reducible refine Within.trans ?_ (by assumption)))
  · intro wq hq
    have hcq := hq.cells
    clear hq
    go_simp
    first | rfl | (trace_state; fail)
  try simp only [Act.put, List.setIfInBounds_toArray, List.set_cons_zero, List.set_cons_succ]
  apply sch_firm rfl rfl (by repeat (first | with_reducible exact Within.refl _ | with_reducible assumption | with_reducible refine Within.alloc ?_ _ | with_reducible refine Within.drew ?_ | with_reducible refine Within.drewN ?_ _ | with_reducible refine Within.setCell ?_ (by first | (simp; done) | (simp; omega)) _ | with_reducible refine Within.trans ?_ (by assumption)))
  · intro wq hq
    have hcq := hq.cells
    clear hq
    go_simp
    first | rfl | (trace_state; fail)
  try simp only [Act.put, List.setIfInBounds_toArray, List.set_cons_zero, List.set_cons_succ]
  apply sch_firm rfl rfl (by repeat (first | with_reducible exact Within.refl _ | with_reducible assumption | with_reducible refine Within.alloc ?_ _ | with_reducible refine Within.drew ?_ | with_reducible refine Within.drewN ?_ _ | with_reducible refine Within.setCell ?_ (by first | (simp; done) | (simp; omega)) _ | with_reducible refine Within.trans ?_ (by assumption)))
  · intro wq hq
    have hcq := hq.cells
    clear hq
    go_simp
    first | rfl | (trace_state; fail)
  try simp only [Act.put, List.setIfInBounds_toArray, List.set_cons_zero, List.set_cons_succ]
  apply sch_firm rfl rfl (by repeat (first | with_reducible exact Within.refl _ | with_reducible assumption | with_reducible refine Within.alloc ?_ _ | with_reducible refine Within.drew ?_ | with_reducible refine Within.drewN ?_ _ | with_reducible refine Within.setCell ?_ (by first | (simp; done) | (simp; omega)) _ | with_reducible refine Within.trans ?_ (by assumption)))
  · intro wq hq
    have hcq := hq.cells
    clear hq
    go_simp
    first | rfl | (trace_state; fail)
  try simp only [Act.put, List.setIfInBounds_toArray, List.set_cons_zero, List.set_cons_succ]
  apply sch_firm rfl rfl (by repeat (first | with_reducible exact Within.refl _ | with_reducible assumption | with_reducible refine Within.alloc ?_ _ | with_reducible refine Within.drew ?_ | with_reducible refine Within.drewN ?_ _ | with_reducible refine Within.setCell ?_ (by first | (simp; done) | (simp; omega)) _ | with_reducible refine Within.trans ?_ (by assumption)))
  · intro wq hq
    have hcq := hq.cells
    clear hq
    go_simp
    first | rfl | (trace_state; fail)
  try simp only [Act.put, List.setIfInBounds_toArray, List.set_cons_zero, List.set_cons_succ]
  apply sch_firm rfl rfl (by repeat (first | with_reducible exact Within.refl _ | with_reducible assumption | with_reducible refine Within.alloc ?_ _ | with_reducible refine Within.drew ?_ | with_reducible refine Within.drewN ?_ _ | with_reducible refine Within.setCell ?_ (by first | (simp; done) | (simp; omega)) _ | with_reducible refine Within.trans ?_ (by assumption)))
  · intro wq hq
    have hcq := hq.cells
    clear hq
    go_simp
    first | rfl | (trace_state; fail)
  try simp only [Act.put, List.setIfInBounds_toArray, List.set_cons_zero, List.set_cons_succ]
  apply sch_firm rfl rfl (by repeat (first | with_reducible exact Within.refl _ | with_reducible assumption | with_reducible refine Within.alloc ?_ _ | with_reducible refine Within.drew ?_ | with_reducible refine Within.drewN ?_ _ | with_reducible refine Within.setCell ?_ (by first | (simp; done) | (simp; omega)) _ | with_reducible refine Within.trans ?_ (by assumption)))
  · intro wq hq
    have hcq := hq.cells
    clear hq
    go_simp
    first | rfl | (trace_state; fail)
  try simp only [Act.put, List.setIfInBounds_toArray, List.set_cons_zero, List.set_cons_succ]
  refine sch_one rfl rfl (fun K hK => ?_)
  go_simp
  refine hK _ _ (fun _ => (by repeat (first | with_reducible exact Within.refl _ | with_reducible assumption | with_reducible refine Within.alloc ?_ _ | with_reducible refine Within.drew ?_ | with_reducible refine Within.drewN ?_ _ | with_reducible refine Within.setCell ?_ (by first | (simp; done) | (simp; omega)) _ | with_reducible refine Within.trans ?_ (by assumption)))) ?_
  clear hK K
  try simp only [Act.put, List.setIfInBounds_toArray, List.set_cons_zero, List.set_cons_succ]
  refine sch_one rfl rfl (fun K hK => ?_)
  go_simp
  refine (Bmul _ g1 g2 n1 n2 (Nat.le_trans HL1.out (by decide)) (Nat.le_trans HL2.out (by decide)) _ (by exact (IntB.made w0).ty) (IntB.of hI1 (by repeat (first | with_reducible exact Within.refl _ | with_reducible assumption | with_reducible refine Within.alloc ?_ _ | with_reducible refine Within.drew ?_ | with_reducible refine Within.drewN ?_ _ | with_reducible refine Within.setCell ?_ (by first | (simp; done) | (simp; omega)) _ | with_reducible refine Within.trans ?_ (by assumption)))) (IntB.of hI2 (by repeat (first | with_reducible exact Within.refl _ | with_reducible assumption | with_reducible refine Within.alloc ?_ _ | with_reducible refine Within.drew ?_ | with_reducible refine Within.drewN ?_ _ | with_reducible refine Within.setCell ?_ (by first | (simp; done) | (simp; omega)) _ | with_reducible refine Within.trans ?_ (by assumption))))).mono ?_; rintro e5 w5 ⟨rfl, hJ, hG⟩
  have hv5 : Within w0 w5 := Within.grown (by repeat (first | with_reducible exact Within.refl _ | with_reducible assumption | with_reducible refine Within.alloc ?_ _ | with_reducible refine Within.drew ?_ | with_reducible refine Within.drewN ?_ _ | with_reducible refine Within.setCell ?_ (by first | (simp; done) | (simp; omega)) _ | with_reducible refine Within.trans ?_ (by assumption))) hG (by simp)
  have hz5 := (hv5.block _ l2).trans hz
  obtain ⟨y0, y1, yf⟩ := ex_cells hz5
  have yl := Nat.lt_of_lt_of_le l2 hv5.sizes
  refine hK _ _ (fun _ => (by repeat (first | with_reducible exact Within.refl _ | with_reducible assumption | with_reducible refine Within.alloc ?_ _ | with_reducible refine Within.drew ?_ | with_reducible refine Within.drewN ?_ _ | with_reducible refine Within.setCell ?_ (by first | (simp; done) | (simp; omega)) _ | with_reducible refine Within.trans ?_ (by assumption)))) ?_
  clear hK K
  try simp only [Act.put, List.setIfInBounds_toArray, List.set_cons_zero, List.set_cons_succ]
  apply sch_firm rfl rfl (by repeat (first | with_reducible exact Within.refl _ | with_reducible assumption | with_reducible refine Within.alloc ?_ _ | with_reducible refine Within.drew ?_ | with_reducible refine Within.drewN ?_ _ | with_reducible refine Within.setCell ?_ (by first | (simp; done) | (simp; omega)) _ | with_reducible refine Within.trans ?_ (by assumption)))
  · intro wq hq
    have hcq := hq.cells
    clear hq
    go_simp
    first | rfl | (trace_state; fail)
  try simp only [Act.put, List.setIfInBounds_toArray, List.set_cons_zero, List.set_cons_succ]
  refine sch_one rfl rfl (fun K hK => ?_)
  go_simp
  refine hK _ _ (fun h => absurd h (by decide)) ?_
  clear hK K
  try simp only [Act.put, List.setIfInBounds_toArray, List.set_cons_zero, List.set_cons_succ]
  refine sch_nil ?_
  obtain ⟨r0, r1, rI⟩ := ex_set (E := (E1 + E2)) hz5 hJ (show w0.heap.size ≠ (w.heap.size + 2) by omega)
  have rl : (w.heap.size + 2) < w5.heap.size := by have := yl; omega
  go_wp2
  refine bodyPost_ret (v := .agg #[.pointer (some ⟨w0.heap.size, 0, none⟩), .int .i64 (E1 + E2)]) (by simp [results, Tryz.results49, go_sem, r0, r1, rl]) rfl ⟨w0.heap.size, rfl, rI, hw0.sizes, ?_⟩
  exact ((hw0.trans hv5).setCell (by show _ ≤ (w.heap.size + 2); omega) _).setCell (by show _ ≤ (w.heap.size + 2); omega) _
def ofN (b : Nat) : Int := sgv (pNegD b) (pMantD b)
set_option maxRecDepth 100000 in
set_option maxHeartbeats 600000 in
theorem Xof0 (x : Nat) (neg : Bool) (m : Nat) (p : Int) (er : Value) (hm : m < 18446744073709551616) (CP : Hid (∀ w, Calls Tryz.prog 96 #[.float .f64 x] w fun e w' => e = .returned (.tuple #[.agg #[.bool neg, .int .u64 (m : Int), .int .i64 p], er]) ∧ Within w w')) (w : World) : Calls Tryz.prog 44 #[.float .f64 x] w (ExR w (sgv neg m) p) := by
  have HM := Lib.hid hm; clear hm
  go_enter Tryz.func44, Tryz.ntmps44
  go_wp2_with fail
  refine (CP.out _).mono ?_; rintro e1 w1 ⟨rfl, hb1⟩
  have HT : IntTy ((w1.alloc (.cells #[.bool neg, .int .u64 (m : Int), .int .i64 p] 97)).alloc (.cells #[.bool false, .slice none 0 0] 102)) (w1.heap.size + 1) := by
    have := (IntB.made (w1.alloc (.cells #[.bool neg, .int .u64 (m : Int), .int .i64 p] 97))).ty
    simpa using this
  go_wp2_with fail
  have k0 : ((w1.alloc (.cells #[.bool neg, .int .u64 (m : Int), .int .i64 p] 97)).alloc (.cells #[.bool false, .slice none 0 0] 102)).cell? ⟨w1.heap.size, 0, none⟩ = some (.bool neg) := by simp [go_sem]
  have k2 : ((w1.alloc (.cells #[.bool neg, .int .u64 (m : Int), .int .i64 p] 97)).alloc (.cells #[.bool false, .slice none 0 0] 102)).cell? ⟨w1.heap.size, 2, none⟩ = some (.int .i64 p) := by simp [go_sem]
  have hz1 : w1.heap[w.heap.size]? = some (.cells #[.pointer none, .int .i64 0] 53 (0, 0)) := (hb1.block _ (by simp)).trans (heap_alloc_new w _)
  have hww : Within w w1 := ((Within.refl w).alloc _).trans hb1
  have HW2 : Within w ((w1.alloc (.cells #[.bool neg, .int .u64 (m : Int), .int .i64 p] 97)).alloc (.cells #[.bool false, .slice none 0 0] 102)) := (hww.alloc _).alloc _
  have hzz : ((w1.alloc (.cells #[.bool neg, .int .u64 (m : Int), .int .i64 p] 97)).alloc (.cells #[.bool false, .slice none 0 0] 102)).heap[w.heap.size]? = some (.cells #[.pointer none, .int .i64 0] 53 (0, 0)) := ((((Within.refl w1).alloc _).alloc _).block _ (by have := hb1.size; simp at this; omega)).trans hz1
  obtain ⟨W2, hW2⟩ : ∃ W2, W2 = ((w1.alloc (.cells #[.bool neg, .int .u64 (m : Int), .int .i64 p] 97)).alloc (.cells #[.bool false, .slice none 0 0] 102)) := ⟨_, rfl⟩
  have hsz : W2.heap.size = w1.heap.size + 2 := by rw [hW2]; simp
  have hl : w.heap.size + 1 ≤ w1.heap.size := by have := hb1.size; simpa using this
  rw [← hW2] at HT k0 k2 HW2 hzz ⊢
  clear hW2 hz1
  have HS := Lib.hid hsz; have HL := Lib.hid hl; clear hsz hl
  refine (BsetUint64 (w1.heap.size + 1) m HM.out W2 HT).mono ?_; rintro e2 w2 ⟨rfl, hI2, hv2⟩
  have q0 := hv2.cell k0 (by simp)
  have q2 := hv2.cell k2 (by simp)
  have HLN := Lib.hid (show (dg (m : Int).natAbs).length ≤ 2000000 by rw [Int.natAbs_natCast]; exact Nat.le_trans (dg_len_le (k := 2) HM.out) (by decide))
  cases neg
  · rw [show sgv false m = (m : Int) from rfl]
    have hz2 := (hv2.block w.heap.size (by show w.heap.size < W2.heap.size; have := HS.out; have := HL.out; omega) (by simp; have := HL.out; omega)).trans hzz
    obtain ⟨y0, y1, yf⟩ := ex_cells hz2
    have yl : w.heap.size < w2.heap.size := World.block_lt_of_cell? _ _ y0
    have pl : w1.heap.size < w2.heap.size := World.block_lt_of_cell? _ _ q2
    obtain ⟨r0, r1, rI⟩ := ex_set (E := p) hz2 hI2 (show w1.heap.size + 1 ≠ w.heap.size by have := HL.out; omega)
    go_wp2
    refine bodyPost_ret (v := .agg #[.pointer (some ⟨(w1.heap.size + 1), 0, none⟩), .int .i64 p]) (by simp [results, Tryz.results44, go_sem, r0, r1, yl]) rfl ⟨w1.heap.size + 1, rfl, rI, by have := HL.out; omega, ?_⟩
    exact ((Within.grown HW2 hv2 (by have := HL.out; omega)).setCell (by show _ ≤ w.heap.size; omega) _).setCell (by show _ ≤ w.heap.size; omega) _
  · rw [show sgv true m = -(m : Int) from rfl]
    go_wp2_with fail
    refine (Bneg (w1.heap.size + 1) (w1.heap.size + 1) (m : Int) HLN.out w2 hI2.ty hI2).mono ?_; rintro e3 w3 ⟨rfl, hI3, hG3⟩
    have q2 := hG3.cell q2 (by simp)
    have hv3 := grown_trans hv2 hG3
    have hz3 := (hv3.block w.heap.size (by show w.heap.size < W2.heap.size; have := HS.out; have := HL.out; omega) (by simp; have := HL.out; omega)).trans hzz
    obtain ⟨y0, y1, yf⟩ := ex_cells hz3
    have yl : w.heap.size < w3.heap.size := World.block_lt_of_cell? _ _ y0
    have pl : w1.heap.size < w3.heap.size := World.block_lt_of_cell? _ _ q2
    obtain ⟨r0, r1, rI⟩ := ex_set (E := p) hz3 hI3 (show w1.heap.size + 1 ≠ w.heap.size by have := HL.out; omega)
    go_wp2
    refine bodyPost_ret (v := .agg #[.pointer (some ⟨(w1.heap.size + 1), 0, none⟩), .int .i64 p]) (by simp [results, Tryz.results44, go_sem, r0, r1, yl]) rfl ⟨w1.heap.size + 1, rfl, rI, by have := HL.out; omega, ?_⟩
    exact ((Within.grown HW2 hv3 (by have := HL.out; omega)).setCell (by show _ ≤ w.heap.size; omega) _).setCell (by show _ ≤ w.heap.size; omega) _
theorem Xof (b : Nat) (hb : b < 18446744073709551616) (w : World) : Calls Tryz.prog 44 #[.float .f64 b] w (ExR w (ofN b) (pExpD b)) :=
  Xof0 b (pNegD b) (pMantD b) (pExpD b) (.int .i64 (pErrD b)) (P64.pMantD_lt b) (Lib.hid fun w => Rparts_D b hb w) w
end Go.Proofs.YtjmaggfddinbkaaGreatDoor
end

section
namespace Go.Proofs.YtjmaggfddinbkaaGreatDoor
open Go.RowKit
def ExS (W : World) (n E : Int) (e : Ending) (w' : World) : Prop := ∃ h, e = .returned (.agg #[.pointer (some ⟨h, 0, none⟩), .int .i64 E]) ∧ IntB w' h n ∧ Within W w'
theorem ExR.s {W w' : World} {n E : Int} {e : Ending} (h : ExR W n E e w') : ExS W n E e w' := by
  obtain ⟨g, h1, h2, _, h4⟩ := h
  exact ⟨g, h1, h2, h4⟩
set_option maxRecDepth 100000 in
set_option maxHeartbeats 600000 in
theorem Xlow_same (n E e : Int) (g : Nat) (he : E ≤ e) (w : World) (hI : IntB w g n) : Calls Tryz.prog 104 #[.agg #[.pointer (some ⟨g, 0, none⟩), .int .i64 E], .int .i64 e] w (ExS w n E) := by
  have d : decide (e ≥ E) = true := decide_eq_true (by omega)
  clear he
  have hgl := hI.lt
  have HI := Lib.hid hI; clear hI
  have hz : ((w.alloc (.cells #[.pointer (some ⟨g, 0, none⟩), .int .i64 E] 53)).alloc (.cells #[.pointer none, .int .i64 0] 53)).heap[w.heap.size + 1]? = some (.cells #[.pointer none, .int .i64 0] 53 (0, 0)) := by have := heap_alloc_new (w.alloc (.cells #[.pointer (some ⟨g, 0, none⟩), .int .i64 E] 53)) (.cells #[.pointer none, .int .i64 0] 53); simpa using this
  go_enter Tryz.func104, Tryz.ntmps104
  go_wp2
  refine bodyPost_ret (v := .agg #[.pointer (some ⟨g, 0, none⟩), .int .i64 E]) (by simp [results, Tryz.results104, go_sem]) rfl ⟨g, rfl, HI.out.of (((Within.refl w).alloc _).alloc _), ((Within.refl w).alloc _).alloc _⟩
set_option maxRecDepth 100000 in
set_option maxHeartbeats 600000 in
theorem Xlow_less (n E e : Int) (g k : Nat) (he : E - e = (k : Int)) (hk : 0 < k) (hk2 : k ≤ 16000) (hl : (dg n.natAbs).length ≤ 1000) (w : World) (hI : IntB w g n) : Calls Tryz.prog 104 #[.agg #[.pointer (some ⟨g, 0, none⟩), .int .i64 E], .int .i64 e] w (ExS w (n * 2 ^ k) e) := by
  have d : decide (e ≥ E) = false := decide_eq_false (by omega)
  have hgl := hI.lt
  have HI := Lib.hid hI; clear hI
  have hz : ((w.alloc (.cells #[.pointer (some ⟨g, 0, none⟩), .int .i64 E] 53)).alloc (.cells #[.pointer none, .int .i64 0] 53)).heap[w.heap.size + 1]? = some (.cells #[.pointer none, .int .i64 0] 53 (0, 0)) := by have := heap_alloc_new (w.alloc (.cells #[.pointer (some ⟨g, 0, none⟩), .int .i64 E] 53)) (.cells #[.pointer none, .int .i64 0] 53); simpa using this
  have g1 : IntKind.i64.wrap (E - e) = (k : Int) := by rw [he, IntWalk.i64_in _ ⟨by omega, by omega⟩]
  have g2 : IntKind.u64.wrap (k : Int) = (k : Int) := by rw [IntKind.wrap_u64]; omega
  have CL := Lib.hid (fun z w' hz hx => Blsh z g k n (Nat.le_trans hl (by decide)) (Nat.le_trans hk2 (by decide)) w' hz hx)
  have hT : IntTy (((w.alloc (.cells #[.pointer (some ⟨g, 0, none⟩), .int .i64 E] 53)).alloc (.cells #[.pointer none, .int .i64 0] 53)).alloc (.cells #[.bool false, .slice none 0 0] 102)) (w.heap.size + 1 + 1) := by have := (IntB.made ((w.alloc (.cells #[.pointer (some ⟨g, 0, none⟩), .int .i64 E] 53)).alloc (.cells #[.pointer none, .int .i64 0] 53))).ty; simpa using this
  clear he hk hk2 hl
  go_enter Tryz.func104, Tryz.ntmps104
  go_wp2_with fail
  refine (CL.out _ _ (by exact hT) (HI.out.of ((((Within.refl w).alloc _).alloc _).alloc _))).mono ?_; rintro e5 w5 ⟨rfl, hJ, hG⟩
  have hz5 := (hG.block (w.heap.size + 1) (by simp) (by simp)).trans ((((Within.refl ((w.alloc (.cells #[.pointer (some ⟨g, 0, none⟩), .int .i64 E] 53)).alloc (.cells #[.pointer none, .int .i64 0] 53))).alloc _).block _ (by simp)).trans hz)
  obtain ⟨y0, y1, yf⟩ := ex_cells hz5
  have yl : w.heap.size + 1 < w5.heap.size := World.block_lt_of_cell? _ _ y0
  obtain ⟨r0, r1, rI⟩ := ex_set (E := e) hz5 hJ (by simp)
  have hv5 : Within w w5 := Within.grown ((((Within.refl w).alloc _).alloc _).alloc _) hG (by omega)
  go_wp2
  refine bodyPost_ret (v := .agg #[.pointer (some ⟨(w.heap.size + 1 + 1), 0, none⟩), .int .i64 e]) (by simp [results, Tryz.results104, go_sem, r0, r1, yl]) rfl ⟨_, rfl, rI, ?_⟩
  exact (hv5.setCell (by show _ ≤ w.heap.size + 1; omega) _).setCell (by show _ ≤ w.heap.size + 1; omega) _
end Go.Proofs.YtjmaggfddinbkaaGreatDoor
end

section
namespace Go.Proofs.YtjmaggfddinbkaaGreatDoor
open Go.RowKit
set_option maxRecDepth 100000 in
set_option maxHeartbeats 600000 in
theorem Bsign_zero (x : Nat) (v : Int) (h : v = 0) (w : World) (hx : IntB w x v) : Calls Tryz.prog 62 #[.pointer (some ⟨x, 0, none⟩)] w (fun e w' => e = .returned (.int .i64 (0)) ∧ w = w') := by
  obtain ⟨A, c, c0, c1, _⟩ := hx.rd
  subst h
  rw [show (dg (0 : Int).natAbs) = [] from dg_zero] at c1
  have d : (((List.length ([] : List Nat) : Nat) : Int) == 0) = true := rfl
  clear hx
  go_enter Tryz.func62, Tryz.ntmps62
  go_wp2
  go_ret
  exact ⟨rfl, rfl⟩
set_option maxRecDepth 100000 in
set_option maxHeartbeats 600000 in
theorem Bsign_neg (x : Nat) (v : Int) (h : v < 0) (w : World) (hx : IntB w x v) : Calls Tryz.prog 62 #[.pointer (some ⟨x, 0, none⟩)] w (fun e w' => e = .returned (.int .i64 (-1)) ∧ w = w') := by
  obtain ⟨A, c, c0, c1, _⟩ := hx.rd
  have hp := dg_len_pos (n := v.natAbs) (by omega)
  rw [decide_eq_true (by omega)] at c0
  obtain ⟨k, hk⟩ : ∃ k, k = (dg v.natAbs).length := ⟨_, rfl⟩
  rw [← hk] at c1 hp
  clear hk
  have d : ((k : Int) == 0) = false := beq_eq_false_iff_ne.2 (by omega)
  clear hx h
  go_enter Tryz.func62, Tryz.ntmps62
  go_wp2
  go_ret
  exact ⟨rfl, rfl⟩
set_option maxRecDepth 100000 in
set_option maxHeartbeats 600000 in
theorem Bsign_pos (x : Nat) (v : Int) (h : 0 < v) (w : World) (hx : IntB w x v) : Calls Tryz.prog 62 #[.pointer (some ⟨x, 0, none⟩)] w (fun e w' => e = .returned (.int .i64 (1)) ∧ w = w') := by
  obtain ⟨A, c, c0, c1, _⟩ := hx.rd
  have hp := dg_len_pos (n := v.natAbs) (by omega)
  rw [decide_eq_false (by omega)] at c0
  obtain ⟨k, hk⟩ : ∃ k, k = (dg v.natAbs).length := ⟨_, rfl⟩
  rw [← hk] at c1 hp
  clear hk
  have d : ((k : Int) == 0) = false := beq_eq_false_iff_ne.2 (by omega)
  clear hx h
  go_enter Tryz.func62, Tryz.ntmps62
  go_wp2
  go_ret
  exact ⟨rfl, rfl⟩
theorem Bsign (x : Nat) (v : Int) (w : World) (hx : IntB w x v) : Calls Tryz.prog 62 #[.pointer (some ⟨x, 0, none⟩)] w (fun e w' => e = .returned (.int .i64 v.sign) ∧ w = w') := by
  rcases Int.lt_trichotomy v 0 with h | h | h
  · rw [Int.sign_eq_neg_one_of_neg h]; exact Bsign_neg x v h w hx
  · subst h; exact Bsign_zero x 0 rfl w hx
  · rw [Int.sign_eq_one_of_pos h]; exact Bsign_pos x v h w hx
def cmpI (a b : Int) : Int := if a < b then -1 else if b < a then 1 else 0
theorem cmpN_range (a b : Nat) : -1 ≤ cmpN a b ∧ cmpN a b ≤ 1 := by unfold cmpN; split <;> (try split) <;> omega
end Go.Proofs.YtjmaggfddinbkaaGreatDoor
end

section
namespace Go.Proofs.YtjmaggfddinbkaaGreatDoor
open Go.RowKit
@[go_sem] theorem run_field_ex (a b : Value) (w : World) : (Instr.field 53 (.agg #[a, b]) 0).run Tryz.prog w = .ok a w := by
  kernel_rfl
theorem Xlow (n E e : Int) (g k : Nat) (he : E - e = (k : Int)) (hk2 : k ≤ 16000) (hl : (dg n.natAbs).length ≤ 1000) (w : World) (hI : IntB w g n) : Calls Tryz.prog 104 #[.agg #[.pointer (some ⟨g, 0, none⟩), .int .i64 E], .int .i64 e] w (ExS w (n * 2 ^ k) e) := by
  rcases Nat.eq_zero_or_pos k with h | h
  · subst h
    obtain rfl : E = e := by omega
    rw [Int.pow_zero, Int.mul_one]
    exact Xlow_same n E E g (Int.le_refl _) w hI
  · exact Xlow_less n E e g k he h hk2 hl w hI
theorem wp_new_int {o : Oper} {a : Act} {w : World} {K : Act → World → Prop} {Q : Exit → Act → World → Prop} (ho : o.op = .alloc 102)
    (h : ∀ z w', IntTy w' z → Within w w' → w.heap.size ≤ z → K (a.put o.dst (.pointer (some ⟨z, 0, none⟩))) w') : o.wp Tryz.prog a w K Q := by
  have h1 := h w.heap.size (w.alloc (.cells #[.bool false, .slice none 0 0] 102)) (IntB.made w).ty ((Within.refl w).alloc _) (Nat.le_refl _)
  unfold Oper.wp execOp
  rw [ho]
  go_simp
  exact h1
set_option maxRecDepth 100000 in
set_option maxHeartbeats 600000 in
theorem Xadd_l (n2 E1 E2 e : Int) (g1 g2 : Nat) (he : min E1 E2 = e) (w : World) (hI1 : IntB w g1 0) (hI2 : IntB w g2 n2) : Calls Tryz.prog 48 #[.agg #[.pointer (some ⟨g1, 0, none⟩), .int .i64 E1], .agg #[.pointer (some ⟨g2, 0, none⟩), .int .i64 E2]] w (ExS w n2 E2) := by
  have S1 := Lib.hid (fun w (h : IntB w g1 0) => Bsign g1 0 w h)
  rw [show (0 : Int).sign = 0 from rfl] at S1
  have J1 := Lib.hid (hI1.of ((((Within.refl w).alloc (.cells #[.pointer (some ⟨g1, 0, none⟩), .int .i64 E1] 53)).alloc (.cells #[.pointer (some ⟨g2, 0, none⟩), .int .i64 E2] 53)).alloc (.cells #[.pointer none, .int .i64 0] 53)))
  have HI2 := Lib.hid hI2; clear hI1 hI2
  go_enter Tryz.func48, Tryz.ntmps48
  go_wp2_with fail
  refine (S1.out _ J1.out).mono ?_; rintro e5 w5 ⟨rfl, rfl⟩
  go_wp2
  refine bodyPost_ret (v := .agg #[.pointer (some ⟨g2, 0, none⟩), .int .i64 E2]) (by simp [results, Tryz.results48, go_sem]) rfl ⟨g2, rfl, HI2.out.of ((((Within.refl w).alloc _).alloc _).alloc _), ((((Within.refl w).alloc _).alloc _).alloc _)⟩
set_option maxRecDepth 100000 in
set_option maxHeartbeats 600000 in
theorem Xadd_r (n1 E1 E2 e : Int) (g1 g2 : Nat) (he : min E1 E2 = e) (h1 : n1 ≠ 0) (w : World) (hI1 : IntB w g1 n1) (hI2 : IntB w g2 0) : Calls Tryz.prog 48 #[.agg #[.pointer (some ⟨g1, 0, none⟩), .int .i64 E1], .agg #[.pointer (some ⟨g2, 0, none⟩), .int .i64 E2]] w (ExS w n1 E1) := by
  have S1 := Lib.hid (fun w (h : IntB w g1 n1) => Bsign g1 n1 w h)
  have S2 := Lib.hid (fun w (h : IntB w g2 0) => Bsign g2 0 w h)
  rw [show (0 : Int).sign = 0 from rfl] at S2
  have d1 : (n1.sign == 0) = false := by rw [beq_eq_false_iff_ne]; intro h; exact h1 (Int.sign_eq_zero_iff_zero.1 h)
  clear h1
  have J1 := Lib.hid (hI1.of ((((Within.refl w).alloc (.cells #[.pointer (some ⟨g1, 0, none⟩), .int .i64 E1] 53)).alloc (.cells #[.pointer (some ⟨g2, 0, none⟩), .int .i64 E2] 53)).alloc (.cells #[.pointer none, .int .i64 0] 53)))
  have J2 := Lib.hid (hI2.of ((((Within.refl w).alloc (.cells #[.pointer (some ⟨g1, 0, none⟩), .int .i64 E1] 53)).alloc (.cells #[.pointer (some ⟨g2, 0, none⟩), .int .i64 E2] 53)).alloc (.cells #[.pointer none, .int .i64 0] 53)))
  have HI1 := Lib.hid hI1; clear hI1 hI2
  go_enter Tryz.func48, Tryz.ntmps48
  go_wp2_with fail
  refine (S1.out _ J1.out).mono ?_; rintro e5 w5 ⟨rfl, rfl⟩
  go_wp2_with fail
  refine (S2.out _ J2.out).mono ?_; rintro e5 w5 ⟨rfl, rfl⟩
  go_wp2
  refine bodyPost_ret (v := .agg #[.pointer (some ⟨g1, 0, none⟩), .int .i64 E1]) (by simp [results, Tryz.results48, go_sem]) rfl ⟨g1, rfl, HI1.out.of ((((Within.refl w).alloc _).alloc _).alloc _), ((((Within.refl w).alloc _).alloc _).alloc _)⟩
set_option maxRecDepth 100000 in
set_option maxHeartbeats 600000 in
theorem Xadd_sum (n1 n2 E1 E2 e : Int) (g1 g2 : Nat) (he : min E1 E2 = e) (v1 v2 : Int) (h1 : n1 ≠ 0) (h2 : n2 ≠ 0) (hv : (dg v1.natAbs).length ≤ 1000000 ∧ (dg v2.natAbs).length ≤ 1000000) (L1 : Hid (∀ w, IntB w g1 n1 → Calls Tryz.prog 104 #[.agg #[.pointer (some ⟨g1, 0, none⟩), .int .i64 E1], .int .i64 e] w (ExS w v1 e))) (L2 : Hid (∀ w, IntB w g2 n2 → Calls Tryz.prog 104 #[.agg #[.pointer (some ⟨g2, 0, none⟩), .int .i64 E2], .int .i64 e] w (ExS w v2 e))) (w : World) (hI1 : IntB w g1 n1) (hI2 : IntB w g2 n2) : Calls Tryz.prog 48 #[.agg #[.pointer (some ⟨g1, 0, none⟩), .int .i64 E1], .agg #[.pointer (some ⟨g2, 0, none⟩), .int .i64 E2]] w (ExS w (v1 + v2) e) := by
  have S1 := Lib.hid (fun w (h : IntB w g1 n1) => Bsign g1 n1 w h)
  have S2 := Lib.hid (fun w (h : IntB w g2 n2) => Bsign g2 n2 w h)
  have d1 : (n1.sign == 0) = false := by rw [beq_eq_false_iff_ne]; intro h; exact h1 (Int.sign_eq_zero_iff_zero.1 h)
  have d2 : (n2.sign == 0) = false := by rw [beq_eq_false_iff_ne]; intro h; exact h2 (Int.sign_eq_zero_iff_zero.1 h)
  have HV := Lib.hid hv; clear h1 h2 hv
  have J1 := Lib.hid (hI1.of ((((Within.refl w).alloc (.cells #[.pointer (some ⟨g1, 0, none⟩), .int .i64 E1] 53)).alloc (.cells #[.pointer (some ⟨g2, 0, none⟩), .int .i64 E2] 53)).alloc (.cells #[.pointer none, .int .i64 0] 53)))
  have J2 := Lib.hid (hI2.of ((((Within.refl w).alloc (.cells #[.pointer (some ⟨g1, 0, none⟩), .int .i64 E1] 53)).alloc (.cells #[.pointer (some ⟨g2, 0, none⟩), .int .i64 E2] 53)).alloc (.cells #[.pointer none, .int .i64 0] 53)))
  go_enter Tryz.func48, Tryz.ntmps48
  go_wp2_with fail
  refine (S1.out _ J1.out).mono ?_; rintro e5 w5 ⟨rfl, rfl⟩
  go_wp2_with fail
  refine (S2.out _ J2.out).mono ?_; rintro e5 w5 ⟨rfl, rfl⟩
  go_wp2
  refine wp_region_schG (fun W => W.cell? ⟨w.heap.size, 0, none⟩ = some (.pointer (some ⟨g1, 0, none⟩)) ∧ W.cell? ⟨w.heap.size, 1, none⟩ = some (.int .i64 E1) ∧ W.cell? ⟨w.heap.size + 1, 0, none⟩ = some (.pointer (some ⟨g2, 0, none⟩)) ∧ W.cell? ⟨w.heap.size + 1, 1, none⟩ = some (.int .i64 E2) ∧ W.heap[w.heap.size + 2]? = some (.cells #[.pointer none, .int .i64 0] 53 (0, 0)) ∧ IntB W g1 n1 ∧ IntB W g2 n2 ∧ w.heap.size < W.heap.size ∧ w.heap.size + 1 < W.heap.size ∧ w.heap.size + 2 < W.heap.size ∧ Within w W) 12 (.firm 1 (.firm 2 (.firm 5 (.firm 6 (.firm 10 (.two 0 (.one 3 (.firm 4 (.one 7 (.firm 8 (.one 9 (.firm 11 (.one 12 .nil))))))) 3 (.firm 4 (.two 0 (.one 7 (.firm 8 (.one 9 (.firm 11 (.one 12 .nil))))) 7 (.firm 8 (.one 0 (.one 9 (.firm 11 (.one 12 .nil))))))))))))) (by kernel_rfl) (by kernel_rfl) ⟨by go_simp, by go_simp, by go_simp, by go_simp, (by have := heap_alloc_new ((w.alloc (.cells #[.pointer (some ⟨g1, 0, none⟩), .int .i64 E1] 53)).alloc (.cells #[.pointer (some ⟨g2, 0, none⟩), .int .i64 E2] 53)) (.cells #[.pointer none, .int .i64 0] 53); simpa using this), hI1.of (by repeat (first | with_reducible exact Within.refl _ | with_reducible assumption | with_reducible refine Within.alloc ?_ _ | with_reducible refine Within.drew ?_ | with_reducible refine Within.drewN ?_ _ | with_reducible refine Within.setCell ?_ (by first | (simp; done) | (simp; omega)) _ | with_reducible refine Within.trans ?_ (by assumption))), hI2.of (by repeat (first | with_reducible exact Within.refl _ | with_reducible assumption | with_reducible refine Within.alloc ?_ _ | with_reducible refine Within.drew ?_ | with_reducible refine Within.drewN ?_ _ | with_reducible refine Within.setCell ?_ (by first | (simp; done) | (simp; omega)) _ | with_reducible refine Within.trans ?_ (by assumption))), by first | (simp; done) | (simp; omega), by first | (simp; done) | (simp; omega), by first | (simp; done) | (simp; omega), (by repeat (first | with_reducible exact Within.refl _ | with_reducible assumption | with_reducible refine Within.alloc ?_ _ | with_reducible refine Within.drew ?_ | with_reducible refine Within.drewN ?_ _ | with_reducible refine Within.setCell ?_ (by first | (simp; done) | (simp; omega)) _ | with_reducible refine Within.trans ?_ (by assumption)))⟩ ?_
  rintro w0 ⟨c0, c1, d0, d1, hz, hI1, hI2, l0, l1, l2, hw0⟩
  try simp only [Act.put, List.setIfInBounds_toArray, List.set_cons_zero, List.set_cons_succ]
  apply sch_firm rfl rfl (by repeat (first | with_reducible exact Within.refl _ | with_reducible assumption | with_reducible refine Within.alloc ?_ _ | with_reducible refine Within.drew ?_ | with_reducible refine Within.drewN ?_ _ | with_reducible refine Within.setCell ?_ (by first | (simp; done) | (simp; omega)) _ | with_reducible refine Within.trans ?_ (by assumption)))
  · intro wq hq
    have hcq := hq.cells
    clear hq
    go_simp
    first | rfl | (trace_state; fail)
  try simp only [Act.put, List.setIfInBounds_toArray, List.set_cons_zero, List.set_cons_succ]
  apply sch_firm rfl rfl (by repeat (first | with_reducible exact Within.refl _ | with_reducible assumption | with_reducible refine Within.alloc ?_ _ | with_reducible refine Within.drew ?_ | with_reducible refine Within.drewN ?_ _ | with_reducible refine Within.setCell ?_ (by first | (simp; done) | (simp; omega)) _ | with_reducible refine Within.trans ?_ (by assumption)))
  · intro wq hq
    have hcq := hq.cells
    clear hq
    go_simp
    first | rfl | (trace_state; fail)
  try simp only [Act.put, List.setIfInBounds_toArray, List.set_cons_zero, List.set_cons_succ]
  apply sch_firm rfl rfl (by repeat (first | with_reducible exact Within.refl _ | with_reducible assumption | with_reducible refine Within.alloc ?_ _ | with_reducible refine Within.drew ?_ | with_reducible refine Within.drewN ?_ _ | with_reducible refine Within.setCell ?_ (by first | (simp; done) | (simp; omega)) _ | with_reducible refine Within.trans ?_ (by assumption)))
  · intro wq hq
    have hcq := hq.cells
    clear hq
    go_simp
    first | rfl | (trace_state; fail)
  try simp only [Act.put, List.setIfInBounds_toArray, List.set_cons_zero, List.set_cons_succ]
  apply sch_firm rfl rfl (by repeat (first | with_reducible exact Within.refl _ | with_reducible assumption | with_reducible refine Within.alloc ?_ _ | with_reducible refine Within.drew ?_ | with_reducible refine Within.drewN ?_ _ | with_reducible refine Within.setCell ?_ (by first | (simp; done) | (simp; omega)) _ | with_reducible refine Within.trans ?_ (by assumption)))
  · intro wq hq
    have hcq := hq.cells
    clear hq
    go_simp
    first | rfl | (trace_state; fail)
  try simp only [Act.put, List.setIfInBounds_toArray, List.set_cons_zero, List.set_cons_succ]
  apply sch_firm rfl rfl (by repeat (first | with_reducible exact Within.refl _ | with_reducible assumption | with_reducible refine Within.alloc ?_ _ | with_reducible refine Within.drew ?_ | with_reducible refine Within.drewN ?_ _ | with_reducible refine Within.setCell ?_ (by first | (simp; done) | (simp; omega)) _ | with_reducible refine Within.trans ?_ (by assumption)))
  · intro wq hq
    have hcq := hq.cells
    clear hq
    go_simp
    first | rfl | (trace_state; fail)
  try simp only [Act.put, List.setIfInBounds_toArray, List.set_cons_zero, List.set_cons_succ]
  refine sch_two rfl rfl rfl rfl (fun K hK => ?_) (fun K hK => ?_)
  · refine wp_new_int rfl ?_
    intro z w4 hT hb4 hge
    have hz0 : w0.heap.size ≤ z := Nat.le_trans (Below.size (by show Within w0 _; repeat (first | with_reducible exact Within.refl _ | with_reducible assumption | with_reducible refine Within.alloc ?_ _ | with_reducible refine Within.drew ?_ | with_reducible refine Within.drewN ?_ _ | with_reducible refine Within.setCell ?_ (by first | (simp; done) | (simp; omega)) _ | with_reducible refine Within.trans ?_ (by assumption)))) hge
    refine hK _ _ (by repeat (first | with_reducible exact Within.refl _ | with_reducible assumption | with_reducible refine Within.alloc ?_ _ | with_reducible refine Within.drew ?_ | with_reducible refine Within.drewN ?_ _ | with_reducible refine Within.setCell ?_ (by first | (simp; done) | (simp; omega)) _ | with_reducible refine Within.trans ?_ (by assumption))) ?_
    clear hK K
    try simp only [Act.put, List.setIfInBounds_toArray, List.set_cons_zero, List.set_cons_succ]
    refine sch_one rfl rfl (fun K hK => ?_)
    go_simp
    refine (L1.out _ (IntB.of hI1 (by repeat (first | with_reducible exact Within.refl _ | with_reducible assumption | with_reducible refine Within.alloc ?_ _ | with_reducible refine Within.drew ?_ | with_reducible refine Within.drewN ?_ _ | with_reducible refine Within.setCell ?_ (by first | (simp; done) | (simp; omega)) _ | with_reducible refine Within.trans ?_ (by assumption))))).mono ?_; rintro e5 w5 ⟨q1, rfl, hA1, hb5⟩
    refine hK _ _ (fun _ => (by repeat (first | with_reducible exact Within.refl _ | with_reducible assumption | with_reducible refine Within.alloc ?_ _ | with_reducible refine Within.drew ?_ | with_reducible refine Within.drewN ?_ _ | with_reducible refine Within.setCell ?_ (by first | (simp; done) | (simp; omega)) _ | with_reducible refine Within.trans ?_ (by assumption)))) ?_
    clear hK K
    try simp only [Act.put, List.setIfInBounds_toArray, List.set_cons_zero, List.set_cons_succ]
    apply sch_firm rfl rfl (by repeat (first | with_reducible exact Within.refl _ | with_reducible assumption | with_reducible refine Within.alloc ?_ _ | with_reducible refine Within.drew ?_ | with_reducible refine Within.drewN ?_ _ | with_reducible refine Within.setCell ?_ (by first | (simp; done) | (simp; omega)) _ | with_reducible refine Within.trans ?_ (by assumption)))
    · intro wq hq
      have hcq := hq.cells
      clear hq
      go_simp
      first | rfl | (trace_state; fail)
    try simp only [Act.put, List.setIfInBounds_toArray, List.set_cons_zero, List.set_cons_succ]
    refine sch_one rfl rfl (fun K hK => ?_)
    go_simp
    refine (L2.out _ (IntB.of hI2 (by repeat (first | with_reducible exact Within.refl _ | with_reducible assumption | with_reducible refine Within.alloc ?_ _ | with_reducible refine Within.drew ?_ | with_reducible refine Within.drewN ?_ _ | with_reducible refine Within.setCell ?_ (by first | (simp; done) | (simp; omega)) _ | with_reducible refine Within.trans ?_ (by assumption))))).mono ?_; rintro e6 w6 ⟨q2, rfl, hA2, hb6⟩
    refine hK _ _ (fun _ => (by repeat (first | with_reducible exact Within.refl _ | with_reducible assumption | with_reducible refine Within.alloc ?_ _ | with_reducible refine Within.drew ?_ | with_reducible refine Within.drewN ?_ _ | with_reducible refine Within.setCell ?_ (by first | (simp; done) | (simp; omega)) _ | with_reducible refine Within.trans ?_ (by assumption)))) ?_
    clear hK K
    try simp only [Act.put, List.setIfInBounds_toArray, List.set_cons_zero, List.set_cons_succ]
    apply sch_firm rfl rfl (by repeat (first | with_reducible exact Within.refl _ | with_reducible assumption | with_reducible refine Within.alloc ?_ _ | with_reducible refine Within.drew ?_ | with_reducible refine Within.drewN ?_ _ | with_reducible refine Within.setCell ?_ (by first | (simp; done) | (simp; omega)) _ | with_reducible refine Within.trans ?_ (by assumption)))
    · intro wq hq
      have hcq := hq.cells
      clear hq
      go_simp
      first | rfl | (trace_state; fail)
    try simp only [Act.put, List.setIfInBounds_toArray, List.set_cons_zero, List.set_cons_succ]
    refine sch_one rfl rfl (fun K hK => ?_)
    go_simp
    refine (BAdd z q1 q2 v1 v2 HV.out.1 HV.out.2 _ (IntTy.of hT (by repeat (first | with_reducible exact Within.refl _ | with_reducible assumption | with_reducible refine Within.alloc ?_ _ | with_reducible refine Within.drew ?_ | with_reducible refine Within.drewN ?_ _ | with_reducible refine Within.setCell ?_ (by first | (simp; done) | (simp; omega)) _ | with_reducible refine Within.trans ?_ (by assumption)))) (IntB.of hA1 (by repeat (first | with_reducible exact Within.refl _ | with_reducible assumption | with_reducible refine Within.alloc ?_ _ | with_reducible refine Within.drew ?_ | with_reducible refine Within.drewN ?_ _ | with_reducible refine Within.setCell ?_ (by first | (simp; done) | (simp; omega)) _ | with_reducible refine Within.trans ?_ (by assumption)))) (IntB.of hA2 (by repeat (first | with_reducible exact Within.refl _ | with_reducible assumption | with_reducible refine Within.alloc ?_ _ | with_reducible refine Within.drew ?_ | with_reducible refine Within.drewN ?_ _ | with_reducible refine Within.setCell ?_ (by first | (simp; done) | (simp; omega)) _ | with_reducible refine Within.trans ?_ (by assumption))))).mono ?_; rintro e7 w7 ⟨rfl, hJ, hG⟩
    have hv7 : Within w0 w7 := Within.grown (by repeat (first | with_reducible exact Within.refl _ | with_reducible assumption | with_reducible refine Within.alloc ?_ _ | with_reducible refine Within.drew ?_ | with_reducible refine Within.drewN ?_ _ | with_reducible refine Within.setCell ?_ (by first | (simp; done) | (simp; omega)) _ | with_reducible refine Within.trans ?_ (by assumption))) hG hz0
    have hz5 := (hv7.block _ l2).trans hz
    obtain ⟨y0, y1, yf⟩ := ex_cells hz5
    have yl := Nat.lt_of_lt_of_le l2 hv7.sizes
    refine hK _ _ (fun _ => (by repeat (first | with_reducible exact Within.refl _ | with_reducible assumption | with_reducible refine Within.alloc ?_ _ | with_reducible refine Within.drew ?_ | with_reducible refine Within.drewN ?_ _ | with_reducible refine Within.setCell ?_ (by first | (simp; done) | (simp; omega)) _ | with_reducible refine Within.trans ?_ (by assumption)))) ?_
    clear hK K
    try simp only [Act.put, List.setIfInBounds_toArray, List.set_cons_zero, List.set_cons_succ]
    apply sch_firm rfl rfl (by repeat (first | with_reducible exact Within.refl _ | with_reducible assumption | with_reducible refine Within.alloc ?_ _ | with_reducible refine Within.drew ?_ | with_reducible refine Within.drewN ?_ _ | with_reducible refine Within.setCell ?_ (by first | (simp; done) | (simp; omega)) _ | with_reducible refine Within.trans ?_ (by assumption)))
    · intro wq hq
      have hcq := hq.cells
      clear hq
      go_simp
      first | rfl | (trace_state; fail)
    try simp only [Act.put, List.setIfInBounds_toArray, List.set_cons_zero, List.set_cons_succ]
    refine sch_one rfl rfl (fun K hK => ?_)
    go_simp
    refine hK _ _ (fun h => absurd h (by decide)) ?_
    clear hK K
    try simp only [Act.put, List.setIfInBounds_toArray, List.set_cons_zero, List.set_cons_succ]
    refine sch_nil ?_
    obtain ⟨r0, r1, rI⟩ := ex_set (E := e) hz5 hJ (show z ≠ (w.heap.size + 2) by omega)
    have rl : (w.heap.size + 2) < w7.heap.size := by have := yl; omega
    go_wp2
    refine bodyPost_ret (v := .agg #[.pointer (some ⟨z, 0, none⟩), .int .i64 e]) (by simp [results, Tryz.results48, go_sem, r0, r1, rl]) rfl ⟨z, rfl, rI, ?_⟩
    exact ((hw0.trans hv7).setCell (by show _ ≤ (w.heap.size + 2); omega) _).setCell (by show _ ≤ (w.heap.size + 2); omega) _
  · go_simp
    refine (L1.out _ (IntB.of hI1 (by repeat (first | with_reducible exact Within.refl _ | with_reducible assumption | with_reducible refine Within.alloc ?_ _ | with_reducible refine Within.drew ?_ | with_reducible refine Within.drewN ?_ _ | with_reducible refine Within.setCell ?_ (by first | (simp; done) | (simp; omega)) _ | with_reducible refine Within.trans ?_ (by assumption))))).mono ?_; rintro e5 w5 ⟨q1, rfl, hA1, hb5⟩
    refine hK _ _ (by repeat (first | with_reducible exact Within.refl _ | with_reducible assumption | with_reducible refine Within.alloc ?_ _ | with_reducible refine Within.drew ?_ | with_reducible refine Within.drewN ?_ _ | with_reducible refine Within.setCell ?_ (by first | (simp; done) | (simp; omega)) _ | with_reducible refine Within.trans ?_ (by assumption))) ?_
    clear hK K
    try simp only [Act.put, List.setIfInBounds_toArray, List.set_cons_zero, List.set_cons_succ]
    apply sch_firm rfl rfl (by repeat (first | with_reducible exact Within.refl _ | with_reducible assumption | with_reducible refine Within.alloc ?_ _ | with_reducible refine Within.drew ?_ | with_reducible refine Within.drewN ?_ _ | with_reducible refine Within.setCell ?_ (by first | (simp; done) | (simp; omega)) _ | with_reducible refine Within.trans ?_ (by assumption)))
    · intro wq hq
      have hcq := hq.cells
      clear hq
      go_simp
      first | rfl | (trace_state; fail)
    try simp only [Act.put, List.setIfInBounds_toArray, List.set_cons_zero, List.set_cons_succ]
    refine sch_two rfl rfl rfl rfl (fun K hK => ?_) (fun K hK => ?_)
    · refine wp_new_int rfl ?_
      intro z w4 hT hb4 hge
      have hz0 : w0.heap.size ≤ z := Nat.le_trans (Below.size (by show Within w0 _; repeat (first | with_reducible exact Within.refl _ | with_reducible assumption | with_reducible refine Within.alloc ?_ _ | with_reducible refine Within.drew ?_ | with_reducible refine Within.drewN ?_ _ | with_reducible refine Within.setCell ?_ (by first | (simp; done) | (simp; omega)) _ | with_reducible refine Within.trans ?_ (by assumption)))) hge
      refine hK _ _ (by repeat (first | with_reducible exact Within.refl _ | with_reducible assumption | with_reducible refine Within.alloc ?_ _ | with_reducible refine Within.drew ?_ | with_reducible refine Within.drewN ?_ _ | with_reducible refine Within.setCell ?_ (by first | (simp; done) | (simp; omega)) _ | with_reducible refine Within.trans ?_ (by assumption))) ?_
      clear hK K
      try simp only [Act.put, List.setIfInBounds_toArray, List.set_cons_zero, List.set_cons_succ]
      refine sch_one rfl rfl (fun K hK => ?_)
      go_simp
      refine (L2.out _ (IntB.of hI2 (by repeat (first | with_reducible exact Within.refl _ | with_reducible assumption | with_reducible refine Within.alloc ?_ _ | with_reducible refine Within.drew ?_ | with_reducible refine Within.drewN ?_ _ | with_reducible refine Within.setCell ?_ (by first | (simp; done) | (simp; omega)) _ | with_reducible refine Within.trans ?_ (by assumption))))).mono ?_; rintro e6 w6 ⟨q2, rfl, hA2, hb6⟩
      refine hK _ _ (fun _ => (by repeat (first | with_reducible exact Within.refl _ | with_reducible assumption | with_reducible refine Within.alloc ?_ _ | with_reducible refine Within.drew ?_ | with_reducible refine Within.drewN ?_ _ | with_reducible refine Within.setCell ?_ (by first | (simp; done) | (simp; omega)) _ | with_reducible refine Within.trans ?_ (by assumption)))) ?_
      clear hK K
      try simp only [Act.put, List.setIfInBounds_toArray, List.set_cons_zero, List.set_cons_succ]
      apply sch_firm rfl rfl (by repeat (first | with_reducible exact Within.refl _ | with_reducible assumption | with_reducible refine Within.alloc ?_ _ | with_reducible refine Within.drew ?_ | with_reducible refine Within.drewN ?_ _ | with_reducible refine Within.setCell ?_ (by first | (simp; done) | (simp; omega)) _ | with_reducible refine Within.trans ?_ (by assumption)))
      · intro wq hq
        have hcq := hq.cells
        clear hq
        go_simp
        first | rfl | (trace_state; fail)
      try simp only [Act.put, List.setIfInBounds_toArray, List.set_cons_zero, List.set_cons_succ]
      refine sch_one rfl rfl (fun K hK => ?_)
      go_simp
      refine (BAdd z q1 q2 v1 v2 HV.out.1 HV.out.2 _ (IntTy.of hT (by repeat (first | with_reducible exact Within.refl _ | with_reducible assumption | with_reducible refine Within.alloc ?_ _ | with_reducible refine Within.drew ?_ | with_reducible refine Within.drewN ?_ _ | with_reducible refine Within.setCell ?_ (by first | (simp; done) | (simp; omega)) _ | with_reducible refine Within.trans ?_ (by assumption)))) (IntB.of hA1 (by repeat (first | with_reducible exact Within.refl _ | with_reducible assumption | with_reducible refine Within.alloc ?_ _ | with_reducible refine Within.drew ?_ | with_reducible refine Within.drewN ?_ _ | with_reducible refine Within.setCell ?_ (by first | (simp; done) | (simp; omega)) _ | with_reducible refine Within.trans ?_ (by assumption)))) (IntB.of hA2 (by repeat (first | with_reducible exact Within.refl _ | with_reducible assumption | with_reducible refine Within.alloc ?_ _ | with_reducible refine Within.drew ?_ | with_reducible refine Within.drewN ?_ _ | with_reducible refine Within.setCell ?_ (by first | (simp; done) | (simp; omega)) _ | with_reducible refine Within.trans ?_ (by assumption))))).mono ?_; rintro e7 w7 ⟨rfl, hJ, hG⟩
      have hv7 : Within w0 w7 := Within.grown (by repeat (first | with_reducible exact Within.refl _ | with_reducible assumption | with_reducible refine Within.alloc ?_ _ | with_reducible refine Within.drew ?_ | with_reducible refine Within.drewN ?_ _ | with_reducible refine Within.setCell ?_ (by first | (simp; done) | (simp; omega)) _ | with_reducible refine Within.trans ?_ (by assumption))) hG hz0
      have hz5 := (hv7.block _ l2).trans hz
      obtain ⟨y0, y1, yf⟩ := ex_cells hz5
      have yl := Nat.lt_of_lt_of_le l2 hv7.sizes
      refine hK _ _ (fun _ => (by repeat (first | with_reducible exact Within.refl _ | with_reducible assumption | with_reducible refine Within.alloc ?_ _ | with_reducible refine Within.drew ?_ | with_reducible refine Within.drewN ?_ _ | with_reducible refine Within.setCell ?_ (by first | (simp; done) | (simp; omega)) _ | with_reducible refine Within.trans ?_ (by assumption)))) ?_
      clear hK K
      try simp only [Act.put, List.setIfInBounds_toArray, List.set_cons_zero, List.set_cons_succ]
      apply sch_firm rfl rfl (by repeat (first | with_reducible exact Within.refl _ | with_reducible assumption | with_reducible refine Within.alloc ?_ _ | with_reducible refine Within.drew ?_ | with_reducible refine Within.drewN ?_ _ | with_reducible refine Within.setCell ?_ (by first | (simp; done) | (simp; omega)) _ | with_reducible refine Within.trans ?_ (by assumption)))
      · intro wq hq
        have hcq := hq.cells
        clear hq
        go_simp
        first | rfl | (trace_state; fail)
      try simp only [Act.put, List.setIfInBounds_toArray, List.set_cons_zero, List.set_cons_succ]
      refine sch_one rfl rfl (fun K hK => ?_)
      go_simp
      refine hK _ _ (fun h => absurd h (by decide)) ?_
      clear hK K
      try simp only [Act.put, List.setIfInBounds_toArray, List.set_cons_zero, List.set_cons_succ]
      refine sch_nil ?_
      obtain ⟨r0, r1, rI⟩ := ex_set (E := e) hz5 hJ (show z ≠ (w.heap.size + 2) by omega)
      have rl : (w.heap.size + 2) < w7.heap.size := by have := yl; omega
      go_wp2
      refine bodyPost_ret (v := .agg #[.pointer (some ⟨z, 0, none⟩), .int .i64 e]) (by simp [results, Tryz.results48, go_sem, r0, r1, rl]) rfl ⟨z, rfl, rI, ?_⟩
      exact ((hw0.trans hv7).setCell (by show _ ≤ (w.heap.size + 2); omega) _).setCell (by show _ ≤ (w.heap.size + 2); omega) _
    · go_simp
      refine (L2.out _ (IntB.of hI2 (by repeat (first | with_reducible exact Within.refl _ | with_reducible assumption | with_reducible refine Within.alloc ?_ _ | with_reducible refine Within.drew ?_ | with_reducible refine Within.drewN ?_ _ | with_reducible refine Within.setCell ?_ (by first | (simp; done) | (simp; omega)) _ | with_reducible refine Within.trans ?_ (by assumption))))).mono ?_; rintro e6 w6 ⟨q2, rfl, hA2, hb6⟩
      refine hK _ _ (by repeat (first | with_reducible exact Within.refl _ | with_reducible assumption | with_reducible refine Within.alloc ?_ _ | with_reducible refine Within.drew ?_ | with_reducible refine Within.drewN ?_ _ | with_reducible refine Within.setCell ?_ (by first | (simp; done) | (simp; omega)) _ | with_reducible refine Within.trans ?_ (by assumption))) ?_
      clear hK K
      try simp only [Act.put, List.setIfInBounds_toArray, List.set_cons_zero, List.set_cons_succ]
      apply sch_firm rfl rfl (by repeat (first | with_reducible exact Within.refl _ | with_reducible assumption | with_reducible refine Within.alloc ?_ _ | with_reducible refine Within.drew ?_ | with_reducible refine Within.drewN ?_ _ | with_reducible refine Within.setCell ?_ (by first | (simp; done) | (simp; omega)) _ | with_reducible refine Within.trans ?_ (by assumption)))
      · intro wq hq
        have hcq := hq.cells
        clear hq
        go_simp
        first | rfl | (trace_state; fail)
      try simp only [Act.put, List.setIfInBounds_toArray, List.set_cons_zero, List.set_cons_succ]
      refine sch_one rfl rfl (fun K hK => ?_)
      refine wp_new_int rfl ?_
      intro z w4 hT hb4 hge
      have hz0 : w0.heap.size ≤ z := Nat.le_trans (Below.size (by show Within w0 _; repeat (first | with_reducible exact Within.refl _ | with_reducible assumption | with_reducible refine Within.alloc ?_ _ | with_reducible refine Within.drew ?_ | with_reducible refine Within.drewN ?_ _ | with_reducible refine Within.setCell ?_ (by first | (simp; done) | (simp; omega)) _ | with_reducible refine Within.trans ?_ (by assumption)))) hge
      refine hK _ _ (fun _ => (by repeat (first | with_reducible exact Within.refl _ | with_reducible assumption | with_reducible refine Within.alloc ?_ _ | with_reducible refine Within.drew ?_ | with_reducible refine Within.drewN ?_ _ | with_reducible refine Within.setCell ?_ (by first | (simp; done) | (simp; omega)) _ | with_reducible refine Within.trans ?_ (by assumption)))) ?_
      clear hK K
      try simp only [Act.put, List.setIfInBounds_toArray, List.set_cons_zero, List.set_cons_succ]
      refine sch_one rfl rfl (fun K hK => ?_)
      go_simp
      refine (BAdd z q1 q2 v1 v2 HV.out.1 HV.out.2 _ (IntTy.of hT (by repeat (first | with_reducible exact Within.refl _ | with_reducible assumption | with_reducible refine Within.alloc ?_ _ | with_reducible refine Within.drew ?_ | with_reducible refine Within.drewN ?_ _ | with_reducible refine Within.setCell ?_ (by first | (simp; done) | (simp; omega)) _ | with_reducible refine Within.trans ?_ (by assumption)))) (IntB.of hA1 (by repeat (first | with_reducible exact Within.refl _ | with_reducible assumption | with_reducible refine Within.alloc ?_ _ | with_reducible refine Within.drew ?_ | with_reducible refine Within.drewN ?_ _ | with_reducible refine Within.setCell ?_ (by first | (simp; done) | (simp; omega)) _ | with_reducible refine Within.trans ?_ (by assumption)))) (IntB.of hA2 (by repeat (first | with_reducible exact Within.refl _ | with_reducible assumption | with_reducible refine Within.alloc ?_ _ | with_reducible refine Within.drew ?_ | with_reducible refine Within.drewN ?_ _ | with_reducible refine Within.setCell ?_ (by first | (simp; done) | (simp; omega)) _ | with_reducible refine Within.trans ?_ (by assumption))))).mono ?_; rintro e7 w7 ⟨rfl, hJ, hG⟩
      have hv7 : Within w0 w7 := Within.grown (by repeat (first | with_reducible exact Within.refl _ | with_reducible assumption | with_reducible refine Within.alloc ?_ _ | with_reducible refine Within.drew ?_ | with_reducible refine Within.drewN ?_ _ | with_reducible refine Within.setCell ?_ (by first | (simp; done) | (simp; omega)) _ | with_reducible refine Within.trans ?_ (by assumption))) hG hz0
      have hz5 := (hv7.block _ l2).trans hz
      obtain ⟨y0, y1, yf⟩ := ex_cells hz5
      have yl := Nat.lt_of_lt_of_le l2 hv7.sizes
      refine hK _ _ (fun _ => (by repeat (first | with_reducible exact Within.refl _ | with_reducible assumption | with_reducible refine Within.alloc ?_ _ | with_reducible refine Within.drew ?_ | with_reducible refine Within.drewN ?_ _ | with_reducible refine Within.setCell ?_ (by first | (simp; done) | (simp; omega)) _ | with_reducible refine Within.trans ?_ (by assumption)))) ?_
      clear hK K
      try simp only [Act.put, List.setIfInBounds_toArray, List.set_cons_zero, List.set_cons_succ]
      apply sch_firm rfl rfl (by repeat (first | with_reducible exact Within.refl _ | with_reducible assumption | with_reducible refine Within.alloc ?_ _ | with_reducible refine Within.drew ?_ | with_reducible refine Within.drewN ?_ _ | with_reducible refine Within.setCell ?_ (by first | (simp; done) | (simp; omega)) _ | with_reducible refine Within.trans ?_ (by assumption)))
      · intro wq hq
        have hcq := hq.cells
        clear hq
        go_simp
        first | rfl | (trace_state; fail)
      try simp only [Act.put, List.setIfInBounds_toArray, List.set_cons_zero, List.set_cons_succ]
      refine sch_one rfl rfl (fun K hK => ?_)
      go_simp
      refine hK _ _ (fun h => absurd h (by decide)) ?_
      clear hK K
      try simp only [Act.put, List.setIfInBounds_toArray, List.set_cons_zero, List.set_cons_succ]
      refine sch_nil ?_
      obtain ⟨r0, r1, rI⟩ := ex_set (E := e) hz5 hJ (show z ≠ (w.heap.size + 2) by omega)
      have rl : (w.heap.size + 2) < w7.heap.size := by have := yl; omega
      go_wp2
      refine bodyPost_ret (v := .agg #[.pointer (some ⟨z, 0, none⟩), .int .i64 e]) (by simp [results, Tryz.results48, go_sem, r0, r1, rl]) rfl ⟨z, rfl, rI, ?_⟩
      exact ((hw0.trans hv7).setCell (by show _ ≤ (w.heap.size + 2); omega) _).setCell (by show _ ≤ (w.heap.size + 2); omega) _
end Go.Proofs.YtjmaggfddinbkaaGreatDoor
end

section
namespace Go.Proofs.YtjmaggfddinbkaaGreatDoor
open Go.RowKit
def valE (n E : Int) (L : Nat) : Int := n * 2 ^ (E + L).toNat
theorem val_low {n E e : Int} {L k : Nat} (he : E - e = (k : Int)) (hL : -(L : Int) ≤ e) : valE (n * 2 ^ k) e L = valE n E L := by
  unfold valE
  rw [Int.mul_assoc, ← Int.pow_add, show k + (e + L).toNat = (E + L).toNat by omega]
theorem val_zero (E : Int) (L : Nat) : valE 0 E L = 0 := by unfold valE; rw [Int.zero_mul]
theorem val_add (n m E : Int) (L : Nat) : valE n E L + valE m E L = valE (n + m) E L := by unfold valE; rw [Int.add_mul]
theorem val_neg (n E : Int) (L : Nat) : valE (-n) E L = -valE n E L := by unfold valE; rw [Int.neg_mul]
theorem val_len (n E : Int) (L : Nat) : (dg n.natAbs).length ≤ (dg (valE n E L).natAbs).length := by
  apply dg_len_mono
  unfold valE
  rw [Int.natAbs_mul, Int.natAbs_pow]
  exact Nat.le_mul_of_pos_right _ (Nat.pow_pos (by decide))
theorem val_sign (n E : Int) (L : Nat) : (valE n E L).sign = n.sign := by
  unfold valE
  rw [Int.sign_mul, Int.sign_eq_one_of_pos (Int.pow_pos (by decide)), Int.mul_one]
def ExW (L U : Nat) (z : Int) (W : World) (e : Ending) (w' : World) : Prop := ∃ h n E, e = .returned (.agg #[.pointer (some ⟨h, 0, none⟩), .int .i64 E]) ∧ IntB w' h n ∧ -(L : Int) ≤ E ∧ E ≤ (U : Int) ∧ valE n E L = z ∧ Within W w'
theorem ExS.w {W w' : World} {n E : Int} {e : Ending} (L U : Nat) (h : ExS W n E e w') (h1 : -(L : Int) ≤ E) (h2 : E ≤ (U : Int)) : ExW L U (valE n E L) W e w' := by
  obtain ⟨g, k1, k2, k3⟩ := h
  exact ⟨g, n, E, k1, k2, h1, h2, rfl, k3⟩
theorem Xadd (n1 n2 E1 E2 : Int) (g1 g2 L U : Nat) (hL : L ≤ 9000) (hU : U ≤ 6000) (a1 : -(L : Int) ≤ E1) (a2 : E1 ≤ (U : Int)) (b1 : -(L : Int) ≤ E2) (b2 : E2 ≤ (U : Int)) (hl1 : (dg n1.natAbs).length ≤ 900) (hl2 : (dg n2.natAbs).length ≤ 900) (w : World) (hI1 : IntB w g1 n1) (hI2 : IntB w g2 n2) : Calls Tryz.prog 48 #[.agg #[.pointer (some ⟨g1, 0, none⟩), .int .i64 E1], .agg #[.pointer (some ⟨g2, 0, none⟩), .int .i64 E2]] w (ExW L U (valE n1 E1 L + valE n2 E2 L) w) := by
  by_cases h1 : n1 = 0
  · subst h1
    rw [val_zero, Int.zero_add]
    exact (Xadd_l n2 E1 E2 _ g1 g2 rfl w hI1 hI2).mono fun e w' h => h.w L U b1 b2
  · by_cases h2 : n2 = 0
    · subst h2
      rw [val_zero, Int.add_zero]
      exact (Xadd_r n1 E1 E2 _ g1 g2 rfl h1 w hI1 hI2).mono fun e w' h => h.w L U a1 a2
    · obtain ⟨e, he⟩ : ∃ e, min E1 E2 = e := ⟨_, rfl⟩
      obtain ⟨k1, hk1⟩ : ∃ k1 : Nat, E1 - e = (k1 : Int) := ⟨(E1 - e).toNat, by omega⟩
      obtain ⟨k2, hk2⟩ : ∃ k2 : Nat, E2 - e = (k2 : Int) := ⟨(E2 - e).toNat, by omega⟩
      have len : ∀ (n : Int) (k : Nat), k ≤ 16000 → (dg n.natAbs).length ≤ 900 → (dg (n * 2 ^ k).natAbs).length ≤ 1000000 := by
        intro n k hk hl
        rw [Int.natAbs_mul, Int.natAbs_pow]
        exact Nat.le_trans (dg_shl_le (k := 500) hl (by omega)) (by decide)
      refine (Xadd_sum n1 n2 E1 E2 e g1 g2 he (n1 * 2 ^ k1) (n2 * 2 ^ k2) h1 h2 ⟨len n1 k1 (by omega) hl1, len n2 k2 (by omega) hl2⟩ (Lib.hid fun w h => Xlow n1 E1 e g1 k1 hk1 (by omega) (Nat.le_trans hl1 (by decide)) w h) (Lib.hid fun w h => Xlow n2 E2 e g2 k2 hk2 (by omega) (Nat.le_trans hl2 (by decide)) w h) w hI1 hI2).mono fun e' w' h => ?_
      have := h.w L U (by omega) (by omega)
      rw [← val_add, val_low hk1 (by omega), val_low hk2 (by omega)] at this
      exact this
set_option maxRecDepth 100000 in
set_option maxHeartbeats 600000 in
theorem Xcmp0 (n1 n2 E1 E2 z : Int) (g1 g2 L U : Nat) (CN : Hid (∀ w, IntB w g2 n2 → Calls Tryz.prog 50 #[.agg #[.pointer (some ⟨g2, 0, none⟩), .int .i64 E2]] w (ExR w (-n2) E2))) (CA : Hid (∀ h w, IntB w g1 n1 → IntB w h (-n2) → Calls Tryz.prog 48 #[.agg #[.pointer (some ⟨g1, 0, none⟩), .int .i64 E1], .agg #[.pointer (some ⟨h, 0, none⟩), .int .i64 E2]] w (ExW L U z w))) (w : World) (hI1 : IntB w g1 n1) (hI2 : IntB w g2 n2) : Calls Tryz.prog 30 #[.agg #[.pointer (some ⟨g1, 0, none⟩), .int .i64 E1], .agg #[.pointer (some ⟨g2, 0, none⟩), .int .i64 E2]] w (fun e w' => e = .returned (.int .i64 z.sign) ∧ Within w w') := by
  go_enter Tryz.func30, Tryz.ntmps30
  go_wp2
  refine wp_region_schG (fun W => W.cell? ⟨w.heap.size, 0, none⟩ = some (.pointer (some ⟨g1, 0, none⟩)) ∧ W.cell? ⟨w.heap.size, 1, none⟩ = some (.int .i64 E1) ∧ W.cell? ⟨w.heap.size + 1, 0, none⟩ = some (.pointer (some ⟨g2, 0, none⟩)) ∧ W.cell? ⟨w.heap.size + 1, 1, none⟩ = some (.int .i64 E2) ∧ IntB W g1 n1 ∧ IntB W g2 n2 ∧ w.heap.size < W.heap.size ∧ w.heap.size + 1 < W.heap.size ∧ Within w W) 6 (.firm 0 (.firm 1 (.one 2 (.one 3 (.firm 4 (.one 5 (.one 6 .nil))))))) (by kernel_rfl) (by kernel_rfl) ⟨by go_simp, by go_simp, by go_simp, by go_simp, hI1.of (by repeat (first | with_reducible exact Within.refl _ | with_reducible assumption | with_reducible refine Within.alloc ?_ _ | with_reducible refine Within.drew ?_ | with_reducible refine Within.drewN ?_ _ | with_reducible refine Within.setCell ?_ (by first | (simp; done) | (simp; omega)) _ | with_reducible refine Within.trans ?_ (by assumption))), hI2.of (by repeat (first | with_reducible exact Within.refl _ | with_reducible assumption | with_reducible refine Within.alloc ?_ _ | with_reducible refine Within.drew ?_ | with_reducible refine Within.drewN ?_ _ | with_reducible refine Within.setCell ?_ (by first | (simp; done) | (simp; omega)) _ | with_reducible refine Within.trans ?_ (by assumption))), by first | (simp; done) | (simp; omega), by first | (simp; done) | (simp; omega), (by repeat (first | with_reducible exact Within.refl _ | with_reducible assumption | with_reducible refine Within.alloc ?_ _ | with_reducible refine Within.drew ?_ | with_reducible refine Within.drewN ?_ _ | with_reducible refine Within.setCell ?_ (by first | (simp; done) | (simp; omega)) _ | with_reducible refine Within.trans ?_ (by assumption)))⟩ ?_
  rintro w0 ⟨c0, c1, d0, d1, hI1, hI2, l0, l1, hw0⟩
  try simp only [Act.put, List.setIfInBounds_toArray, List.set_cons_zero, List.set_cons_succ]
  apply sch_firm rfl rfl (by repeat (first | with_reducible exact Within.refl _ | with_reducible assumption | with_reducible refine Within.alloc ?_ _ | with_reducible refine Within.drew ?_ | with_reducible refine Within.drewN ?_ _ | with_reducible refine Within.setCell ?_ (by first | (simp; done) | (simp; omega)) _ | with_reducible refine Within.trans ?_ (by assumption)))
  · intro wq hq
    have hcq := hq.cells
    clear hq
    go_simp
    first | rfl | (trace_state; fail)
  try simp only [Act.put, List.setIfInBounds_toArray, List.set_cons_zero, List.set_cons_succ]
  apply sch_firm rfl rfl (by repeat (first | with_reducible exact Within.refl _ | with_reducible assumption | with_reducible refine Within.alloc ?_ _ | with_reducible refine Within.drew ?_ | with_reducible refine Within.drewN ?_ _ | with_reducible refine Within.setCell ?_ (by first | (simp; done) | (simp; omega)) _ | with_reducible refine Within.trans ?_ (by assumption)))
  · intro wq hq
    have hcq := hq.cells
    clear hq
    go_simp
    first | rfl | (trace_state; fail)
  try simp only [Act.put, List.setIfInBounds_toArray, List.set_cons_zero, List.set_cons_succ]
  refine sch_one rfl rfl (fun K hK => ?_)
  go_simp
  refine (CN.out _ (IntB.of hI2 (by repeat (first | with_reducible exact Within.refl _ | with_reducible assumption | with_reducible refine Within.alloc ?_ _ | with_reducible refine Within.drew ?_ | with_reducible refine Within.drewN ?_ _ | with_reducible refine Within.setCell ?_ (by first | (simp; done) | (simp; omega)) _ | with_reducible refine Within.trans ?_ (by assumption))))).mono ?_; rintro e5 w5 ⟨h, rfl, hN, _, hb5⟩
  refine hK _ _ (fun _ => (by repeat (first | with_reducible exact Within.refl _ | with_reducible assumption | with_reducible refine Within.alloc ?_ _ | with_reducible refine Within.drew ?_ | with_reducible refine Within.drewN ?_ _ | with_reducible refine Within.setCell ?_ (by first | (simp; done) | (simp; omega)) _ | with_reducible refine Within.trans ?_ (by assumption)))) ?_
  clear hK K
  try simp only [Act.put, List.setIfInBounds_toArray, List.set_cons_zero, List.set_cons_succ]
  refine sch_one rfl rfl (fun K hK => ?_)
  go_simp
  refine (CA.out h _ (IntB.of hI1 (by repeat (first | with_reducible exact Within.refl _ | with_reducible assumption | with_reducible refine Within.alloc ?_ _ | with_reducible refine Within.drew ?_ | with_reducible refine Within.drewN ?_ _ | with_reducible refine Within.setCell ?_ (by first | (simp; done) | (simp; omega)) _ | with_reducible refine Within.trans ?_ (by assumption)))) (IntB.of hN (by repeat (first | with_reducible exact Within.refl _ | with_reducible assumption | with_reducible refine Within.alloc ?_ _ | with_reducible refine Within.drew ?_ | with_reducible refine Within.drewN ?_ _ | with_reducible refine Within.setCell ?_ (by first | (simp; done) | (simp; omega)) _ | with_reducible refine Within.trans ?_ (by assumption))))).mono ?_; rintro e6 w6 ⟨q, m, F, rfl, hM, _, _, hv, hb6⟩
  refine hK _ _ (fun _ => (by repeat (first | with_reducible exact Within.refl _ | with_reducible assumption | with_reducible refine Within.alloc ?_ _ | with_reducible refine Within.drew ?_ | with_reducible refine Within.drewN ?_ _ | with_reducible refine Within.setCell ?_ (by first | (simp; done) | (simp; omega)) _ | with_reducible refine Within.trans ?_ (by assumption)))) ?_
  clear hK K
  try simp only [Act.put, List.setIfInBounds_toArray, List.set_cons_zero, List.set_cons_succ]
  apply sch_firm rfl rfl (by repeat (first | with_reducible exact Within.refl _ | with_reducible assumption | with_reducible refine Within.alloc ?_ _ | with_reducible refine Within.drew ?_ | with_reducible refine Within.drewN ?_ _ | with_reducible refine Within.setCell ?_ (by first | (simp; done) | (simp; omega)) _ | with_reducible refine Within.trans ?_ (by assumption)))
  · intro wq hq
    have hcq := hq.cells
    clear hq
    go_simp
    first | rfl | (trace_state; fail)
  try simp only [Act.put, List.setIfInBounds_toArray, List.set_cons_zero, List.set_cons_succ]
  refine sch_one rfl rfl (fun K hK => ?_)
  go_simp
  refine (Bsign q m _ hM).mono ?_; rintro e7 w7 ⟨rfl, rfl⟩
  refine hK _ _ (fun _ => (by repeat (first | with_reducible exact Within.refl _ | with_reducible assumption | with_reducible refine Within.alloc ?_ _ | with_reducible refine Within.drew ?_ | with_reducible refine Within.drewN ?_ _ | with_reducible refine Within.setCell ?_ (by first | (simp; done) | (simp; omega)) _ | with_reducible refine Within.trans ?_ (by assumption)))) ?_
  clear hK K
  try simp only [Act.put, List.setIfInBounds_toArray, List.set_cons_zero, List.set_cons_succ]
  refine sch_one rfl rfl (fun K hK => ?_)
  go_simp
  refine hK _ _ (fun h => absurd h (by decide)) ?_
  clear hK K
  try simp only [Act.put, List.setIfInBounds_toArray, List.set_cons_zero, List.set_cons_succ]
  refine sch_nil ?_
  go_wp2
  go_ret
  exact ⟨ret_int (by rw [← hv, val_sign]), ((hw0.drew.trans hb5).trans hb6)⟩
theorem Xcmp (n1 n2 E1 E2 : Int) (g1 g2 L U : Nat) (hL : L ≤ 9000) (hU : U ≤ 6000) (a1 : -(L : Int) ≤ E1) (a2 : E1 ≤ (U : Int)) (b1 : -(L : Int) ≤ E2) (b2 : E2 ≤ (U : Int)) (hl1 : (dg n1.natAbs).length ≤ 900) (hl2 : (dg n2.natAbs).length ≤ 900) (w : World) (hI1 : IntB w g1 n1) (hI2 : IntB w g2 n2) : Calls Tryz.prog 30 #[.agg #[.pointer (some ⟨g1, 0, none⟩), .int .i64 E1], .agg #[.pointer (some ⟨g2, 0, none⟩), .int .i64 E2]] w (fun e w' => e = .returned (.int .i64 (valE n1 E1 L - valE n2 E2 L).sign) ∧ Within w w') :=
  Xcmp0 n1 n2 E1 E2 _ g1 g2 L U (Lib.hid fun w h => Xneg n2 E2 g2 (Nat.le_trans hl2 (by decide)) w h) (Lib.hid fun h w k1 k2 => by
    have := Xadd n1 (-n2) E1 E2 g1 h L U hL hU a1 a2 b1 b2 hl1 (by rw [Int.natAbs_neg]; exact hl2) w k1 k2
    rw [val_neg, ← Int.sub_eq_add_neg] at this
    exact this) w hI1 hI2
end Go.Proofs.YtjmaggfddinbkaaGreatDoor
end

section
namespace Go.Proofs.YtjmaggfddinbkaaGreatDoor
open Go.RowKit
theorem of_val (b : Nat) : valE (ofN b) (pExpD b) 1074 = P64.wholeI b := rfl
theorem dg_len_of {n e k : Nat} (h : n < 2 ^ e) (he : e ≤ 32 * k) : (dg n).length ≤ k :=
  dg_len_le (Nat.lt_of_lt_of_le h (by rw [show (4294967296 : Nat) = 2 ^ 32 from rfl, ← Nat.pow_mul]; exact Nat.pow_le_pow_right (by decide) he))
theorem lim80 {k : Nat} (h : k ≤ 2174) : 64 + k ≤ 32 * 80 := by omega
theorem whole_len (b : Nat) : (dg (P64.wholeI b).natAbs).length ≤ 80 := dg_len_of (P64.wholeI_lt b) (lim80 (by have := (P64.pExpD_range b).2; omega))
theorem XofW (b : Nat) (hb : b < 18446744073709551616) (w : World) : Calls Tryz.prog 44 #[.float .f64 b] w (ExW 1074 1100 (P64.wholeI b) w) := by
  refine (Xof b hb w).mono fun e w' ⟨h, h1, h2, _, h4⟩ => ⟨h, ofN b, pExpD b, h1, h2, (P64.pExpD_range b).1, (P64.pExpD_range b).2, of_val b, h4⟩
theorem ne_ex {w : World} {g b : Nat} {v : Int} {cs : Array Value} (hI : IntB w g v) (hz : w.heap[b]? = some (.cells cs 53 (0, 0))) : g ≠ b := by
  rintro rfl
  obtain ⟨A, c, hb, _⟩ := hI
  rw [hz] at hb
  injection hb with hb
  injection hb with _ h2
  exact absurd h2 (by decide)
theorem val_mul (n m E F : Int) (L M : Nat) (h1 : -(L : Int) ≤ E) (h2 : -(M : Int) ≤ F) : valE (n * m) (E + F) (L + M) = valE n E L * valE m F M := by
  unfold valE
  rw [show (E + F + ((L + M : Nat) : Int)).toNat = (E + L).toNat + (F + M).toNat by omega, Int.pow_add]
  rw [Int.mul_assoc, Int.mul_assoc, Int.mul_left_comm m]
end Go.Proofs.YtjmaggfddinbkaaGreatDoor
end
