/- What the law's walk rests on, part 4: contracts of functions and plain facts. -/
import Derived.Test.YtjmaggfddinbkaaGreatDoorRows
import Derived.WalkKit
import Derived.WalkSpells
import Derived.WalkLawsBesides
import Derived.BigQuiet
import Derived.Lib.Hide
import Derived.Deep.OwnRows
import Derived.OwnWalk
import Derived.LoopTactic
import Derived.Outline
import Derived.IntWalk
import Derived.OrdersHeld
import Derived.StillTail
import Derived.Deep.RegionHeld3
import Derived.Maps.AppendAt
import Derived.Deep.QuietTactic
import Derived.Deep.DeepCutAuto
import Derived.Shelf.Bits.Mul64
import Derived.Laws.Externs
import Derived.Deep.RegionWith
import Ieee.Arith
import Derived.Lib.TrailingZeros
import Derived.Lib.BitFns
import Derived.Lib.Strings
import Derived.Lib.Slices
import Derived.Lib.Small
import Derived.Lib.Walk
import Derived.Deep.AppendLies
import Derived.Deep.Draws
import Derived.Laws.OwnMore
import Derived.ProofKit
import Derived.OpenShut
import Derived.ShutString
import Derived.ChangeOld
import Derived.Below
import Derived.Deep.DeepHandedRow
import Derived.Lib.LaidTab
import Derived.ChangeSlices
import Derived.Carry
import Derived.SizedLaws
import Derived.Deep.Strs
import Derived.Lib.SmallJoins
import Derived.Test.YtjmaggfddinbkaaGreatDoorZEKe3
set_option linter.unusedVariables false
set_option linter.unusedSimpArgs false
section
namespace Go.Proofs.YtjmaggfddinbkaaGreatDoor
theorem expn_snoc : ∀ (l : List Int) (e : Int), Expn (l ++ [e]) → Expn l ∧ e ≠ 0 ∧ ∀ x ∈ l, Low x e
  | [], e => fun h => ⟨trivial, h.1, fun x hx => absurd hx (by simp)⟩
  | x :: l, e => fun h => by
    obtain ⟨h1, h2, h3⟩ := h
    obtain ⟨i1, i2, i3⟩ := expn_snoc l e h3
    refine ⟨⟨h1, fun y hy => h2 y (List.mem_append_left _ hy), i1⟩, i2, fun y hy => ?_⟩
    rcases List.mem_cons.1 hy with rfl | hy
    · exact h2 e (List.mem_append_right _ (List.mem_singleton.2 rfl))
    · exact i3 y hy
def Dn : List Int → Prop
  | [] => True
  | e :: l => e ≠ 0 ∧ (∃ k, Mu k e ∧ l.sum.natAbs < 2 ^ k ∧ ∀ x ∈ l, x.natAbs < 2 ^ k) ∧ Dn l
theorem dn_of : ∀ d : List Int, Expn d.reverse → Dn d
  | [] => fun _ => trivial
  | [e] => fun h => by
    obtain ⟨_, h2, _⟩ := expn_snoc [] e h
    exact ⟨h2, ⟨0, Mu.none _, by decide, fun x hx => absurd hx (by simp)⟩, trivial⟩
  | e :: x :: d => fun h => by
    rw [List.reverse_cons] at h
    obtain ⟨h1, h2, h3⟩ := expn_snoc _ e h
    have ih := dn_of (x :: d) h1
    refine ⟨h2, ⟨zl x, h3 x (by simp), ?_, fun y hy => ?_⟩, ih⟩
    · obtain ⟨i1, ⟨k, i2, i3, _⟩, _⟩ := ih
      have hl := i2.least i1
      have hb := zl_lt x
      have hk : k ≤ zl x := by
        have := (Nat.pow_lt_pow_iff_right (show 1 < 2 by decide)).1 (Nat.lt_of_le_of_lt hl hb)
        omega
      have hm : ∃ c, 2 ^ zl x = c * 2 ^ k := ⟨2 ^ (zl x - k), by rw [← Nat.pow_add]; congr 1; omega⟩
      have := mu_beyond i2.abs hm hb
      rw [List.sum_cons]
      omega
    · obtain ⟨i1, ⟨k, i2, _, i4⟩, _⟩ := ih
      rcases List.mem_cons.1 hy with rfl | hy
      · exact zl_lt y
      · have := i2.least i1
        have := i4 y hy
        have := zl_lt x
        omega
def compD : List Int → Int → List Int → List Int × Int
  | [], Q, acc => (acc, Q)
  | e :: l, Q, acc => if Q + e - rn (Q + e) = 0 then compD l (rn (Q + e)) acc else compD l (Q + e - rn (Q + e)) (rn (Q + e) :: acc)
def compDS : List Int → Int → List Int → List Int × Int
  | [], Q, acc => (acc, Q)
  | e :: l, Q, acc => if quickL Q e = 0 then compDS l (rn (Q + e)) acc else compDS l (quickL Q e) (rn (Q + e) :: acc)
def compU : List Int → Int → List Int
  | [], Q => layZ Q []
  | g :: l, Q => layZ (g + Q - rn (g + Q)) (compU l (rn (g + Q)))
def compUS : List Int → Int → List Int
  | [], Q => layZ Q []
  | g :: l, Q => layZ (quickL g Q) (compUS l (rn (g + Q)))
def Acc : List Int → Int → Prop
  | [], _ => True
  | g :: l, W => RepZ g ∧ (∃ K, Mu K g ∧ 4503599627370496 * 2 ^ K ≤ g.natAbs ∧ W.natAbs < 2 ^ K) ∧ Acc l (W + g)
theorem rn_nz {z : Int} (h : z ≠ 0) : rn z ≠ 0 := by
  intro h0
  obtain ⟨K, _, h2, h3⟩ := rn_grid z
  rw [h0] at h2 h3
  have hp := Nat.two_pow_pos K
  by_cases hK : K = 0
  · subst hK; rw [Nat.pow_zero] at h2; omega
  · have := (h3 hK).2
    omega
theorem down_core : ∀ (l : List Int) (Q : Int) (acc : List Int), Dn l → (∀ x ∈ l, RepZ x) → RepZ Q → Q ≠ 0 → (∃ k, Mu k Q ∧ l.sum.natAbs < 2 ^ k ∧ ∀ x ∈ l, x.natAbs < 2 ^ k) → Acc acc (Q + l.sum) →
    Acc (compD l Q acc).1 (compD l Q acc).2 ∧ (compD l Q acc).2 ≠ 0 ∧ RepZ (compD l Q acc).2 ∧ (compD l Q acc).1.sum + (compD l Q acc).2 = acc.sum + Q + l.sum ∧ compDS l Q acc = compD l Q acc
  | [], Q, acc => by
    intro _ _ hQ h0 _ hA
    unfold compD compDS
    refine ⟨?_, h0, hQ, ?_, rfl⟩
    · simpa using hA
    · simp
  | e :: l, Q, acc => by
    intro hD hR hQ h0 hk hA
    obtain ⟨he0, ⟨k1, d1, d2, d3⟩, hl⟩ := hD
    obtain ⟨k, c1, _, c3⟩ := hk
    have hRe := hR e (List.mem_cons_self ..)
    have hRl : ∀ x ∈ l, RepZ x := fun x hx => hR x (List.mem_cons_of_mem _ hx)
    have hek := c3 e (List.mem_cons_self ..)
    have hQk := c1.least h0
    have hfast : e.natAbs ≤ Q.natAbs := by omega
    have hk1 : k1 ≤ k := by
      have := d1.least he0
      have := (Nat.pow_lt_pow_iff_right (show 1 < 2 by decide)).1 (Nat.lt_of_le_of_lt this hek)
      omega
    have mz : Mu k1 (Q + e) := (c1.le hk1).add d1
    have qL := quick_is hQ hRe hfast
    rw [List.sum_cons] at hA ⊢
    unfold compD compDS
    rw [qL]
    by_cases h : Q + e - rn (Q + e) = 0
    · rw [if_pos h, if_pos h]
      obtain ⟨i1, i2, i3, i4, i5⟩ := down_core l (rn (Q + e)) acc hl hRl (rn_repz _) (rn_nz (by omega)) ⟨k1, mz.rn, d2, d3⟩ (by rw [show rn (Q + e) + l.sum = Q + (e + l.sum) by omega]; exact hA)
      exact ⟨i1, i2, i3, by omega, i5⟩
    · rw [if_neg h, if_neg h]
      obtain ⟨K, g1, g2, g3, g4⟩ := rn_grid_lost h
      have mh : Mu k1 (Q + e - rn (Q + e)) := mz.sub mz.rn
      have hRh : RepZ (Q + e - rn (Q + e)) := by
        have := (err_rep hQ hRe).neg
        rwa [show -(rn (Q + e) - (Q + e)) = Q + e - rn (Q + e) by omega] at this
      have hs := hsum d2 mh h g2
      rw [Int.add_comm] at hs
      obtain ⟨i1, i2, i3, i4, i5⟩ := down_core l (Q + e - rn (Q + e)) (rn (Q + e) :: acc) hl hRl hRh h ⟨k1, mh, d2, d3⟩
        ⟨rn_repz _, ⟨K, g1, g4, hs⟩, by rw [show Q + e - rn (Q + e) + l.sum + rn (Q + e) = Q + (e + l.sum) by omega]; exact hA⟩
      rw [List.sum_cons] at i4
      exact ⟨i1, i2, i3, by omega, i5⟩
theorem up_sum : ∀ (l : List Int) (Q : Int), (compU l Q).sum = l.sum + Q
  | [], Q => by unfold compU; rw [lay_sum]; simp
  | g :: l, Q => by
    unfold compU
    rw [lay_sum, up_sum l, List.sum_cons]; omega
theorem up_mu {k : Nat} : ∀ (l : List Int) (Q : Int), (∀ g ∈ l, Mu k g) → Mu k Q → ∀ y ∈ compU l Q, Mu k y
  | [], Q => by
    intro _ hQ y hy
    unfold compU at hy
    rcases lay_mem hy with rfl | h
    · exact hQ
    · exact absurd h (by simp)
  | g :: l, Q => by
    intro hl hQ y hy
    have mz := (hl g (List.mem_cons_self ..)).add hQ
    unfold compU at hy
    rcases lay_mem hy with rfl | hy
    · exact mz.sub mz.rn
    · exact up_mu l _ (fun x hx => hl x (List.mem_cons_of_mem _ hx)) mz.rn y hy
theorem up_rep : ∀ (l : List Int) (Q : Int), (∀ g ∈ l, RepZ g) → RepZ Q → ∀ y ∈ compU l Q, RepZ y
  | [], Q => by
    intro _ hQ y hy
    unfold compU at hy
    rcases lay_mem hy with rfl | h
    · exact hQ
    · exact absurd h (by simp)
  | g :: l, Q => by
    intro hl hQ y hy
    unfold compU at hy
    rcases lay_mem hy with rfl | hy
    · have := (err_rep (hl g (List.mem_cons_self ..)) hQ).neg
      rwa [show -(rn (g + Q) - (g + Q)) = g + Q - rn (g + Q) by omega] at this
    · exact up_rep l _ (fun x hx => hl x (List.mem_cons_of_mem _ hx)) (rn_repz _) y hy
theorem acc_rep : ∀ {l : List Int} {W : Int}, Acc l W → ∀ g ∈ l, RepZ g
  | [], _, _ => fun g hg => absurd hg (by simp)
  | g :: l, W, h => fun x hx => by
    rcases List.mem_cons.1 hx with rfl | hx
    · exact h.1
    · exact acc_rep h.2.2 x hx
theorem pow_gap {j K w : Nat} (h : 2251799813685248 * 2 ^ j ≤ w) (g : w < 2 ^ K) : j ≤ K := by
  have : 2 ^ j < 2 ^ K := by omega
  have := (Nat.pow_lt_pow_iff_right (show 1 < 2 by decide)).1 this
  omega
theorem acc_mu {j : Nat} : ∀ {l : List Int} {W : Int}, Acc l W → 2251799813685248 * 2 ^ j ≤ W.natAbs → ∀ g ∈ l, Mu j g
  | [], _, _, _ => fun g hg => absurd hg (by simp)
  | g :: l, W, h, hW => fun x hx => by
    obtain ⟨_, ⟨K, h1, h2, h3⟩, h4⟩ := h
    have hj := pow_gap hW h3
    have hp : 2 ^ j ≤ 2 ^ K := Nat.pow_le_pow_right (by decide) hj
    rcases List.mem_cons.1 hx with rfl | hx
    · exact h1.le hj
    · exact acc_mu h4 (by omega) x hx
theorem up_core : ∀ (l : List Int) (Q H : Int) (k : Nat), Acc l (Q + H) → RepZ Q → Q ≠ 0 → H.natAbs < 2 ^ k → Mu k Q → (k ≠ 0 → 4503599627370496 * 2 ^ k ≤ Q.natAbs) →
    Expn (compU l Q) ∧ compUS l Q = compU l Q ∧ ∃ (ini : List Int) (last : Int) (k' : Nat), compU l Q = ini ++ [last] ∧ last ≠ 0 ∧ RepZ last ∧ (Q + H + l.sum - last).natAbs < 2 ^ k' ∧ Mu k' last ∧ (k' ≠ 0 → 4503599627370496 * 2 ^ k' ≤ last.natAbs)
  | [], Q, H, k => by
    intro _ hQ h0 h1 h2 h3
    have e : compU [] Q = [Q] := by unfold compU layZ; rw [if_neg h0]
    refine ⟨?_, rfl, [], Q, k, e, h0, hQ, ?_, h2, h3⟩
    · rw [e]; exact ⟨h0, fun y hy => absurd hy (by simp), trivial⟩
    · rw [show Q + H + ([] : List Int).sum - Q = H by simp; omega]; exact h1
  | g :: l, Q, H, k => by
    intro hA hQ h0 h1 h2 h3
    obtain ⟨hg, ⟨K, a1, a2, a3⟩, hl⟩ := hA
    have hpk := Nat.two_pow_pos k
    have hpK := Nat.two_pow_pos K
    have hle : k ≤ K := by
      by_cases hk : k = 0
      · omega
      · exact pow_gap (w := (Q + H).natAbs) (by have := h3 hk; omega) a3
    have hQK : Q.natAbs ≤ 2 ^ K := by
      have hm : Mu k ((2 : Int) ^ K) := Mu.le ⟨1, by simp⟩ hle
      have hn : ((2 : Int) ^ K).natAbs = 2 ^ K := by rw [Int.natAbs_pow]; rfl
      have := mu_abs_le h2 hm h1 (by rw [hn]; exact a3)
      rwa [hn] at this
    have hfast : Q.natAbs ≤ g.natAbs := by omega
    have hz : g + Q ≠ 0 := by omega
    have qL := quick_is hg hQ hfast
    have mz : Mu k (g + Q) := (a1.le hle).add h2
    have hsum' : ∀ h : Int, Q + H + g = rn (g + Q) + (H + h) ↔ h = g + Q - rn (g + Q) := fun h => by omega
    unfold compU compUS
    rw [qL, List.sum_cons]
    obtain ⟨h, eh⟩ : ∃ h, h = g + Q - rn (g + Q) := ⟨_, rfl⟩
    rw [← eh]
    have hacc : Acc l (rn (g + Q) + (H + h)) := by rw [← (hsum' h).2 eh]; exact hl
    have hne := rn_nz hz
    by_cases hh : h = 0
    · have hs : rn (g + Q) = g + Q := by omega
      rw [hh, Int.add_zero] at hacc
      obtain ⟨i1, i2, ini, last, k', i3, i4, i5, i6, i7⟩ := up_core l (rn (g + Q)) H k hacc (rn_repz _) hne h1 mz.rn (fun hk => by have := h3 hk; rw [hs]; omega)
      rw [hh]
      refine ⟨lay_exp i1 fun h => absurd rfl h, by rw [i2], ini, last, k', by unfold layZ; rw [if_pos rfl, i3], i4, i5, ?_, i7⟩
      rw [show Q + H + (g + l.sum) - last = rn (g + Q) + H + l.sum - last by omega]
      exact i6
    · obtain ⟨K', g1, g2, g3, g4⟩ := rn_grid_lost (z := g + Q) (by rw [← eh]; exact hh)
      rw [← eh] at g2
      have hpK' := Nat.two_pow_pos K'
      have mh : Mu k h := by rw [eh]; exact mz.sub mz.rn
      have hH := hsum h1 mh hh g2
      obtain ⟨i1, i2, ini, last, k', i3, i4, i5, i6, i7⟩ := up_core l (rn (g + Q)) (H + h) K' hacc (rn_repz _) hne hH g1 (fun _ => g4)
      refine ⟨lay_exp i1 fun hh y hy => ?_, by rw [i2], h :: ini, last, k', by unfold layZ; rw [if_neg hh, i3]; rfl, i4, i5, ?_, i7⟩
      · refine Low.of hh (by omega) (up_mu l _ (acc_mu hacc (by omega)) g1 y hy)
      · rw [show Q + H + (g + l.sum) - last = rn (g + Q) + (H + h) + l.sum - last by omega]
        exact i6
theorem comp_all {q : Int} {d : List Int} (hE : Expn (q :: d).reverse) (hR : ∀ x ∈ q :: d, RepZ x) :
    Expn (compU (compD d q []).1 (compD d q []).2) ∧ (∀ y ∈ compU (compD d q []).1 (compD d q []).2, RepZ y) ∧ compDS d q [] = compD d q [] ∧ compUS (compD d q []).1 (compD d q []).2 = compU (compD d q []).1 (compD d q []).2 ∧ (compU (compD d q []).1 (compD d q []).2).sum = (q :: d).sum ∧
    ∃ (ini : List Int) (last : Int) (k : Nat), compU (compD d q []).1 (compD d q []).2 = ini ++ [last] ∧ last ≠ 0 ∧ RepZ last ∧ ((q :: d).sum - last).natAbs < 2 ^ k ∧ Mu k last ∧ (k ≠ 0 → 4503599627370496 * 2 ^ k ≤ last.natAbs) := by
  obtain ⟨h1, h2, h3⟩ := dn_of _ hE
  obtain ⟨i1, i2, i3, i4, i5⟩ := down_core d q [] h3 (fun x hx => hR x (List.mem_cons_of_mem _ hx)) (hR q (List.mem_cons_self ..)) h1 h2 trivial
  obtain ⟨j1, j2, ini, last, k, j3, j4, j5, j6, j7⟩ := up_core (compD d q []).1 (compD d q []).2 0 0 (by rw [Int.add_zero]; exact i1) i3 i2 (by decide) (Mu.none _) (fun h => absurd rfl h)
  rw [List.sum_nil, Int.zero_add] at i4
  have es : (compD d q []).2 + 0 + (compD d q []).1.sum = (q :: d).sum := by rw [List.sum_cons]; omega
  refine ⟨j1, up_rep _ _ (acc_rep i1) i3, i5, j2, by rw [up_sum, List.sum_cons]; omega, ini, last, k, j3, j4, j5, ?_, j7⟩
  rw [← es]; exact j6
end Go.Proofs.YtjmaggfddinbkaaGreatDoor
end

section
namespace Go.Proofs.YtjmaggfddinbkaaGreatDoor
def FzL : List (Option Nat) → List Int → Prop
  | [], [] => True
  | v :: vs, z :: zs => Fz v z ∧ FzL vs zs
  | _, _ => False
theorem FzL.length : ∀ {vs : List (Option Nat)} {zs : List Int}, FzL vs zs → vs.length = zs.length
  | [], [], _ => rfl
  | _ :: _, _ :: _, h => by simp [h.2.length]
  | [], _ :: _, h => h.elim
  | _ :: _, [], h => h.elim
theorem FzL.append : ∀ {vs : List (Option Nat)} {zs : List Int} {us : List (Option Nat)} {ys : List Int}, FzL vs zs → FzL us ys → FzL (vs ++ us) (zs ++ ys)
  | [], [], _, _, _, g => g
  | _ :: _, _ :: _, _, _, h, g => ⟨h.1, h.2.append g⟩
  | [], _ :: _, _, _, h, _ => h.elim
  | _ :: _, [], _, _, h, _ => h.elim
theorem FzL.one {v : Option Nat} {z : Int} (h : Fz v z) : FzL [v] [z] := ⟨h, trivial⟩
theorem FzL.rep : ∀ {vs : List (Option Nat)} {zs : List Int}, FzL vs zs → ∀ z ∈ zs, RepZ z
  | [], [], _ => fun z hz => absurd hz (by simp)
  | _ :: _, _ :: _, h => fun z hz => by
    rcases List.mem_cons.1 hz with rfl | hz
    · exact h.1.rep
    · exact h.2.rep z hz
  | [], _ :: _, h => h.elim
  | _ :: _, [], h => h.elim
theorem FzL.reverse : ∀ {vs : List (Option Nat)} {zs : List Int}, FzL vs zs → FzL vs.reverse zs.reverse
  | [], [], _ => trivial
  | v :: vs, z :: zs, h => by
    rw [List.reverse_cons, List.reverse_cons]
    exact h.2.reverse.append (FzL.one h.1)
  | [], _ :: _, h => h.elim
  | _ :: _, [], h => h.elim
theorem fz_some {v : Option Nat} (h : finV v = true) : ∃ z, Fz v z := by
  cases v with
  | none => cases h
  | some x => exact ⟨_, x, rfl, of_decide_eq_true h, rfl⟩
theorem Fz.fin {v : Option Nat} {z : Int} (h : Fz v z) : finV v = true := by
  obtain ⟨x, rfl, hx, _⟩ := h
  exact decide_eq_true hx
theorem un_zero {x : Nat} : Fp.un Ieee.double x = 0 ↔ x % 9223372036854775808 = 0 := by
  have h : (Fp.un Ieee.double x).natAbs = Fp.mag Ieee.double (x % 9223372036854775808) := by rw [un_abs, Fp.rg64]
  constructor
  · intro h0
    rw [h0] at h
    have : Fp.mag Ieee.double 0 = Fp.mag Ieee.double (x % 9223372036854775808) := by rw [Fp.mag_zero]; exact h
    exact ((Fp.mag_inj Ieee.double).1 this).symm
  · intro h0
    rw [h0, Fp.mag_zero] at h
    omega
theorem Fz.nz {v : Option Nat} {z : Int} (h : Fz v z) : nzV v = decide (z ≠ 0) := by
  obtain ⟨x, rfl, hx, rfl⟩ := h
  exact decide_eq_decide.2 (not_congr un_zero.symm)
theorem lay_fz {l : List (Option Nat)} {L : List Int} {v : Option Nat} {z : Int} (hl : FzL l L) (h : Fz v z) : FzL (layV l v) (L ++ layZ z []) := by
  unfold layV layZ
  rw [h.nz]
  by_cases h0 : z = 0
  · rw [decide_eq_false (fun g => g h0), if_neg Bool.false_ne_true, if_pos h0, List.append_nil]; exact hl
  · rw [decide_eq_true h0, if_pos rfl, if_neg h0]; exact hl.append (FzL.one h)
theorem layZ_app (z : Int) (l : List Int) : layZ z [] ++ l = layZ z l := by
  unfold layZ; split <;> rfl
theorem see_false {s : Lay} {a b : Option Nat} (h : s.see a b = false) : s.ov = false ∧ finV a = true ∧ finV b = true := by
  unfold Lay.see at h
  rw [Bool.or_eq_false_iff, Bool.or_eq_false_iff] at h
  obtain ⟨⟨h1, h2⟩, h3⟩ := h
  refine ⟨h1, ?_, ?_⟩
  · cases hh : finV a
    · rw [hh] at h2; cases h2
    · rfl
  · cases hh : finV b
    · rw [hh] at h3; cases h3
    · rfl
theorem grow_ov : ∀ (es : List (Option Nat)) (s : Lay), s.ov = true → (es.foldl growStep s).ov = true
  | [], _, h => h
  | e :: es, s, h => grow_ov es (growStep s e) (by unfold growStep Lay.see; rw [h]; rfl)
theorem grow_link : ∀ {es : List (Option Nat)} {zs : List Int} {s : Lay} {Q : Int} {Ls : List Int}, FzL es zs → Fz s.q Q → FzL s.l Ls → (es.foldl growStep s).ov = false →
    ∃ Q' Ls', Fz (es.foldl growStep s).q Q' ∧ FzL (es.foldl growStep s).l Ls' ∧ Ls' ++ layZ Q' [] = Ls ++ growZ zs Q
  | [], [], s, Q, Ls, _, hq, hl, _ => ⟨Q, Ls, hq, hl, rfl⟩
  | e :: es, z :: zs, s, Q, Ls, h, hq, hl, ho => by
    have hov : (growStep s e).ov = false := by
      cases hh : (growStep s e).ov
      · rfl
      · have := grow_ov es _ hh
        rw [List.foldl_cons, this] at ho
        cases ho
    obtain ⟨_, f1, f2⟩ := see_false (show s.see (twoS s.q e) (twoL s.q e) = false from hov)
    obtain ⟨S, fS⟩ := fz_some f1
    obtain ⟨E, fE⟩ := fz_some f2
    obtain ⟨A, B, hA, hB, e1, e2⟩ := two_fin fS fE
    obtain rfl := hA.eq hq
    obtain rfl := hB.eq h.1
    obtain ⟨Q', Ls', i1, i2, i3⟩ := grow_link (es := es) (zs := zs) (s := growStep s e) h.2 fS (lay_fz hl fE) (by rw [List.foldl_cons] at ho; exact ho)
    refine ⟨Q', Ls', i1, i2, ?_⟩
    rw [i3, List.append_assoc, layZ_app, e1, e2]
    rfl
  | [], _ :: _, _, _, _, h, _, _, _ => h.elim
  | _ :: _, [], _, _, _, h, _, _, _ => h.elim
theorem grow_keeps {es : List (Option Nat)} {zs : List Int} {b : Option Nat} {B : Int} (h : FzL es zs) (hb : Fz b B) (ho : (growSt es b).ov = false) :
    FzL (growSt es b).all (growZ zs B) := by
  obtain ⟨Q', Ls', i1, i2, i3⟩ := grow_link (s := ⟨b, [], false⟩) (Ls := []) h hb trivial ho
  rw [List.nil_append] at i3
  rw [← i3]
  exact lay_fz i2 i1
theorem scale_ov {b : Option Nat} : ∀ (es : List (Option Nat)) (s : Lay), s.ov = true → (es.foldl (scaleStep b) s).ov = true
  | [], _, h => h
  | e :: es, s, h => scale_ov (b := b) es (scaleStep b s e) (by unfold scaleStep Lay.see; rw [h]; rfl)
theorem or_not {a b c : Bool} (h : (a || !b || !c) = false) : a = false ∧ b = true ∧ c = true := by
  cases a <;> cases b <;> cases c <;> simp at h ⊢
theorem scale_link {b : Option Nat} {B : Int} (hb : Fz b B) {j : Nat} (hj : Mu j B) : ∀ {es : List (Option Nat)} {zs : List Int} {s : Lay} {Q : Int} {Ls : List Int}, FzL es zs → (∀ z ∈ zs, ∃ i, Mu i z ∧ upl ≤ i + j) → Fz s.q Q → FzL s.l Ls → (es.foldl (scaleStep b) s).ov = false →
    ∃ Q' Ls', Fz (es.foldl (scaleStep b) s).q Q' ∧ FzL (es.foldl (scaleStep b) s).l Ls' ∧ ∃ Ps : List Int, Ps.map (· * 2 ^ upl) = zs.map (· * B) ∧ Ls' ++ layZ Q' [] = Ls ++ scaleS (Ps.map fun P => (rn P, P - rn P)) Q ∧ ∀ P ∈ Ps, RepZ (P - rn P)
  | [], [], s, Q, Ls, _, _, hq, hl, _ => ⟨Q, Ls, hq, hl, [], rfl, rfl, fun P hP => absurd hP (by simp)⟩
  | e :: es, z :: zs, s, Q, Ls, h, hm, hq, hl, ho => by
    have hov : (scaleStep b s e).ov = false := by
      cases hh : (scaleStep b s e).ov
      · rfl
      · have := scale_ov (b := b) es _ hh
        rw [List.foldl_cons, this] at ho
        cases ho
    obtain ⟨o1, g1, g2⟩ := or_not (show ((s.see (proP e b) (proE e b) || !finV (twoS s.q (proE e b)) || !finV (twoL s.q (proE e b))) || !finV (twoS (proP e b) (twoS s.q (proE e b))) || !finV (quiL (proP e b) (twoS s.q (proE e b)))) = false from hov)
    obtain ⟨o2, g3, g4⟩ := or_not o1
    obtain ⟨_, g5, g6⟩ := see_false o2
    obtain ⟨T, fT⟩ := fz_some g5
    obtain ⟨t, ft⟩ := fz_some g6
    obtain ⟨U, fU⟩ := fz_some g3
    obtain ⟨hh, fh⟩ := fz_some g4
    obtain ⟨Q2, fQ⟩ := fz_some g1
    obtain ⟨g, fg⟩ := fz_some g2
    obtain ⟨A, B', hA, hB', hP⟩ := pro_fin fT ft
    obtain rfl := hA.eq h.1
    obtain rfl := hB'.eq hb
    obtain ⟨i, hi, hij⟩ := hm A (List.mem_cons_self ..)
    obtain ⟨P, p1, p2, p3⟩ := hP i j hi hj hij
    obtain ⟨A1, B1, hA1, hB1, e1, e2⟩ := two_fin fU fh
    obtain rfl := hA1.eq hq
    obtain rfl := hB1.eq ft
    obtain ⟨A2, B2, hA2, hB2, e3, e4⟩ := qui_fin fQ fg
    obtain rfl := hA2.eq fT
    obtain rfl := hB2.eq fU
    obtain ⟨Q', Ls', i1, i2, Ps, i3, i4, i5⟩ := scale_link hb hj (es := es) (zs := zs) (s := scaleStep b s e) h.2 (fun z hz => hm z (List.mem_cons_of_mem _ hz)) fQ (lay_fz (lay_fz hl fh) fg) (by rw [List.foldl_cons] at ho; exact ho)
    refine ⟨Q', Ls', i1, i2, P :: Ps, by rw [List.map_cons, List.map_cons, i3, p1], ?_, fun x hx => ?_⟩
    · rw [i4, List.append_assoc, List.append_assoc, layZ_app, layZ_app, List.map_cons]
      show _ = Ls ++ layZ (sumL A1 (P - rn P)) (layZ (quickL (rn P) (sumS A1 (P - rn P))) (scaleS (Ps.map fun P => (rn P, P - rn P)) (rn (rn P + sumS A1 (P - rn P)))))
      rw [← p3, ← p2, show sumS A1 B1 = B2 from e1.symm, show sumL A1 B1 = hh by rw [e2]; exact two_sum hq.rep ft.rep, ← e4, ← e3]
    · rcases List.mem_cons.1 hx with rfl | hx
      · rw [← p3]; exact ft.rep
      · exact i5 x hx
  | [], _ :: _, _, _, _, h, _, _, _, _ => h.elim
  | _ :: _, [], _, _, _, h, _, _, _, _ => h.elim
theorem down_ov : ∀ (es : List (Option Nat)) (s : Lay), s.ov = true → (es.foldl downStep s).ov = true
  | [], _, h => h
  | e :: es, s, h => down_ov es (downStep s e) (by
    have k : s.see (twoS s.q e) (quiL s.q e) = true := by unfold Lay.see; rw [h]; rfl
    unfold downStep
    dsimp only
    split <;> exact k)
theorem down_link : ∀ {es : List (Option Nat)} {zs : List Int} {s : Lay} {Q : Int} {Ls : List Int}, FzL es zs → Fz s.q Q → FzL s.l Ls → (es.foldl downStep s).ov = false →
    ∃ Q' Ls', Fz (es.foldl downStep s).q Q' ∧ FzL (es.foldl downStep s).l Ls' ∧ compDS zs Q Ls.reverse = (Ls'.reverse, Q')
  | [], [], s, Q, Ls, _, hq, hl, _ => ⟨Q, Ls, hq, hl, rfl⟩
  | e :: es, z :: zs, s, Q, Ls, h, hq, hl, ho => by
    have hov : (downStep s e).ov = false := by
      cases hh : (downStep s e).ov
      · rfl
      · have := down_ov es _ hh
        rw [List.foldl_cons, this] at ho
        cases ho
    have hsee : s.see (twoS s.q e) (quiL s.q e) = false := by
      unfold downStep at hov
      dsimp only at hov
      split at hov <;> exact hov
    obtain ⟨_, f1, f2⟩ := see_false hsee
    obtain ⟨S, fS⟩ := fz_some f1
    obtain ⟨E, fE⟩ := fz_some f2
    obtain ⟨A, B, hA, hB, e1, e2⟩ := qui_fin fS fE
    obtain rfl := hA.eq hq
    obtain rfl := hB.eq h.1
    rw [List.foldl_cons] at ho ⊢
    by_cases h0 : E = 0
    · have hd : downStep s e = ⟨twoS s.q e, s.l, s.see (twoS s.q e) (quiL s.q e)⟩ := by
        unfold downStep; dsimp only; rw [fE.nz, decide_eq_false (fun g => g h0)]; rfl
      rw [hd] at ho ⊢
      obtain ⟨Q', Ls', i1, i2, i3⟩ := down_link (es := es) (zs := zs) (s := ⟨twoS s.q e, s.l, s.see (twoS s.q e) (quiL s.q e)⟩) h.2 fS hl ho
      refine ⟨Q', Ls', i1, i2, ?_⟩
      rw [← i3, e1]
      conv => lhs; unfold compDS
      rw [if_pos (by rw [← e2]; exact h0)]
    · have hd : downStep s e = ⟨quiL s.q e, s.l ++ [twoS s.q e], s.see (twoS s.q e) (quiL s.q e)⟩ := by
        unfold downStep; dsimp only; rw [fE.nz, decide_eq_true h0]; rfl
      rw [hd] at ho ⊢
      obtain ⟨Q', Ls', i1, i2, i3⟩ := down_link (es := es) (zs := zs) (s := ⟨quiL s.q e, s.l ++ [twoS s.q e], s.see (twoS s.q e) (quiL s.q e)⟩) h.2 fE (hl.append (FzL.one fS)) ho
      refine ⟨Q', Ls', i1, i2, ?_⟩
      rw [← i3, List.reverse_append, e1, e2]
      conv => lhs; unfold compDS
      rw [if_neg (by rw [← e2]; exact h0)]
      rfl
  | [], _ :: _, _, _, _, h, _, _, _ => h.elim
  | _ :: _, [], _, _, _, h, _, _, _ => h.elim
theorem up_ov : ∀ (es : List (Option Nat)) (s : Lay), s.ov = true → (es.foldl upStep s).ov = true
  | [], _, h => h
  | e :: es, s, h => up_ov es (upStep s e) (by unfold upStep Lay.see; rw [h]; rfl)
theorem up_link : ∀ {es : List (Option Nat)} {zs : List Int} {s : Lay} {Q : Int} {Ls : List Int}, FzL es zs → Fz s.q Q → FzL s.l Ls → (es.foldl upStep s).ov = false →
    ∃ Q' Ls', Fz (es.foldl upStep s).q Q' ∧ FzL (es.foldl upStep s).l Ls' ∧ Ls' ++ layZ Q' [] = Ls ++ compUS zs Q
  | [], [], s, Q, Ls, _, hq, hl, _ => ⟨Q, Ls, hq, hl, rfl⟩
  | e :: es, z :: zs, s, Q, Ls, h, hq, hl, ho => by
    have hov : (upStep s e).ov = false := by
      cases hh : (upStep s e).ov
      · rfl
      · have := up_ov es _ hh
        rw [List.foldl_cons, this] at ho
        cases ho
    obtain ⟨_, f1, f2⟩ := see_false (show s.see (twoS e s.q) (quiL e s.q) = false from hov)
    obtain ⟨S, fS⟩ := fz_some f1
    obtain ⟨E, fE⟩ := fz_some f2
    obtain ⟨A, B, hA, hB, e1, e2⟩ := qui_fin fS fE
    obtain rfl := hA.eq h.1
    obtain rfl := hB.eq hq
    obtain ⟨Q', Ls', i1, i2, i3⟩ := up_link (es := es) (zs := zs) (s := upStep s e) h.2 fS (lay_fz hl fE) (by rw [List.foldl_cons] at ho; exact ho)
    refine ⟨Q', Ls', i1, i2, ?_⟩
    rw [i3, List.append_assoc, layZ_app, e1, e2]
    rfl
  | [], _ :: _, _, _, _, h, _, _, _ => h.elim
  | _ :: _, [], _, _, _, h, _, _, _ => h.elim
theorem comp_link {q : Option Nat} {d : List (Option Nat)} {Q : Int} {D : List Int} (hq : Fz q Q) (hd : FzL d D) (ho : (upSt (downSt q d)).ov = false) :
    FzL (upSt (downSt q d)).all (compUS (compDS D Q []).1 (compDS D Q []).2) := by
  have ho1 : (downSt q d).ov = false := by
    cases hh : (downSt q d).ov
    · rfl
    · have := up_ov (downSt q d).l.reverse ⟨(downSt q d).q, [], (downSt q d).ov⟩ hh
      rw [show (upSt (downSt q d)).ov = true from this] at ho
      cases ho
  obtain ⟨Q1, L1, i1, i2, i3⟩ := down_link (s := ⟨q, [], false⟩) (Ls := []) hd hq trivial ho1
  rw [show ([] : List Int).reverse = [] from rfl] at i3
  rw [i3]
  obtain ⟨Q2, L2, j1, j2, j3⟩ := up_link (s := ⟨(downSt q d).q, [], (downSt q d).ov⟩) (Ls := []) (FzL.reverse i2) i1 trivial ho
  rw [List.nil_append] at j3
  rw [← j3]
  exact lay_fz j2 j1
end Go.Proofs.YtjmaggfddinbkaaGreatDoor
end

section
namespace Go.Proofs.YtjmaggfddinbkaaGreatDoor
theorem chain_at : ∀ l : List Int, Chain l ↔ ∀ i, i < l.length → l.getD i 0 ≠ 0 ∧ (i = 0 ∨ Low (l.getD (i - 1) 0) (l.getD i 0))
  | [] => ⟨fun _ i hi => absurd hi (by simp), fun _ => trivial⟩
  | [x] => ⟨fun h i hi => by
      obtain rfl : i = 0 := by simp at hi; omega
      exact ⟨h, .inl rfl⟩, fun h => (h 0 (by simp)).1⟩
  | x :: y :: l => by
    have ih := chain_at (y :: l)
    constructor
    · rintro ⟨h1, h2, h3⟩ i hi
      have g := ih.1 h3
      match i, hi with
      | 0, _ => exact ⟨h1, .inl rfl⟩
      | 1, _ => exact ⟨(g 0 (by simp)).1, .inr h2⟩
      | i + 2, hi =>
        obtain ⟨g1, g2⟩ := g (i + 1) (by simp at hi ⊢; omega)
        refine ⟨g1, .inr ?_⟩
        rcases g2 with g2 | g2
        · omega
        · exact g2
    · intro h
      refine ⟨(h 0 (by simp)).1, ?_, ih.2 fun i hi => ?_⟩
      · rcases (h 1 (by simp)).2 with g | g
        · omega
        · exact g
      · obtain ⟨g1, g2⟩ := h (i + 1) (by simp at hi ⊢; omega)
        refine ⟨g1, ?_⟩
        match i with
        | 0 => exact .inl rfl
        | i + 1 =>
          rcases g2 with g2 | g2
          · omega
          · exact .inr g2
theorem pMant_odd {b : Nat} (h : b % 9223372036854775808 < 9218868437227405312) (h0 : Fp.un Ieee.double b ≠ 0) : ∃ m, pMantD b = 2 * m + 1 := by
  have hm : Fp.mag Ieee.double (b % 9223372036854775808) ≠ 0 := by
    have := un_abs b
    rw [Fp.rg64] at this
    omega
  obtain ⟨_, _, h3⟩ := fin_exp h
  have h1 : mantD b ≠ 0 := by
    intro h1
    rw [mag_parts h, h1, Nat.zero_mul] at hm
    exact hm rfl
  obtain ⟨m, e1, _, _⟩ := odd_split h1 (by have := mantD_lt b; omega)
  unfold pMantD
  rw [if_neg (by omega)]
  exact ⟨m, e1⟩
theorem abs_parts {b : Nat} (h : b % 9223372036854775808 < 9218868437227405312) : (Fp.un Ieee.double b).natAbs = pMantD b * 2 ^ (pExpD b + 1074).toNat := by
  rw [un_abs, Fp.rg64, mag_odd h]
theorem mu_nat {k c : Nat} {z : Int} (h : z.natAbs = c * 2 ^ k) : Mu k z := by
  rcases Int.natAbs_eq z with e | e
  · exact ⟨c, by rw [e, h, Int.natCast_mul, cast_pow]⟩
  · exact ⟨-c, by rw [e, h, Int.natCast_mul, cast_pow, Int.neg_mul]⟩
theorem low_iff {a b : Nat} (fb : b % 9223372036854775808 < 9218868437227405312) (ha : Fp.un Ieee.double a ≠ 0) (hb : Fp.un Ieee.double b ≠ 0) : lowB a b = true ↔ Low (Fp.un Ieee.double a) (Fp.un Ieee.double b) := by
  unfold lowB
  rw [decide_eq_true_iff]
  have hp := abs_parts fb
  constructor
  · intro h
    exact Low.of ha h (mu_nat hp)
  · intro h
    obtain ⟨m, hm⟩ := pMant_odd fb hb
    obtain ⟨c, hc⟩ := Mu.abs h
    have hz : zl (Fp.un Ieee.double a) ≤ (pExpD b + 1074).toNat := by
      rcases Nat.lt_or_ge (pExpD b + 1074).toNat (zl (Fp.un Ieee.double a)) with g | g
      · exfalso
        obtain ⟨d, hd⟩ : ∃ d, zl (Fp.un Ieee.double a) = (pExpD b + 1074).toNat + 1 + d := ⟨zl (Fp.un Ieee.double a) - ((pExpD b + 1074).toNat + 1), by omega⟩
        rw [hp, hd, hm, Nat.pow_add, Nat.pow_succ] at hc
        have e : (2 * m + 1) * 2 ^ (pExpD b + 1074).toNat = (c * 2 ^ d * 2) * 2 ^ (pExpD b + 1074).toNat := by rw [hc]; ac_rfl
        have := Nat.eq_of_mul_eq_mul_right (Nat.two_pow_pos _) e
        omega
      · exact g
    exact Nat.lt_of_lt_of_le (zl_lt _) (Nat.pow_le_pow_right (by decide) hz)
def unL (es : List Nat) : List Int := es.map (Fp.un Ieee.double)
theorem unL_len (es : List Nat) : (unL es).length = es.length := List.length_map ..
theorem unL_at (es : List Nat) {i : Nat} (h : i < es.length) : (unL es).getD i 0 = Fp.un Ieee.double (es.getD i 0) := by
  unfold unL
  rw [List.getD, List.getElem?_map, List.getD, List.getElem?_eq_getElem h]
  rfl
theorem range_all {n : Nat} {p : Nat → Bool} : (List.range n).all p = true ↔ ∀ i, i < n → p i = true := by
  rw [List.all_eq_true]
  exact ⟨fun h i hi => h i (List.mem_range.2 hi), fun h i hi => h i (List.mem_range.1 hi)⟩
theorem isB_iff {es : List Nat} (hw : Words64 es) : isB es = true ↔ es.length ≤ 64 ∧ (∀ x ∈ es, x % 9223372036854775808 < 9218868437227405312) ∧ Expn (unL es) := by
  have hall : es.all finD = true ↔ ∀ x ∈ es, x % 9223372036854775808 < 9218868437227405312 := by
    rw [List.all_eq_true]
    exact forall_congr' fun x => ⟨fun h hx => by have := h hx; rw [finD_is (hw x hx)] at this; exact of_decide_eq_true this, fun h hx => by rw [finD_is (hw x hx)]; exact decide_eq_true (h hx)⟩
  unfold isB
  rw [Bool.and_eq_true, Bool.and_eq_true, decide_eq_true_iff, hall, and_assoc]
  refine and_congr_right fun _ => and_congr_right fun hf => ?_
  rw [range_all, ← chain_expn, chain_at, unL_len]
  have fin : ∀ i, i < es.length → es.getD i 0 % 9223372036854775808 < 9218868437227405312 := fun i hi => hf _ (by rw [List.getD, List.getElem?_eq_getElem hi]; exact List.getElem_mem ..)
  constructor
  · intro h i hi
    have h1 := h i hi
    unfold okAt at h1
    rw [Bool.and_eq_true, Bool.or_eq_true, decide_eq_true_iff, decide_eq_true_iff] at h1
    rw [unL_at es hi]
    refine ⟨fun g => h1.1 (un_zero.1 g), ?_⟩
    rcases h1.2 with g | g
    · exact .inl g
    · rcases Nat.eq_zero_or_pos i with h0 | h0
      · exact .inl h0
      · refine .inr ?_
        rw [unL_at es (by omega)]
        have h2 := h (i - 1) (by omega)
        unfold okAt at h2
        rw [Bool.and_eq_true, decide_eq_true_iff] at h2
        exact (low_iff (fin i hi) (fun g => h2.1 (un_zero.1 g)) (fun g => h1.1 (un_zero.1 g))).1 g
  · intro h i hi
    unfold okAt
    rw [Bool.and_eq_true, Bool.or_eq_true, decide_eq_true_iff, decide_eq_true_iff]
    obtain ⟨h1, h2⟩ := h i hi
    rw [unL_at es hi] at h1 h2
    refine ⟨fun g => h1 (un_zero.2 g), ?_⟩
    rcases Nat.eq_zero_or_pos i with h0 | h0
    · exact .inl h0
    · refine .inr ?_
      rcases h2 with g | g
      · omega
      · rw [unL_at es (by omega)] at g
        have h3 := (h (i - 1) (by omega)).1
        rw [unL_at es (by omega)] at h3
        exact (low_iff (fin i hi) h3 h1).2 g
theorem fzL_words : ∀ {es : List Nat}, (∀ x ∈ es, x % 9223372036854775808 < 9218868437227405312) → FzL (es.map fv) (unL es)
  | [], _ => trivial
  | x :: es, h => ⟨fz_of (h x (List.mem_cons_self ..)), fzL_words fun y hy => h y (List.mem_cons_of_mem _ hy)⟩
theorem fzL_unL : ∀ {es : List Nat} {zs : List Int}, FzL (es.map fv) zs → (∀ x ∈ es, x % 9223372036854775808 < 9218868437227405312) ∧ unL es = zs
  | [], [], _ => ⟨fun x hx => absurd hx (by simp), rfl⟩
  | x :: es, z :: zs, h => by
    obtain ⟨h1, h2⟩ := fzL_unL (es := es) h.2
    obtain ⟨h3, h4⟩ := Fz.fv h.1
    refine ⟨fun y hy => ?_, ?_⟩
    · rcases List.mem_cons.1 hy with rfl | hy
      · exact h3
      · exact h1 y hy
    · unfold unL at h2 ⊢
      rw [List.map_cons, h2, h4]
  | [], _ :: _, h => h.elim
  | _ :: _, [], h => h.elim
theorem isB_words {es : List Nat} (hw : Words64 es) (h : isB es = true) : FzL (es.map fv) (unL es) ∧ Expn (unL es) ∧ (∀ z ∈ unL es, RepZ z) := by
  obtain ⟨_, h2, h3⟩ := (isB_iff hw).1 h
  have := fzL_words h2
  exact ⟨this, h3, this.rep⟩
theorem isB_res {ls : List Nat} {zs : List Int} (hw : Words64 ls) (h : FzL (ls.map fv) zs) (hl : ls.length ≤ 64) (hE : Expn zs) : isB ls = true ∧ unL ls = zs := by
  obtain ⟨h1, h2⟩ := fzL_unL h
  exact ⟨(isB_iff hw).2 ⟨hl, h1, by rw [h2]; exact hE⟩, h2⟩
end Go.Proofs.YtjmaggfddinbkaaGreatDoor
end

section
namespace Go.Proofs.YtjmaggfddinbkaaGreatDoor
/-! Scale -/
theorem pow_split {i j u : Nat} (h : u ≤ i + j) : (2 : Int) ^ i * 2 ^ j = 2 ^ (i + j - u) * 2 ^ u := by rw [← Int.pow_add, ← Int.pow_add, Nat.sub_add_cancel h]
theorem prod_at {a y P : Int} {j k : Nat} (hk : upl ≤ k + j) (h : P * 2 ^ upl = y * 2 ^ k * (a * 2 ^ j)) : P = y * (a * 2 ^ (k + j - upl)) := by
  refine eq_of_shift (j := upl) ?_
  rw [h, Int.mul_assoc, Int.mul_assoc, Int.mul_assoc, ← pow_split hk]
  congr 1
  ac_rfl
theorem mu_gap {p k : Nat} {z : Int} (h : Mu p z) (hz : z.natAbs < 2 ^ k) (h0 : z ≠ 0) : p ≤ k ∧ z.natAbs + 2 ^ p ≤ 2 ^ k := by
  have hp : p ≤ k := by
    have := Nat.lt_of_le_of_lt (h.least h0) hz
    have := (Nat.pow_lt_pow_iff_right (show 1 < 2 by decide)).1 this
    omega
  refine ⟨hp, mu_beyond h.abs ⟨2 ^ (k - p), ?_⟩ hz⟩
  rw [← Nat.pow_add, Nat.sub_add_cancel hp]
theorem sc_of {a : Int} {j : Nat} (ha : RepZ a) : ∀ {l Ps : List Int} {k : Nat}, upl ≤ k + j → Ps.map (· * 2 ^ upl) = l.map (· * (a * 2 ^ j)) → Expn l → (∀ y ∈ l, Mu k y) → (∀ P ∈ Ps, RepZ (P - rn P)) →
    Sc Ps (a * 2 ^ (k + j - upl))
  | [], [], _, _, _, _, _, _ => trivial
  | y :: l, P :: Ps, k, hk, hP, hE, hM, hR => by
    rw [List.map_cons, List.map_cons, List.cons.injEq] at hP
    obtain ⟨hE1, hE2, hE3⟩ := hE
    obtain ⟨m, hm⟩ := hM y (List.mem_cons_self ..)
    have hm0 : m ≠ 0 := fun h => hE1 (by rw [hm, h, Int.zero_mul])
    have eP : P = m * (a * 2 ^ (k + j - upl)) := prod_at hk (by rw [hP.1, hm])
    obtain ⟨g1, g2⟩ := mu_gap (hM y (List.mem_cons_self ..)) (zl_lt y) hE1
    refine ⟨⟨m, hm0, eP⟩, hR P (List.mem_cons_self ..), a * 2 ^ (zl y + j - upl), repz_shift.2 ha, ?_, ⟨2 ^ (zl y - k), ?_⟩, sc_of ha (by omega) hP.2 hE3 hE2 fun Q hQ => hR Q (List.mem_cons_of_mem _ hQ)⟩
    · have e : zl y + j - upl = (k + j - upl) + (zl y - k) := by omega
      have g3 : m.natAbs + 1 ≤ 2 ^ (zl y - k) := by
        have e2 : zl y = (zl y - k) + k := by omega
        rw [hm, natAbs_mul_pow] at g2
        have g4 : (m.natAbs + 1) * 2 ^ k ≤ 2 ^ (zl y - k) * 2 ^ k := by rw [← Nat.pow_add, ← e2, Nat.add_mul, Nat.one_mul, hm]; exact g2
        exact Nat.le_of_mul_le_mul_right g4 (Nat.two_pow_pos k)
      rw [eP, Int.natAbs_mul, natAbs_mul_pow, natAbs_mul_pow, e, Nat.pow_add]
      have g5 := Nat.mul_le_mul_right (a.natAbs * 2 ^ (k + j - upl)) g3
      rw [Nat.add_mul, Nat.one_mul] at g5
      refine Nat.le_trans g5 (Nat.le_of_eq ?_)
      generalize 2 ^ (zl y - k) = X
      generalize 2 ^ (k + j - upl) = Y
      rw [Nat.mul_comm Y X, Nat.mul_left_comm]
    · have e : zl y + j - upl = (zl y - k) + (k + j - upl) := by omega
      rw [e, Int.pow_add]
      generalize (2 : Int) ^ (zl y - k) = X
      generalize (2 : Int) ^ (k + j - upl) = Y
      rw [Int.mul_left_comm]
  | [], _ :: _, _, _, h, _, _, _ => by cases h
  | _ :: _, [], _, _, h, _, _, _ => by cases h
theorem scale_all {a : Int} {j : Nat} (ha : RepZ a) (ha0 : a ≠ 0) {z : Int} {l : List Int} {P : Int} {Ps : List Int} (hE : Expn (z :: l)) (hz : ∃ i, Mu i z ∧ upl ≤ i + j) (hP : P * 2 ^ upl = z * (a * 2 ^ j)) (hPs : Ps.map (· * 2 ^ upl) = l.map (· * (a * 2 ^ j)))
    (hR : RepZ (P - rn P)) (hRs : ∀ P ∈ Ps, RepZ (P - rn P)) :
    Expn (layZ (P - rn P) (scaleS (Ps.map fun P => (rn P, P - rn P)) (rn P))) ∧ (layZ (P - rn P) (scaleS (Ps.map fun P => (rn P, P - rn P)) (rn P))).sum * 2 ^ upl = (z :: l).sum * (a * 2 ^ j) := by
  obtain ⟨hE1, hE2, hE3⟩ := hE
  obtain ⟨i, ⟨m, hm⟩, hi⟩ := hz
  have eP : P = m * (a * 2 ^ (i + j - upl)) := prod_at hi (by rw [hP, hm])
  obtain ⟨g1, _⟩ := mu_gap ⟨m, hm⟩ (zl_lt z) hE1
  have hc : upl ≤ zl z + j := by omega
  have hlt : P.natAbs < (a * 2 ^ (zl z + j - upl)).natAbs := by
    have e : zl z + j - upl = (i + j - upl) + (zl z - i) := by omega
    have hz := zl_lt z
    have e2 : zl z = (zl z - i) + i := by omega
    have h1 : z.natAbs = m.natAbs * 2 ^ i := by rw [← natAbs_mul_pow, ← hm]
    have h2 : m.natAbs < 2 ^ (zl z - i) := by
      refine Nat.lt_of_mul_lt_mul_right (a := 2 ^ i) ?_
      rw [← Nat.pow_add, ← e2, ← h1]; exact hz
    rw [eP, Int.natAbs_mul, natAbs_mul_pow, natAbs_mul_pow, e, Nat.pow_add]
    have hpos : 0 < a.natAbs * 2 ^ (i + j - upl) := Nat.mul_pos (by omega) (Nat.two_pow_pos _)
    have h3 := Nat.mul_lt_mul_of_pos_right h2 hpos
    refine Nat.lt_of_lt_of_le h3 (Nat.le_of_eq ?_)
    generalize 2 ^ (zl z - i) = X
    generalize 2 ^ (i + j - upl) = Y
    rw [Nat.mul_comm Y X, Nat.mul_left_comm]
  obtain ⟨k1, k2⟩ := scale_first (repz_shift.2 ha) hlt hR (sc_of ha hc hPs hE3 hE2 hRs)
  rw [k2]
  refine ⟨k1, ?_⟩
  rw [lay_sum, scale_sum, show P - rn P + (Ps.sum + rn P) = P + Ps.sum by omega, Int.add_mul, hP, List.sum_cons, Int.add_mul]
  congr 1
  clear hRs hlt hP k1 k2 eP hE2 hE3
  induction l generalizing Ps with
  | nil =>
    cases Ps with
    | nil => rw [List.sum_nil, Int.zero_mul, Int.zero_mul]
    | cons _ _ => cases hPs
  | cons y l ih =>
    cases Ps with
    | nil => cases hPs
    | cons Q Ps =>
      rw [List.map_cons, List.map_cons, List.cons.injEq] at hPs
      rw [List.sum_cons, List.sum_cons, Int.add_mul, Int.add_mul, hPs.1, ih hPs.2]
theorem rev_sum : ∀ l : List Int, l.reverse.sum = l.sum
  | [] => rfl
  | x :: l => by rw [List.reverse_cons, List.sum_append, rev_sum l, List.sum_cons, List.sum_cons, List.sum_nil]; omega
/-! Grow, Add -/
def toW (L : List (Option Nat)) : List Nat := L.map fun v => v.getD 0
theorem toW_fv : ∀ {ls : List Nat}, (∀ x ∈ ls, x % 9223372036854775808 < 9218868437227405312) → toW (ls.map fv) = ls
  | [], _ => rfl
  | x :: ls, h => by
    have h1 : fv x = some x := if_neg (by have := h x (List.mem_cons_self ..); omega)
    have h2 := toW_fv (ls := ls) fun y hy => h y (List.mem_cons_of_mem _ hy)
    unfold toW at h2 ⊢
    rw [List.map_cons, List.map_cons, h2, h1]; rfl
def addL : List Nat → List Nat → List (Option Nat) × Int
  | es, [] => (es.map fv, 0)
  | es, b :: fs => if growEr es b = 0 then addL (toW (growL es b)) fs else ([], growEr es b)
def addR (es fs : List Nat) : List (Option Nat) × Int := if chkE es = 0 then (if chkE fs = 0 then addL es fs else ([], chkE fs)) else ([], chkE es)
theorem growEr_zero {es : List Nat} {b : Nat} (h : growEr es b = 0) : chkE es = 0 ∧ finW b = true ∧ (growSt (es.map fv) (fv b)).err = 0 ∧ growL es b = (growSt (es.map fv) (fv b)).all := by
  unfold growEr at h
  by_cases h0 : chkE es = 0
  · rw [if_pos h0] at h
    cases hb : finW b
    · rw [hb, if_neg Bool.false_ne_true] at h; cases h
    · rw [hb, if_pos rfl] at h
      refine ⟨h0, rfl, h, ?_⟩
      unfold growL Lay.out
      rw [if_pos h0, hb, if_pos rfl, if_pos h]
  · rw [if_neg h0] at h; exact absurd h h0
theorem err_zero {s : Lay} (h : s.err = 0) : s.ov = false ∧ s.all.length ≤ 64 := by
  unfold Lay.err at h
  cases ho : s.ov
  · rw [ho, if_neg Bool.false_ne_true] at h
    refine ⟨rfl, ?_⟩
    split at h
    · cases h
    · omega
  · rw [ho, if_pos rfl] at h; cases h
theorem grow_res {es ls : List Nat} {b : Nat} (hw : Words64 es) (h0 : growEr es b = 0) (hws : Words64 ls) (hm : ls.map fv = growL es b) :
    ls = toW (growL es b) ∧ isB ls = true ∧ unL ls = growZ (unL es) (Fp.un Ieee.double b) := by
  obtain ⟨h1, h2, h3, h4⟩ := growEr_zero h0
  obtain ⟨h5, h6⟩ := err_zero h3
  obtain ⟨k1, k2, k3⟩ := isB_words hw (chkE_zero.1 h1)
  have hb : Fz (fv b) (Fp.un Ieee.double b) := fz_of (of_decide_eq_true h2)
  have hf := grow_keeps k1 hb h5
  rw [← h4, ← hm] at hf
  have hl : ls.length ≤ 64 := by rw [← h4, ← hm, List.length_map] at h6; exact h6
  obtain ⟨r1, r2⟩ := isB_res hws hf hl (grow_exp _ _ k2 k3 hb.rep)
  exact ⟨by rw [← hm, toW_fv (fzL_unL hf).1], r1, r2⟩
theorem isB_len {es : List Nat} (h : isB es = true) : es.length ≤ 64 := by
  unfold isB at h; simp only [Bool.and_eq_true, decide_eq_true_eq] at h; exact h.1.1
end Go.Proofs.YtjmaggfddinbkaaGreatDoor
end

section
namespace Go.Proofs.YtjmaggfddinbkaaGreatDoor
open Go.RowKit
set_option maxRecDepth 100000 in
set_option maxHeartbeats 600000 in
theorem l_any (A : Option Addr) (c : Nat) (l : List Nat) (hw : Words64 l) (hl : l.length * 8 ≤ 140737488355328) (w : World) (hr : SlAt w A (u64v l)) : Calls Tryz.prog 12 #[.slice A l.length c] w fun e w' => ∃ v, e = .returned v ∧ OwnF w' w.heap.size v l ∧ Within w w' := by
  have CO := Lib.hid (Rof64_any A c l hw hl w hr)
  clear hw hr
  go_enter Tryz.func12, Tryz.ntmps12
  go_wp2_with fail
  refine CO.out.mono ?_; rintro e1 w1 ⟨v, rfl, hO, hb1⟩
  have HO := Lib.hid hO; clear hO
  go_wp2
  go_ret
  exact ⟨_, rfl, HO.out, hb1⟩
theorem OwnF.lit0 (w : World) (base : Nat) (hb : base ≤ w.heap.size) : OwnF (w.alloc (.cells #[] 29)) base (.slice (some ⟨w.heap.size, 0, none⟩) 0 0) [] := by
  have h := World.ownsRow_lit (base := base) (e := 29) (size := 1) w #[] 0 hb (by decide) (by simp)
  unfold OwnF
  simpa [f64v] using h
set_option maxRecDepth 100000 in
set_option maxHeartbeats 600000 in
theorem eclone_any (A : Option Addr) (c : Nat) (l : List Nat) (hl : l.length * 8 ≤ 140737488355328) (w : World) (hr : SlAt w A (f64v l)) : Calls Tryz.prog 78 #[.slice A l.length c] w fun e w' => ∃ v, e = .returned v ∧ OwnF w' w.heap.size v l ∧ Within w w' := by
  rcases A with _ | ad
  · have h0 : l = [] := by
      rcases Nat.eq_zero_or_pos l.length with h | h
      · exact List.eq_nil_of_length_eq_zero h
      · obtain ⟨_, e, _⟩ := hr (by rw [f64v_len]; exact h); cases e
    subst h0
    clear hr
    have q : ∀ w : World, (binOp .eql 24 (.slice none 0 c) (.slice none 0 0)).run Tryz.prog w = .ok (.bool true) w := fun _ => by kernel_rfl
    go_enter Tryz.func78, Tryz.ntmps78
    go_wp2
    go_ret
    exact ⟨_, rfl, OwnF.nil_ _ _, Within.refl _⟩
  · have q : ∀ (n : Nat) (w : World), (binOp .eql 24 (.slice (some ad) n c) (.slice none 0 0)).run Tryz.prog w = .ok (.bool false) w := fun _ _ => by kernel_rfl
    have hin := (Within.refl w).alloc (.cells #[] 29)
    obtain ⟨v2, w2, hrun, hO2, hB2⟩ := run_app_f64 _ w.heap.size _ [] l (OwnF.lit0 w w.heap.size (Nat.le_refl _)) (some ad) c (hr.of hin) (by rw [List.length_nil]; omega) hin.size
    rw [List.nil_append] at hO2
    have hW2 : Within w w2 := Below.trans hin hB2
    have RUN := Lib.hid hrun; have HO := Lib.hid hO2; have HW := Lib.hid hW2; clear hrun hO2 hW2 hr hin hB2
    go_enter Tryz.func78, Tryz.ntmps78
    go_wp2_with (at_builtin; refine wpList_append_run rfl (.tmp 5) (.tmp 6) 24 rfl _ _ rfl rfl RUN.out ?_)
    go_ret
    exact ⟨_, rfl, HO.out, HW.out⟩
set_option maxRecDepth 100000 in
set_option maxHeartbeats 600000 in
theorem eAdd_bad1 (A B : Option Addr) (c d : Nat) (es fs : List Nat) (hw : Words64 es) (hwf : Words64 fs) (hl : es.length * 8 ≤ 140737488355328) (hlf : fs.length * 8 ≤ 140737488355328) (v : Int) (hv : chkE es = v) (h0 : (v != 0) = true) (w : World) (hT : Tab w) (hr : SlAt w A (f64v es)) (hrf : SlAt w B (f64v fs)) : Calls Tryz.prog 19 #[.slice A es.length c, .slice B fs.length d] w (ResF w [] v) := by
  have HWE := Lib.hid hw; have HWF := Lib.hid hwf; have HRE := Lib.hid hr; have HRF := Lib.hid hrf; clear hr hrf
  have HT := Lib.hid hT; clear hT
  have CE := Lib.hid (fun w hT hr => echeck_any A c es hw (by omega) w hT hr)
  rw [hv] at CE
  clear hv hw hwf
  go_enter Tryz.func19, Tryz.ntmps19
  go_wp2_with fail
  refine (CE.out _ HT.out HRE.out).mono ?_; rintro e1 w1 ⟨rfl, hb1⟩
  go_wp2
  go_ret2
  exact ResF.none_ v hb1
set_option maxRecDepth 100000 in
set_option maxHeartbeats 600000 in
theorem eAdd_bad2 (A B : Option Addr) (c d : Nat) (es fs : List Nat) (hw : Words64 es) (hwf : Words64 fs) (hl : es.length * 8 ≤ 140737488355328) (hlf : fs.length * 8 ≤ 140737488355328) (h1 : chkE es = 0) (v : Int) (hv : chkE fs = v) (h0 : (v != 0) = true) (w : World) (hT : Tab w) (hr : SlAt w A (f64v es)) (hrf : SlAt w B (f64v fs)) : Calls Tryz.prog 19 #[.slice A es.length c, .slice B fs.length d] w (ResF w [] v) := by
  have HWE := Lib.hid hw; have HWF := Lib.hid hwf; have HRE := Lib.hid hr; have HRF := Lib.hid hrf; clear hr hrf
  have HT := Lib.hid hT; clear hT
  have CE := Lib.hid (fun w hT hr => echeck_any A c es hw (by omega) w hT hr)
  have CF := Lib.hid (fun w hT hr => echeck_any B d fs hwf (by omega) w hT hr)
  rw [h1] at CE
  rw [hv] at CF
  clear hv h1 hw hwf
  go_enter Tryz.func19, Tryz.ntmps19
  go_wp2_with fail
  refine (CE.out _ HT.out HRE.out).mono ?_; rintro e1 w1 ⟨rfl, hb1⟩
  go_wp2_with fail
  refine (CF.out _ (HT.out.of hb1) (HRF.out.of hb1)).mono ?_; rintro e2 w2 ⟨rfl, hb2⟩
  go_wp2
  go_ret2
  exact ResF.none_ v (hb1.trans hb2)
set_option maxRecDepth 100000 in
set_option maxHeartbeats 2000000 in
theorem eAdd_main (A B : Option Addr) (c d : Nat) (es fs : List Nat) (hw : Words64 es) (hwf : Words64 fs) (hl : es.length * 8 ≤ 140737488355328) (hlf : fs.length * 8 ≤ 140737488355328) (h1 : chkE es = 0) (h2 : chkE fs = 0) (w : World) (hT : Tab w) (hr : SlAt w A (f64v es)) (hrf : SlAt w B (f64v fs)) : Calls Tryz.prog 19 #[.slice A es.length c, .slice B fs.length d] w (ResF w (addL es fs).1 (addL es fs).2) := by
  have HWE := Lib.hid hw; have HWF := Lib.hid hwf; have HRE := Lib.hid hr; have HRF := Lib.hid hrf; clear hr hrf
  have HT := Lib.hid hT; clear hT
  have CE := Lib.hid (fun w hT hr => echeck_any A c es hw (by omega) w hT hr)
  have CF := Lib.hid (fun w hT hr => echeck_any B d fs hwf (by omega) w hT hr)
  rw [h1] at CE
  rw [h2] at CF
  clear h1 h2 hw hwf
  go_enter Tryz.func19, Tryz.ntmps19
  go_wp2_with fail
  refine (CE.out _ HT.out HRE.out).mono ?_; rintro e1 w1 ⟨rfl, hb1⟩
  go_wp2_with fail
  refine (CF.out _ (HT.out.of hb1) (HRF.out.of hb1)).mono ?_; rintro e2 w2 ⟨rfl, hb2⟩
  have CC := Lib.hid (fun w hr => eclone_any A c es hl w hr)
  go_wp2_with fail
  refine (CC.out _ (HRE.out.of (hb1.trans hb2))).mono ?_; rintro e3 w3 ⟨v3, rfl, hO3, hb3⟩
  have hw3 := (hb1.trans hb2).trans hb3
  have hO3' := hO3.less (hb1.trans hb2).size
  obtain ⟨A3, c3, rfl, _, _, _⟩ := hO3'.form
  have HO3 := Lib.hid hO3'; clear hO3' hO3
  go_wp2
  go_loopw [8, 26] (fun sv iv wr => ∃ (k : Nat) (A' : Option Addr) (c' : Nat) (s : List Nat), k ≤ fs.length ∧ iv = .int .i64 (k : Int) ∧ sv = .slice A' s.length c' ∧ OwnF wr w.heap.size (.slice A' s.length c') s ∧ Words64 s ∧ s.length ≤ 1152921504606846976 ∧ addL es fs = addL s (fs.drop k) ∧ Within w wr) (fun _ iv _ => fs.length - (intOf iv).toNat)
  case atStart => exact ⟨0, A3, c3, es, Nat.zero_le _, rfl, rfl, HO3.out, HWE.out, by omega, rfl, hw3⟩
  case round =>
    obtain ⟨k, A', c', s, hk, rfl, rfl, hO, hws, hls, hadd, hin⟩ := hrel
    have HO := Lib.hid hO; have HWS := Lib.hid hws; have HLS := Lib.hid hls; have HADD := Lib.hid hadd; clear hO hws hls hadd
    by_cases hlt : k < fs.length
    · obtain ⟨ad, rfl, hblk, hc⟩ := (HRF.out.of hin).at hlt
      have hd : fs.drop k = fs.getD k 0 :: fs.drop (k + 1) := by rw [List.drop_eq_getElem_cons hlt, List.getD, List.getElem?_eq_getElem hlt]; rfl
      obtain ⟨x, hx⟩ : ∃ x, x = fs.getD k 0 := ⟨_, rfl⟩
      have hx64 : x < 18446744073709551616 := by rw [hx]; exact HWF.out.at hlt
      rw [← hx] at hc hd
      clear hx
      obtain ⟨A2, c2, he, _, hs2, _⟩ := HO.out.form
      obtain ⟨rfl, rfl⟩ : A' = A2 ∧ c' = c2 := by injection he with h1 _ h2; exact ⟨h1, h2⟩
      clear he
      have HS2 := Lib.hid hs2; clear hs2
      have GW := Lib.hid (eGrow_any A' c' s HWS.out HLS.out x hx64 _ (HT.out.of hin) HS2.out)
      have hsp : addL es fs = if growEr s x = 0 then addL (toW (growL s x)) (fs.drop (k + 1)) else ([], growEr s x) := by rw [HADD.out, hd]; rfl
      by_cases h0 : growEr s x = 0
      · rw [if_pos h0] at hsp
        have GR := Lib.hid (fun ls hls hm => grow_res (ls := ls) HWS.out h0 hls hm)
        rw [h0] at GW
        have HSP := Lib.hid hsp; clear hsp h0 hd hx64
        go_wp2_with fail
        refine GW.out.mono ?_; rintro e4 w4 ⟨sv, ls, rfl, hO4, hws4, hm4, hb4⟩
        obtain ⟨r1, r2, _⟩ := GR.out ls hws4 hm4
        rw [← r1] at HSP
        have hl4 : ls.length ≤ 1152921504606846976 := Nat.le_trans (isB_len r2) (by decide)
        have hO5 := hO4.less hin.size
        obtain ⟨A5, c5, rfl, _, _, _⟩ := hO5.form
        have HO5 := Lib.hid hO5; have HW4 := Lib.hid hws4; have HL4 := Lib.hid hl4; have HIN := Lib.hid (hin.trans hb4); clear hO4 hO5 hws4 hm4 hl4 r1 r2 hin hb4
        go_wp2
        go_roundw
        case rel => exact ⟨k + 1, A5, c5, ls, hlt, by go_num, rfl, HO5.out, HW4.out, HL4.out, HSP.out, HIN.out⟩
        case measure => simp [intOf]; omega
      · rw [if_neg h0] at hsp
        obtain ⟨er, her⟩ : ∃ er, er = growEr s x := ⟨_, rfl⟩
        rw [← her] at GW hsp h0
        have hne : (er != 0) = true := by simpa using h0
        have HSP := Lib.hid hsp; clear hsp h0 hd hx64 her
        go_wp2_with fail
        refine GW.out.mono ?_; rintro e4 w4 ⟨sv, ls, rfl, hO4, hws4, hm4, hb4⟩
        have HIN := Lib.hid (hin.trans hb4); clear hO4 hws4 hm4 hin hb4
        go_wp2
        go_ret2
        rw [HSP.out]
        exact ResF.none_ er HIN.out
    · obtain rfl : k = fs.length := by omega
      have hend : addL es fs = (s.map fv, 0) := by rw [HADD.out, List.drop_length]; rfl
      have HE := Lib.hid hend; clear hend
      go_wp2
      go_ret2
      rw [HE.out]
      exact ⟨_, s, rfl, HO.out, HWS.out, rfl, hin⟩
theorem eAdd_any (A B : Option Addr) (c d : Nat) (es fs : List Nat) (hw : Words64 es) (hwf : Words64 fs) (hl : es.length * 8 ≤ 140737488355328) (hlf : fs.length * 8 ≤ 140737488355328) (w : World) (hT : Tab w) (hr : SlAt w A (f64v es)) (hrf : SlAt w B (f64v fs)) : Calls Tryz.prog 19 #[.slice A es.length c, .slice B fs.length d] w (ResF w (addR es fs).1 (addR es fs).2) := by
  unfold addR
  by_cases h1 : chkE es = 0
  · rw [if_pos h1]
    by_cases h2 : chkE fs = 0
    · rw [if_pos h2]; exact eAdd_main A B c d es fs hw hwf hl hlf h1 h2 w hT hr hrf
    · rw [if_neg h2]; exact eAdd_bad2 A B c d es fs hw hwf hl hlf h1 _ rfl (by simpa using h2) w hT hr hrf
  · rw [if_neg h1]; exact eAdd_bad1 A B c d es fs hw hwf hl hlf _ rfl (by simpa using h1) w hT hr hrf
end Go.Proofs.YtjmaggfddinbkaaGreatDoor
end

section
namespace Go.Proofs.YtjmaggfddinbkaaGreatDoor
open Go.RowKit
theorem fv_nil {ls : List Nat} (h : ls.map fv = []) : ls = [] := List.map_eq_nil_iff.1 h
theorem isB_fins {ls : List Nat} (hw : Words64 ls) (h : isB ls = true) : ∀ x ∈ ls, x % 9223372036854775808 < 9218868437227405312 := ((isB_iff hw).1 h).2.1
def Bd (v : Option Nat) : Prop := ∀ x, v = some x → x < 18446744073709551616
theorem fop_bd (op : BinOp) (a b : Option Nat) : Bd (fop op a b) := by
  intro r h
  cases a with
  | none => cases h
  | some x =>
    cases b with
    | none => cases h
    | some y => exact (floatBits_sane (show floatBits op .f64 x y = some r from h)).1
theorem fv_bd {x : Nat} (h : x < 18446744073709551616) : Bd (fv x) := by
  intro r hr
  unfold fv at hr
  split at hr
  · cases hr
  · rw [← Option.some.inj hr]; exact h
theorem layV_bd {l : List (Option Nat)} {v : Option Nat} (h : ∀ u ∈ l, Bd u) (hv : Bd v) : ∀ u ∈ layV l v, Bd u := by
  unfold layV
  split
  · intro u hu
    rcases List.mem_append.1 hu with g | g
    · exact h u g
    · rw [List.mem_singleton.1 g]; exact hv
  · exact h
theorem grow_bd : ∀ (es : List (Option Nat)) (s : Lay), Bd s.q → (∀ u ∈ s.l, Bd u) → Bd (es.foldl growStep s).q ∧ ∀ u ∈ (es.foldl growStep s).l, Bd u
  | [], _, h1, h2 => ⟨h1, h2⟩
  | e :: es, s, h1, h2 => grow_bd es (growStep s e) (fop_bd _ _ _) (layV_bd h2 (fop_bd _ _ _))
theorem toW_words {L : List (Option Nat)} (h : ∀ u ∈ L, Bd u) : Words64 (toW L) := by
  intro x hx
  unfold toW at hx
  obtain ⟨v, hv, rfl⟩ := List.mem_map.1 hx
  cases v with
  | none => exact (by decide : (0 : Nat) < 18446744073709551616)
  | some y => exact h _ hv y rfl
theorem toW_back : ∀ {L : List (Option Nat)} {zs : List Int}, FzL L zs → (toW L).map fv = L
  | [], [], _ => rfl
  | v :: L, z :: zs, h => by
    obtain ⟨x, rfl, hx, _⟩ := h.1
    have h2 := toW_back (L := L) h.2
    unfold toW at h2 ⊢
    rw [List.map_cons, List.map_cons, h2]
    show fv x :: L = _
    rw [show fv x = some x from if_neg (by omega)]
  | [], _ :: _, h => h.elim
  | _ :: _, [], h => h.elim
theorem words_toW {es : List Nat} {b : Nat} (h0 : growEr es b = 0) (hw : Words64 es) (hb64 : b < 18446744073709551616) : Words64 (toW (growL es b)) ∧ (toW (growL es b)).map fv = growL es b := by
  obtain ⟨h1, h2, h3, h4⟩ := growEr_zero h0
  obtain ⟨h5, h6⟩ := err_zero h3
  obtain ⟨k1, k2, k3⟩ := isB_words hw (chkE_zero.1 h1)
  have hb : Fz (fv b) (Fp.un Ieee.double b) := fz_of (of_decide_eq_true h2)
  have hf := grow_keeps k1 hb h5
  rw [← h4] at hf
  refine ⟨toW_words ?_, toW_back hf⟩
  rw [h4]
  obtain ⟨g1, g2⟩ := grow_bd (es.map fv) ⟨fv b, [], false⟩ (fv_bd hb64) (fun u hu => absurd hu (by simp))
  exact layV_bd g2 g1
theorem addL_res : ∀ {fs es : List Nat}, Words64 es → isB es = true → Words64 fs → (addL es fs).2 = 0 → ∀ {ls : List Nat}, Words64 ls → ls.map fv = (addL es fs).1 → isB ls = true ∧ ls = toW (addL es fs).1 ∧ (unL ls).sum = (unL es).sum + (unL fs).sum
  | [], es, hw, he, _, _, ls, hws, hm => by
    have hf := isB_fins hw he
    have hm' : ls.map fv = es.map fv := hm
    have e1 : toW (es.map fv) = es := toW_fv hf
    have hl : ls = es := by
      obtain ⟨h1, h2⟩ := fzL_unL (es := ls) (zs := unL es) (by rw [hm']; exact fzL_words hf)
      rw [← toW_fv h1, hm', e1]
    subst hl
    exact ⟨he, e1.symm, by unfold unL; rw [List.map_nil, List.sum_nil, Int.add_zero]⟩
  | b :: fs, es, hw, he, hwf, h0, ls, hws, hm => by
    unfold addL at h0 hm ⊢
    by_cases hg : growEr es b = 0
    · rw [if_pos hg] at h0 hm ⊢
      have hb := hwf b (List.mem_cons_self ..)
      obtain ⟨r1, r2⟩ := words_toW hg hw hb
      obtain ⟨r3, r4, r5⟩ := grow_res hw hg r1 r2
      obtain ⟨q1, q2, q3⟩ := addL_res r1 r4 (fun x hx => hwf x (List.mem_cons_of_mem _ hx)) h0 hws hm
      refine ⟨q1, q2, ?_⟩
      rw [q3, r5, grow_sum]
      unfold unL
      rw [List.map_cons, List.sum_cons]; omega
    · rw [if_neg hg] at h0
      exact absurd h0 hg
theorem addR_zero {es fs : List Nat} (h : (addR es fs).2 = 0) : isB es = true ∧ isB fs = true ∧ addR es fs = addL es fs := by
  unfold addR at h ⊢
  by_cases h1 : chkE es = 0
  · rw [if_pos h1] at h ⊢
    by_cases h2 : chkE fs = 0
    · rw [if_pos h2]; exact ⟨chkE_zero.1 h1, chkE_zero.1 h2, rfl⟩
    · rw [if_neg h2] at h; exact absurd h h2
  · rw [if_neg h1] at h; exact absurd h h1
theorem addR_res {es fs ls : List Nat} (hw : Words64 es) (hwf : Words64 fs) (h0 : (addR es fs).2 = 0) (hws : Words64 ls) (hm : ls.map fv = (addR es fs).1) : isB ls = true ∧ ls = toW (addR es fs).1 ∧ (unL ls).sum = (unL es).sum + (unL fs).sum := by
  obtain ⟨h1, h2, h3⟩ := addR_zero h0
  rw [h3] at h0 hm ⊢
  exact addL_res hw h1 hwf h0 hws hm
end Go.Proofs.YtjmaggfddinbkaaGreatDoor
end

section
namespace Go.Proofs.YtjmaggfddinbkaaGreatDoor
def lostB (a b : Nat) : Bool := decide (pExpD a + pExpD b < -1074)
def scale0 (e b : Nat) : Lay := ⟨proP (fv e) (fv b), layV [] (proE (fv e) (fv b)), !finV (proP (fv e) (fv b)) || !finV (proE (fv e) (fv b))⟩
def ss (e : Nat) (tl : List Nat) (b k : Nat) : Lay := ((tl.map fv).take k).foldl (scaleStep (fv b)) (scale0 e b)
theorem ss_zero (e : Nat) (tl : List Nat) (b : Nat) : ss e tl b 0 = scale0 e b := by unfold ss; rw [List.take_zero]; rfl
theorem ss_all (e : Nat) (tl : List Nat) (b : Nat) : ss e tl b tl.length = scaleSt (fv e) (tl.map fv) (fv b) := by
  unfold ss scaleSt
  rw [List.take_of_length_le (by rw [List.length_map]; exact Nat.le_refl _)]
  rfl
theorem ss_succ (e : Nat) (tl : List Nat) (b : Nat) {k : Nat} (h : k < tl.length) : ss e tl b (k + 1) = scaleStep (fv b) (ss e tl b k) (fv (tl.getD k 0)) := by
  unfold ss
  rw [fold_take (scaleStep (fv b)) _ (tl.map fv) none (by rw [List.length_map]; exact h), getD_fv tl h]
theorem scaleStep_len (b : Option Nat) (s : Lay) (e : Option Nat) : (scaleStep b s e).l.length ≤ s.l.length + 2 := by
  have h1 := layV_len (layV s.l (twoL s.q (proE e b))) (quiL (proP e b) (twoS s.q (proE e b)))
  have h2 := layV_len s.l (twoL s.q (proE e b))
  show (layV (layV s.l (twoL s.q (proE e b))) (quiL (proP e b) (twoS s.q (proE e b)))).length ≤ _
  omega
theorem ss_len (e : Nat) (tl : List Nat) (b : Nat) : ∀ k, k ≤ tl.length → (ss e tl b k).l.length ≤ 2 * k + 1
  | 0, _ => by
    rw [ss_zero]
    have := layV_len [] (proE (fv e) (fv b))
    show (layV [] (proE (fv e) (fv b))).length ≤ _
    rw [List.length_nil] at this
    omega
  | k + 1, h => by
    have h1 := ss_len e tl b k (by omega)
    have h2 := scaleStep_len (fv b) (ss e tl b k) (fv (tl.getD k 0))
    rw [ss_succ e tl b (by omega)]
    omega
def scaleR (es : List Nat) (b : Nat) : List (Option Nat) × Int :=
  if chkE es = 0 then
    if finW b then
      if b % 9223372036854775808 = 0 then ([], 0) else
        match es with
        | [] => ([], 0)
        | e :: tl => if (e :: tl).any (lostB · b) then ([], 41) else ((scaleSt (fv e) (tl.map fv) (fv b)).out, (scaleSt (fv e) (tl.map fv) (fv b)).err)
    else ([], 4)
  else ([], chkE es)
/-! Compress -/
def ds (q : Nat) (d : List Nat) (k : Nat) : Lay := ((d.map fv).take k).foldl downStep ⟨fv q, [], false⟩
theorem ds_zero (q : Nat) (d : List Nat) : ds q d 0 = ⟨fv q, [], false⟩ := by unfold ds; rw [List.take_zero]; rfl
theorem ds_all (q : Nat) (d : List Nat) : ds q d d.length = downSt (fv q) (d.map fv) := by
  unfold ds downSt
  rw [List.take_of_length_le (by rw [List.length_map]; exact Nat.le_refl _)]
theorem ds_succ (q : Nat) (d : List Nat) {k : Nat} (h : k < d.length) : ds q d (k + 1) = downStep (ds q d k) (fv (d.getD k 0)) := by
  unfold ds
  rw [fold_take downStep _ (d.map fv) none (by rw [List.length_map]; exact h), getD_fv d h]
theorem downStep_len (s : Lay) (e : Option Nat) : (downStep s e).l.length ≤ s.l.length + 1 := by
  unfold downStep
  dsimp only
  split
  · rw [List.length_append]; exact Nat.le_refl _
  · exact Nat.le_succ _
theorem ds_len (q : Nat) (d : List Nat) : ∀ k, k ≤ d.length → (ds q d k).l.length ≤ k
  | 0, _ => by rw [ds_zero]; exact Nat.le_refl _
  | k + 1, h => by
    have h1 := ds_len q d k (by omega)
    have h2 := downStep_len (ds q d k) (fv (d.getD k 0))
    rw [ds_succ q d (by omega)]
    omega
def us (D : Lay) (k : Nat) : Lay := (D.l.reverse.take k).foldl upStep ⟨D.q, [], D.ov⟩
theorem us_zero (D : Lay) : us D 0 = ⟨D.q, [], D.ov⟩ := by unfold us; rw [List.take_zero]; rfl
theorem us_all (D : Lay) : us D D.l.length = upSt D := by
  unfold us upSt
  rw [List.take_of_length_le (by rw [List.length_reverse]; exact Nat.le_refl _)]
theorem rev_at {α : Type} (l : List α) (d : α) {k : Nat} (h : k < l.length) : l.reverse.getD k d = l.getD (l.length - 1 - k) d := by
  rw [List.getD, List.getD, List.getElem?_reverse h]
theorem us_succ (D : Lay) {k : Nat} (h : k < D.l.length) : us D (k + 1) = upStep (us D k) (D.l.getD (D.l.length - 1 - k) none) := by
  unfold us
  rw [fold_take upStep _ D.l.reverse none (by rw [List.length_reverse]; exact h), rev_at D.l none h]
theorem us_len (D : Lay) : ∀ k, k ≤ D.l.length → (us D k).l.length ≤ k
  | 0, _ => by rw [us_zero]; exact Nat.le_refl _
  | k + 1, h => by
    have h1 := us_len D k (by omega)
    have h2 : (upStep (us D k) (D.l.getD (D.l.length - 1 - k) none)).l.length ≤ (us D k).l.length + 1 := layV_len _ _
    rw [us_succ D (by omega)]
    omega
def dwn (es : List Nat) : List Nat := es.dropLast.reverse
theorem dwn_len (es : List Nat) : (dwn es).length = es.length - 1 := by unfold dwn; rw [List.length_reverse, List.length_dropLast]
theorem dwn_at (es : List Nat) {k : Nat} (h : k + 1 < es.length) : (dwn es).getD k 0 = es.getD (es.length - 2 - k) 0 := by
  unfold dwn
  rw [rev_at _ _ (by rw [List.length_dropLast]; omega), List.length_dropLast]
  rw [List.getD, List.getD, List.getElem?_dropLast, if_pos (by omega), show es.length - 1 - 1 - k = es.length - 2 - k by omega]
def compSt (es : List Nat) : Lay := upSt (downSt (fv (es.getD (es.length - 1) 0)) ((dwn es).map fv))
def compR (es : List Nat) : List (Option Nat) × Int := if chkE es = 0 then (if es.length = 0 then ([], 0) else ((compSt es).out, (compSt es).err)) else ([], chkE es)
/-! Value -/
def vs (es : List Nat) (k : Nat) : Option Nat := ((es.map fv).take k).foldl (fop .add) (some 0)
theorem last_split {es : List Nat} (h : es.length ≠ 0) : es = es.dropLast ++ [es.getD (es.length - 1) 0] := by
  have hne : es ≠ [] := fun h0 => h (by rw [h0]; rfl)
  rw [List.getD, ← List.getLast?_eq_getElem?, List.getLast?_eq_some_getLast hne]
  exact (List.dropLast_concat_getLast hne).symm
end Go.Proofs.YtjmaggfddinbkaaGreatDoor
end

section
namespace Go.Proofs.YtjmaggfddinbkaaGreatDoor
open Go.RowKit
set_option maxRecDepth 100000 in
set_option maxHeartbeats 600000 in
theorem elost_any (a b : Nat) (ha : a < 18446744073709551616) (hb : b < 18446744073709551616) (fa : a % 9223372036854775808 < 9218868437227405312) (fb : b % 9223372036854775808 < 9218868437227405312) (na : a % 9223372036854775808 ≠ 0) (nb : b % 9223372036854775808 ≠ 0) (w : World) (hT : Tab w) : Calls Tryz.prog 88 #[.float .f64 a, .float .f64 b] w fun e w' => e = .returned (.bool (lostB a b)) ∧ Within w w' := by
  have CA := Lib.hid (fun w hT => Parts_D a ha w hT)
  have CB := Lib.hid (fun w hT => Parts_D b hb w hT)
  obtain ⟨m, hm⟩ := pMant_odd fa (fun h => na (un_zero.1 h))
  obtain ⟨n, hn⟩ := pMant_odd fb (fun h => nb (un_zero.1 h))
  have r1 := P64.pExpD_range a; have r2 := P64.pExpD_range b
  have z1 : ((pMantD a : Int) != 0) = true := by rw [bne_iff_ne]; omega
  have z2 : ((pMantD b : Int) != 0) = true := by rw [bne_iff_ne]; omega
  have hs : IntKind.i64.wrap (pExpD a + pExpD b) = pExpD a + pExpD b := IntWalk.i64_in _ ⟨by omega, by omega⟩
  unfold lostB
  obtain ⟨M, hM⟩ : ∃ M, M = pMantD a := ⟨_, rfl⟩
  obtain ⟨N, hN⟩ : ∃ N, N = pMantD b := ⟨_, rfl⟩
  obtain ⟨p, hp⟩ : ∃ p, p = pExpD a := ⟨_, rfl⟩
  obtain ⟨q, hq⟩ : ∃ q, q = pExpD b := ⟨_, rfl⟩
  rw [← hM, ← hp] at CA
  rw [← hN, ← hq] at CB
  rw [← hM] at z1
  rw [← hN] at z2
  rw [← hp, ← hq] at hs ⊢
  have HT := Lib.hid hT; clear hT ha hb fa fb na nb hm hn r1 r2 hM hN hp hq
  go_enter Tryz.func88, Tryz.ntmps88
  go_wp2_with fail
  refine (CA.out _ (HT.out.of (by repeat (first | with_reducible exact Within.refl _ | with_reducible assumption | with_reducible refine arW_within ?_ _ _ _ | with_reducible refine Within.alloc ?_ _ | with_reducible refine Within.drew ?_ | with_reducible refine Within.trans ?_ (by assumption))))).mono ?_; rintro e1 w1 ⟨rfl, hb1⟩
  go_wp2_with fail
  refine (CB.out _ (HT.out.of (by repeat (first | with_reducible exact Within.refl _ | with_reducible assumption | with_reducible refine arW_within ?_ _ _ _ | with_reducible refine Within.alloc ?_ _ | with_reducible refine Within.drew ?_ | with_reducible refine Within.trans ?_ (by assumption))))).mono ?_; rintro e2 w2 ⟨rfl, hb2⟩
  have hA : Within (w1.alloc (.cells #[.bool (pNegD a), .int .u64 (M : Int), .int .i64 p] 97)) w2 := hb2
  have k1 : w2.cell? ⟨w1.heap.size, 1, none⟩ = some (.int .u64 (M : Int)) := (hA.cells _ _ (by simp)).trans (by go_simp)
  have k2 : w2.cell? ⟨w1.heap.size, 2, none⟩ = some (.int .i64 p) := (hA.cells _ _ (by simp)).trans (by go_simp)
  have kl : w1.heap.size < w2.heap.size := World.block_lt_of_cell? _ _ k1
  go_wp2
  go_ret
  exact ⟨rfl, (by repeat (first | with_reducible exact Within.refl _ | with_reducible assumption | with_reducible refine arW_within ?_ _ _ _ | with_reducible refine Within.alloc ?_ _ | with_reducible refine Within.drew ?_ | with_reducible refine Within.trans ?_ (by assumption)))⟩
theorem head_tail {es : List Nat} (h : es.length ≠ 0) : es = es.getD 0 0 :: es.tail := by
  cases es with
  | nil => exact absurd rfl h
  | cons x l => rfl
set_option maxRecDepth 100000 in
set_option maxHeartbeats 600000 in
theorem eScale_bad (A : Option Addr) (c : Nat) (es : List Nat) (hw : Words64 es) (hl : es.length ≤ 1152921504606846976) (b : Nat) (hb : b < 18446744073709551616) (v : Int) (hv : chkE es = v) (h0 : (v != 0) = true) (w : World) (hT : Tab w) (hr : SlAt w A (f64v es)) : Calls Tryz.prog 34 #[.slice A es.length c, .float .f64 b] w (ResF w [] v) := by
  have HW := Lib.hid hw; have HB := Lib.hid hb; have HR := Lib.hid hr; clear hr hb
  have HT := Lib.hid hT; clear hT
  have CE := Lib.hid (fun w hT hr => echeck_any A c es hw hl w hT hr)
  rw [hv] at CE
  clear hv hw
  go_enter Tryz.func34, Tryz.ntmps34
  go_wp2_with fail
  refine (CE.out _ HT.out HR.out).mono ?_; rintro e1 w1 ⟨rfl, hb1⟩
  go_wp2
  go_ret2
  exact ResF.none_ v hb1
set_option maxRecDepth 100000 in
set_option maxHeartbeats 600000 in
theorem eScale_num (A : Option Addr) (c : Nat) (es : List Nat) (hw : Words64 es) (hl : es.length ≤ 1152921504606846976) (b : Nat) (hb : b < 18446744073709551616) (h1 : chkE es = 0) (h2 : finW b = false) (w : World) (hT : Tab w) (hr : SlAt w A (f64v es)) : Calls Tryz.prog 34 #[.slice A es.length c, .float .f64 b] w (ResF w [] 4) := by
  have hb' := hb
  have HW := Lib.hid hw; have HB := Lib.hid hb; have HR := Lib.hid hr; clear hr hb
  have HT := Lib.hid hT; clear hT
  have CE := Lib.hid (fun w hT hr => echeck_any A c es hw hl w hT hr)
  have CN : Hid (∀ w, Calls Tryz.prog 66 #[.float .f64 b] w fun e w' => e = .returned (.bool (finW b)) ∧ Within w w') := Lib.hid (fun w => efinite_any b w)
  rw [h1] at CE
  rw [h2] at CN
  clear h1 h2 hw hb'
  go_enter Tryz.func34, Tryz.ntmps34
  go_wp2_with fail
  refine (CE.out _ HT.out HR.out).mono ?_; rintro e1 w1 ⟨rfl, hb1⟩
  go_wp2_with fail
  refine (CN.out _).mono ?_; rintro e2 w2 ⟨rfl, hb2⟩
  go_wp2
  go_ret2
  exact ResF.none_ 4 (by repeat (first | with_reducible exact Within.refl _ | with_reducible assumption | with_reducible refine arW_within ?_ _ _ _ | with_reducible refine Within.alloc ?_ _ | with_reducible refine Within.drew ?_ | with_reducible refine Within.trans ?_ (by assumption)))
set_option maxRecDepth 100000 in
set_option maxHeartbeats 600000 in
theorem eScale_nil (A : Option Addr) (c : Nat) (es : List Nat) (hw : Words64 es) (hl : es.length ≤ 1152921504606846976) (b : Nat) (hb : b < 18446744073709551616) (h1 : chkE es = 0) (h2 : finW b = true) (z : Bool) (hz : (FloatKind.f64.format.order b 0 == some .eq) = z) (h3 : z = true ∨ es.length = 0) (w : World) (hT : Tab w) (hr : SlAt w A (f64v es)) : Calls Tryz.prog 34 #[.slice A es.length c, .float .f64 b] w (ResF w [] 0) := by
  have hb' := hb
  have HW := Lib.hid hw; have HB := Lib.hid hb; have HR := Lib.hid hr; clear hr hb
  have HT := Lib.hid hT; clear hT
  have CE := Lib.hid (fun w hT hr => echeck_any A c es hw hl w hT hr)
  have CN : Hid (∀ w, Calls Tryz.prog 66 #[.float .f64 b] w fun e w' => e = .returned (.bool (finW b)) ∧ Within w w') := Lib.hid (fun w => efinite_any b w)
  rw [h1] at CE
  rw [h2] at CN
  clear h1 h2 hw hb'
  cases z with
  | true =>
    clear h3
    go_enter Tryz.func34, Tryz.ntmps34
    go_wp2_with fail
    refine (CE.out _ HT.out HR.out).mono ?_; rintro e1 w1 ⟨rfl, hb1⟩
    go_wp2_with fail
    refine (CN.out _).mono ?_; rintro e2 w2 ⟨rfl, hb2⟩
    go_wp2
    go_ret2
    exact ResF.none_ 0 (by repeat (first | with_reducible exact Within.refl _ | with_reducible assumption | with_reducible refine arW_within ?_ _ _ _ | with_reducible refine Within.alloc ?_ _ | with_reducible refine Within.drew ?_ | with_reducible refine Within.trans ?_ (by assumption)))
  | false =>
    obtain h3 : es.length = 0 := by rcases h3 with h | h; exact absurd h (by decide); exact h
    have g1 : ((es.length : Int) == 0) = true := by rw [h3]; rfl
    clear h3
    go_enter Tryz.func34, Tryz.ntmps34
    go_wp2_with fail
    refine (CE.out _ HT.out HR.out).mono ?_; rintro e1 w1 ⟨rfl, hb1⟩
    go_wp2_with fail
    refine (CN.out _).mono ?_; rintro e2 w2 ⟨rfl, hb2⟩
    go_wp2
    go_ret2
    exact ResF.none_ 0 (by repeat (first | with_reducible exact Within.refl _ | with_reducible assumption | with_reducible refine arW_within ?_ _ _ _ | with_reducible refine Within.alloc ?_ _ | with_reducible refine Within.drew ?_ | with_reducible refine Within.trans ?_ (by assumption)))
set_option maxRecDepth 100000 in
set_option maxHeartbeats 2000000 in
theorem eScale_main (A : Option Addr) (c : Nat) (es : List Nat) (hw : Words64 es) (hl : es.length ≤ 1152921504606846976) (b : Nat) (hb : b < 18446744073709551616) (h1 : chkE es = 0) (h2 : finW b = true) (nb : b % 9223372036854775808 ≠ 0) (h0 : es.length ≠ 0) (R : List (Option Nat)) (er : Int) (hbad : (¬ ∀ j, j < es.length → lostB (es.getD j 0) b = false) → R = [] ∧ er = 41) (hyes : (∀ j, j < es.length → lostB (es.getD j 0) b = false) → R = (scaleSt (fv (es.getD 0 0)) (es.tail.map fv) (fv b)).out ∧ er = (scaleSt (fv (es.getD 0 0)) (es.tail.map fv) (fv b)).err) (w : World) (hT : Tab w) (hr : SlAt w A (f64v es)) : Calls Tryz.prog 34 #[.slice A es.length c, .float .f64 b] w (ResF w R er) := by
  have hb' := hb
  have HW := Lib.hid hw; have HB := Lib.hid hb; have HR := Lib.hid hr; clear hr hb
  have HT := Lib.hid hT; clear hT
  have CE := Lib.hid (fun w hT hr => echeck_any A c es hw hl w hT hr)
  have CN : Hid (∀ w, Calls Tryz.prog 66 #[.float .f64 b] w fun e w' => e = .returned (.bool (finW b)) ∧ Within w w') := Lib.hid (fun w => efinite_any b w)
  have FIN := Lib.hid (show ∀ k, k < es.length → es.getD k 0 % 9223372036854775808 < 9218868437227405312 ∧ es.getD k 0 % 9223372036854775808 ≠ 0 from fun k hk => by
    have hm : es.getD k 0 ∈ es := by rw [List.getD, List.getElem?_eq_getElem hk]; exact List.getElem_mem hk
    refine ⟨isB_fins hw (chkE_zero.1 h1) _ hm, fun h0 => ?_⟩
    have hok := chkE_zero.1 h1
    unfold isB at hok
    rw [Bool.and_eq_true, List.all_eq_true] at hok
    have := hok.2 k (List.mem_range.2 hk)
    unfold okAt at this
    rw [Bool.and_eq_true, decide_eq_true_iff] at this
    exact this.1 h0)
  have FB := Lib.hid h2; have NB := Lib.hid nb
  have hz : (FloatKind.f64.format.order b 0 == some .eq) = false := by rw [c_zero, decide_eq_false nb]
  have L64 := Lib.hid (chk_len h1)
  have g1 : ((es.length : Int) == 0) = false := by rw [beq_eq_false_iff_ne]; omega
  have RESY := Lib.hid hyes
  have RESB : Hid ((¬ ∀ j, j < es.length → lostB (es.getD j 0) b = false) → ∀ w', Within w w' → ResF w R er (.returned (.tuple #[.slice none 0 0, .int .i64 41])) w') := Lib.hid (fun h w' k => by obtain ⟨rfl, rfl⟩ := hbad h; exact ResF.none_ 41 k)
  rw [h1] at CE
  rw [h2] at CN
  clear h1 h2 hw hb' nb hbad hyes
  go_enter Tryz.func34, Tryz.ntmps34
  go_wp2_with fail
  refine (CE.out _ HT.out HR.out).mono ?_; rintro e1 w1 ⟨rfl, hb1⟩
  go_wp2_with fail
  refine (CN.out _).mono ?_; rintro e2 w2 ⟨rfl, hb2⟩
  go_wp2
  go_loopw [31] (fun iv wr => ∃ k : Nat, k ≤ es.length ∧ iv = .int .i64 (k : Int) ∧ (∀ j, j < k → lostB (es.getD j 0) b = false) ∧ Within w wr) (fun iv _ => es.length - (intOf iv).toNat)
  case atStart => exact ⟨0, Nat.zero_le _, rfl, fun j hj => absurd hj (Nat.not_lt_zero _), (by repeat (first | with_reducible exact Within.refl _ | with_reducible assumption | with_reducible refine arW_within ?_ _ _ _ | with_reducible refine Within.alloc ?_ _ | with_reducible refine Within.drew ?_ | with_reducible refine Within.trans ?_ (by assumption)))⟩
  case round =>
    obtain ⟨k, hk, rfl, hno, hin⟩ := hrel
    have HNO := Lib.hid hno; clear hno
    by_cases hlt : k < es.length
    · obtain ⟨ad, rfl, hblk, hc⟩ := (HR.out.of hin).at hlt
      have hx64 := HW.out.at hlt
      obtain ⟨fx, nx⟩ := FIN.out k hlt
      obtain ⟨x, hx⟩ : ∃ x, x = es.getD k 0 := ⟨_, rfl⟩
      rw [← hx] at hc fx nx hx64
      have LO := Lib.hid (fun w hT => elost_any x b hx64 HB.out fx (of_decide_eq_true FB.out) nx NB.out w hT)
      cases hlo : lostB x b
      · rw [hlo] at LO
        have HNO2 := Lib.hid (show ∀ j, j < k + 1 → lostB (es.getD j 0) b = false by
          intro j hj
          by_cases h : j < k
          · exact HNO.out j h
          · obtain rfl : j = k := by omega
            rw [← hx]; exact hlo)
        clear hx fx nx hx64 hlo
        go_wp2_with fail
        refine (LO.out _ (HT.out.of (by repeat (first | with_reducible exact Within.refl _ | with_reducible assumption | with_reducible refine arW_within ?_ _ _ _ | with_reducible refine Within.alloc ?_ _ | with_reducible refine Within.drew ?_ | with_reducible refine Within.trans ?_ (by assumption))))).mono ?_; rintro e4 w4 ⟨rfl, hb4⟩
        have HIN := Lib.hid (show Within w w4 from (by repeat (first | with_reducible exact Within.refl _ | with_reducible assumption | with_reducible refine arW_within ?_ _ _ _ | with_reducible refine Within.alloc ?_ _ | with_reducible refine Within.drew ?_ | with_reducible refine Within.trans ?_ (by assumption))))
        clear hin
        go_wp2
        go_roundw
        case rel => exact ⟨k + 1, hlt, by go_num, HNO2.out, HIN.out⟩
        case measure => simp [intOf]; omega
      · rw [hlo] at LO
        have HLO := Lib.hid (show ¬ ∀ j, j < es.length → lostB (es.getD j 0) b = false from fun h => by have := h k hlt; rw [← hx, hlo] at this; cases this)
        clear hx fx nx hx64 hlo
        go_wp2_with fail
        refine (LO.out _ (HT.out.of (by repeat (first | with_reducible exact Within.refl _ | with_reducible assumption | with_reducible refine arW_within ?_ _ _ _ | with_reducible refine Within.alloc ?_ _ | with_reducible refine Within.drew ?_ | with_reducible refine Within.trans ?_ (by assumption))))).mono ?_; rintro e4 w4 ⟨rfl, hb4⟩
        go_wp2
        go_ret2
        exact (RESB.out HLO.out _ (by repeat (first | with_reducible exact Within.refl _ | with_reducible assumption | with_reducible refine arW_within ?_ _ _ _ | with_reducible refine Within.alloc ?_ _ | with_reducible refine Within.drew ?_ | with_reducible refine Within.trans ?_ (by assumption))))
    · obtain rfl : k = es.length := by omega
      rename World => wb
      obtain ⟨ad, hA, hblk, hc⟩ := (HR.out.of hin).at (k := 0) (by omega)
      obtain ⟨x0, hx0⟩ : ∃ x0, x0 = es.getD 0 0 := ⟨_, rfl⟩
      have x064 : x0 < 18446744073709551616 := by rw [hx0]; exact HW.out.at (by omega)
      rw [← hx0] at hc
      have YES := Lib.hid (RESY.out HNO.out)
      obtain ⟨tl, htl⟩ : ∃ tl, tl = es.tail := ⟨_, rfl⟩
      have hes : es = x0 :: tl := by rw [hx0, htl]; exact head_tail h0
      have HES := Lib.hid hes
      have htlen : tl.length + 1 = es.length := by rw [hes]; rfl
      rw [← hx0, ← htl] at YES
      clear hes htl hx0
      subst hA
      have hc0 : wb.cell? ad = some (.float .f64 x0) := by have := hc; rwa [add_nought] at this
      clear hc
      have PW := Lib.hid (fun w => eprod_any x0 b x064 HB.out w)
      have HX0 := Lib.hid x064; clear x064
      have HRw := Lib.hid (HR.out.of hin)
      have HINW := Lib.hid hin; clear hin
      have LAY0 := LayP.made wb 94
      go_wp2_with fail
      refine (PW.out _).mono ?_; rintro e5 w5 ⟨T0, t0, rfl, hT0, ht0, vT0, vt0, hb5⟩
      have L1 := Lib.hid (LAY0.of hb5)
      have HT0 := Lib.hid hT0; have Ht0 := Lib.hid ht0; have VT0 := Lib.hid vT0; have Vt0 := Lib.hid vt0; clear hT0 ht0 vT0 vt0 LAY0
      go_wp2_with fail
      refine (see_any _ T0 t0 _ _ _ L1.out).mono ?_; rintro e6 w6 ⟨rfl, hL6, hb6⟩
      have L2 := Lib.hid hL6; clear hL6
      go_wp2_with fail
      refine (elay_any _ t0 _ _ Ht0.out (by decide) _ L2.out).mono ?_; rintro e7 w7 ⟨rfl, hL7, hb7⟩
      have hin7 : Within wb w7 := below_within (below_within (((Within.refl wb).alloc _).trans hb5) hb6 (Nat.le_refl _)) hb7 (Nat.le_refl _)
      have L3 : Hid (LayP w7 wb.heap.size (ss x0 tl b 0).l (ss x0 tl b 0).ov) := Lib.hid (by
        rw [ss_zero]
        unfold scale0
        have h := hL7
        rw [Vt0.out] at h
        have e1 := finV_fv T0; rw [VT0.out] at e1
        have e2 := finV_fv t0; rw [Vt0.out] at e2
        rw [e1, e2]
        exact h)
      have VQ0 : Hid (fv T0 = (ss x0 tl b 0).q) := Lib.hid (by rw [VT0.out, ss_zero]; rfl)
      clear hL7 hb5 hb6 hb7 VT0 Vt0
      have HIN7 := Lib.hid hin7; clear hin7
      go_wp2
      go_loopw [9, 11] (fun qv iv wq => ∃ m q : Nat, 1 ≤ m ∧ m ≤ es.length ∧ iv = .int .i64 (m : Int) ∧ qv = .float .f64 q ∧ q < 18446744073709551616 ∧ fv q = (ss x0 tl b (m - 1)).q ∧ LayP wq wb.heap.size (ss x0 tl b (m - 1)).l (ss x0 tl b (m - 1)).ov ∧ Within wb wq) (fun _ iv _ => es.length - (intOf iv).toNat)
      case atStart => exact ⟨1, T0, Nat.le_refl _, by omega, rfl, rfl, HT0.out, VQ0.out, L3.out, HIN7.out⟩
      case round =>
        obtain ⟨m, q, hm1, hm, rfl, rfl, hq, vq, hL, hin⟩ := hrel
        have HQ := Lib.hid hq; have VQ := Lib.hid vq; have LL := Lib.hid hL; clear hq vq hL
        by_cases hlt : m < es.length
        · obtain ⟨ad', hA', hblk', hc⟩ := (HRw.out.of hin).at hlt
          obtain rfl : ad = ad' := by injection hA'
          obtain ⟨k, hk⟩ : ∃ k, k + 1 = m := ⟨m - 1, by omega⟩
          have hx64 := HW.out.at hlt
          have hx0' : es.getD m 0 = tl.getD k 0 := by rw [HES.out, ← hk]; rfl
          obtain ⟨x, hx⟩ : ∃ x, x = es.getD m 0 := ⟨_, rfl⟩
          rw [← hx] at hc hx64 hx0'
          have hnext := ss_succ x0 tl b (k := k) (by omega)
          rw [← hx0'] at hnext
          have hk2 : m - 1 = k := by omega
          rw [hk2] at VQ LL
          have hlen := ss_len x0 tl b k (by omega)
          have HX := Lib.hid hx64; have HN := Lib.hid hnext; have HK := Lib.hid hk; clear hx64 hnext hx0' hx hk2 hk hA' hblk'
          have hl2 : (ss x0 tl b k).l.length ≤ 1000 := by have := L64.out; have := HK.out; omega
          have HLEN := Lib.hid hl2; clear hl2 hlen
          have PX := Lib.hid (fun w => eprod_any x b HX.out HB.out w)
          have HIN := Lib.hid hin; clear hin
          go_wp2_with fail
          refine (PX.out _).mono ?_; rintro f1 v1 ⟨T, t, rfl, hT1, ht1, vT, vt, jb1⟩
          have HT1 := Lib.hid hT1; have Ht1 := Lib.hid ht1; have VT := Lib.hid vT; have Vt := Lib.hid vt; clear hT1 ht1 vT vt
          have M1 := Lib.hid (LL.out.of jb1)
          go_wp2_with fail
          refine (see_any _ T t _ _ _ M1.out).mono ?_; rintro f2 v2 ⟨rfl, hM2, jb2⟩
          have M2 := Lib.hid hM2; clear hM2
          have HIN2 := Lib.hid (below_within (HIN.out.trans jb1) jb2 (Nat.le_refl _)); clear jb1 jb2
          have TX := Lib.hid (fun w => etwo_any q t HQ.out Ht1.out w)
          go_wp2_with fail
          refine (TX.out _).mono ?_; rintro f3 v3 ⟨U, h, rfl, hU1, hh1, vU, vh, jb3⟩
          have HU1 := Lib.hid hU1; have Hh1 := Lib.hid hh1; have VU := Lib.hid vU; have Vh := Lib.hid vh; clear hU1 hh1 vU vh
          have M3 := Lib.hid (M2.out.of jb3)
          go_wp2_with fail
          refine (see_any _ U h _ _ _ M3.out).mono ?_; rintro f4 v4 ⟨rfl, hM4, jb4⟩
          have M4 := Lib.hid hM4; clear hM4
          have HIN4 := Lib.hid (below_within (HIN2.out.trans jb3) jb4 (Nat.le_refl _)); clear jb3 jb4
          go_wp2_with fail
          refine (elay_any _ h _ _ Hh1.out (Nat.le_trans HLEN.out (by decide)) _ M4.out).mono ?_; rintro f5 v5 ⟨rfl, hM5, jb5⟩
          have M5 := Lib.hid hM5; clear hM5
          have HIN5 := Lib.hid (below_within HIN4.out jb5 (Nat.le_refl _)); clear jb5
          have QX := Lib.hid (fun w => equick_any T U HT1.out HU1.out w)
          go_wp2_with fail
          refine (QX.out _).mono ?_; rintro f6 v6 ⟨Q, g, rfl, hQ1, hg1, vQ, vg, jb6⟩
          have HQ1 := Lib.hid hQ1; have Hg1 := Lib.hid hg1; have VQ1 := Lib.hid vQ; have Vg := Lib.hid vg; clear hQ1 hg1 vQ vg
          have M6 := Lib.hid (M5.out.of jb6)
          go_wp2_with fail
          refine (see_any _ Q g _ _ _ M6.out).mono ?_; rintro f7 v7 ⟨rfl, hM7, jb7⟩
          have M7 := Lib.hid hM7; clear hM7
          have HIN7' := Lib.hid (below_within (HIN5.out.trans jb6) jb7 (Nat.le_refl _)); clear jb6 jb7
          go_wp2_with fail
          refine (elay_any _ g _ _ Hg1.out (Nat.le_trans (layV_len _ _) (Nat.le_trans (Nat.succ_le_succ HLEN.out) (by decide))) _ M7.out).mono ?_; rintro f8 v8 ⟨rfl, hM8, jb8⟩
          have M8 := Lib.hid hM8; clear hM8
          have HIN8 := Lib.hid (below_within HIN7'.out jb8 (Nat.le_refl _)); clear jb8
          go_wp2
          go_roundw
          case rel =>
            refine ⟨m + 1, Q, by omega, hlt, by go_num, rfl, HQ1.out, ?_, ?_, HIN8.out⟩
            · rw [Nat.add_sub_cancel, ← HK.out, HN.out, VQ1.out, VT.out, VU.out, VQ.out, Vt.out]; rfl
            · rw [Nat.add_sub_cancel, ← HK.out, HN.out]
              have hM := M8.out
              have e1 := finV_fv T; have e2 := finV_fv t; have e3 := finV_fv U; have e4 := finV_fv h; have e5 := finV_fv Q; have e6 := finV_fv g
              rw [← e1, ← e2, ← e3, ← e4, ← e5, ← e6] at hM
              simp only [Vg.out, Vh.out, VQ1.out, VT.out, VU.out, VQ.out, Vt.out] at hM
              exact hM
          case measure => simp [intOf]; omega
        · obtain rfl : m = es.length := by omega
          have e1 : es.length - 1 = tl.length := by omega
          rw [e1, ss_all] at VQ LL
          have YB := YES.out
          obtain ⟨z, hz2⟩ : ∃ z, z = scaleSt (fv x0) (tl.map fv) (fv b) := ⟨_, rfl⟩
          rw [← hz2] at VQ LL YB
          have hlen : z.l.length ≤ 1000 := by have := ss_len x0 tl b tl.length (Nat.le_refl _); rw [ss_all, ← hz2] at this; have := L64.out; omega
          have HLEN := Lib.hid hlen; have YB2 := Lib.hid YB; clear hlen YB YES hz2 e1
          have HIN := Lib.hid hin; clear hin
          go_wp2_with fail
          refine (elay_any _ q _ _ HQ.out (Nat.le_trans HLEN.out (by decide)) _ LL.out).mono ?_; rintro f1 v1 ⟨rfl, hL1, jb1⟩
          rw [VQ.out] at hL1
          have HIN1 := Lib.hid (below_within HIN.out jb1 (Nat.le_refl _)); have L1 := Lib.hid hL1; clear hL1 jb1
          go_wp2_with fail
          refine (eend_any _ _ _ _ L1.out).mono ?_; rintro f2 v2 ⟨⟨sv, ls, rfl, hown, hw', hm2⟩, rfl⟩
          have HO := Lib.hid hown; have HM := Lib.hid hm2; have HWW := Lib.hid hw'; clear hown hm2 hw'
          go_wp2
          go_ret2
          obtain ⟨rfl, rfl⟩ := YB2.out
          exact ⟨_, ls, rfl, HO.out.less (Nat.le_trans HINW.out.size (Nat.le_succ _)), HWW.out, HM.out, HINW.out.trans HIN1.out⟩
theorem lost_all {es : List Nat} {b : Nat} : es.any (lostB · b) = false ↔ ∀ j, j < es.length → lostB (es.getD j 0) b = false := by
  rw [List.any_eq_false]
  constructor
  · intro h j hj
    have hm : es.getD j 0 ∈ es := by rw [List.getD, List.getElem?_eq_getElem hj]; exact List.getElem_mem hj
    simpa using h _ hm
  · intro h x hx
    obtain ⟨j, hj, rfl⟩ := List.getElem_of_mem hx
    have := h j hj
    rw [List.getD, List.getElem?_eq_getElem hj] at this
    simpa using this
theorem scaleR_nil {es : List Nat} {b : Nat} (h1 : chkE es = 0) (h2 : finW b = true) (h : b % 9223372036854775808 = 0 ∨ es.length = 0) : scaleR es b = ([], 0) := by
  unfold scaleR
  rw [if_pos h1, if_pos h2]
  rcases h with h | h
  · rw [if_pos h]
  · split
    · rfl
    · rw [List.eq_nil_of_length_eq_zero h]
theorem scaleR_cons {es : List Nat} {b : Nat} (h1 : chkE es = 0) (h2 : finW b = true) (nb : b % 9223372036854775808 ≠ 0) (h0 : es.length ≠ 0) :
    scaleR es b = if es.any (lostB · b) then ([], 41) else ((scaleSt (fv (es.getD 0 0)) (es.tail.map fv) (fv b)).out, (scaleSt (fv (es.getD 0 0)) (es.tail.map fv) (fv b)).err) := by
  unfold scaleR
  rw [if_pos h1, if_pos h2, if_neg nb]
  cases es with
  | nil => exact absurd rfl h0
  | cons e tl => rfl
theorem eScale_any (A : Option Addr) (c : Nat) (es : List Nat) (hw : Words64 es) (hl : es.length ≤ 1152921504606846976) (b : Nat) (hb : b < 18446744073709551616) (w : World) (hT : Tab w) (hr : SlAt w A (f64v es)) : Calls Tryz.prog 34 #[.slice A es.length c, .float .f64 b] w (ResF w (scaleR es b).1 (scaleR es b).2) := by
  by_cases h1 : chkE es = 0
  · cases h2 : finW b
    · have e : scaleR es b = ([], 4) := by unfold scaleR; rw [if_pos h1, h2]; rfl
      rw [e]; exact eScale_num A c es hw hl b hb h1 h2 w hT hr
    · by_cases h3 : b % 9223372036854775808 = 0 ∨ es.length = 0
      · rw [scaleR_nil h1 h2 h3]
        refine eScale_nil A c es hw hl b hb h1 h2 _ rfl ?_ w hT hr
        rcases h3 with h | h
        · exact .inl (by rw [c_zero, decide_eq_true h])
        · exact .inr h
      · rw [not_or] at h3
        have e := scaleR_cons h1 h2 h3.1 h3.2
        refine eScale_main A c es hw hl b hb h1 h2 h3.1 h3.2 _ _ ?_ ?_ w hT hr
        · intro h
          rw [e, if_pos (by cases hh : es.any (lostB · b); exact absurd (lost_all.1 hh) h; rfl)]; exact ⟨rfl, rfl⟩
        · intro h
          rw [e, if_neg (by rw [lost_all.2 h]; exact Bool.false_ne_true)]; exact ⟨rfl, rfl⟩
  · have e : scaleR es b = ([], chkE es) := by unfold scaleR; rw [if_neg h1]
    rw [e]; exact eScale_bad A c es hw hl b hb _ rfl (by simpa using h1) w hT hr
end Go.Proofs.YtjmaggfddinbkaaGreatDoor
end

section
namespace Go.Proofs.YtjmaggfddinbkaaGreatDoor
open Go.RowKit
def LayC (w : World) (p : Nat) (sv : Value) (ov : Bool) : Prop := w.cell? ⟨p, 0, none⟩ = some sv ∧ w.cell? ⟨p, 1, none⟩ = some (.bool ov) ∧ ∀ i, w.frozen? ⟨p, i, none⟩ = false
theorem LayC.lt {w : World} {p : Nat} {sv : Value} {ov : Bool} (h : LayC w p sv ov) : p < w.heap.size := World.block_lt_of_cell? _ _ h.1
theorem LayC.of {w w' : World} {p : Nat} {sv : Value} {ov : Bool} (h : LayC w p sv ov) (k : Within w w') : LayC w' p sv ov :=
  ⟨(k.cells _ _ h.lt).trans h.1, (k.cells _ _ h.lt).trans h.2.1, fun i => (k.frozens _ i h.lt).trans (h.2.2 i)⟩
theorem LayC.made (w : World) (T : TypeId) : LayC (w.alloc (.cells #[.slice none 0 0, .bool false] T)) w.heap.size (.slice none 0 0) false := by
  refine ⟨?_, ?_, fun i => ?_⟩
  · rw [World.cell?_alloc_at _ _ _ _ rfl]; rfl
  · rw [World.cell?_alloc_at _ _ _ _ rfl]; rfl
  · simp
theorem LayC.see {w : World} {p : Nat} {sv : Value} {ov : Bool} (h : LayC w p sv ov) (b : Bool) : LayC (w.setCell ⟨p, 1, none⟩ (.bool b)) p sv b := by
  have hl := h.lt
  obtain ⟨h0, h1, hf⟩ := h
  exact ⟨by go_simp, by go_simp, fun i => by go_simp⟩
theorem lay_cell_heap {w w' : World} {b o : Nat} (h : w'.heap[b]? = w.heap[b]?) : w'.cell? ⟨b, o, none⟩ = w.cell? ⟨b, o, none⟩ ∧ w'.frozen? ⟨b, o, none⟩ = w.frozen? ⟨b, o, none⟩ := by
  constructor
  · unfold World.cell?; rw [h]
  · unfold World.frozen?; rw [h]
theorem LayC.grown {w w' : World} {p : Nat} {sv : Value} {ov : Bool} {bk : Option Nat} (h : LayC w p sv ov) (k : w.grownBy w' bk) (hb : bk ≠ some p) : LayC w' p sv ov := by
  have e := k.block p h.lt (Ne.symm hb)
  exact ⟨(lay_cell_heap e).1.trans h.1, (lay_cell_heap e).1.trans h.2.1, fun i => (lay_cell_heap e).2.trans (h.2.2 i)⟩
theorem lay_set_size (w : World) (p : Addr) (u : Value) : (w.setCell p u).heap.size = w.heap.size := by simp [World.setCell]
theorem lay_grown_set {w w1 : World} (h : Within w w1) (p o : Nat) (u : Value) : w.grownBy (w1.setCell ⟨p, o, none⟩ u) (some p) := by
  refine ⟨h.os, h.tape, h.output, ?_, fun i hi hne => ?_⟩
  · rw [lay_set_size]; exact h.size
  · rw [Below.heap_setCell _ _ _ _ (fun e => hne (by rw [e]))]
    exact h.block i hi
theorem run_app_floatG (w : World) (base : Nat) (v : Value) (l : List Nat) (x : Nat) (hown : OwnF w base v l) (hl : (l.length + 1) * 8 ≤ 140737488355328) (hbase : base ≤ w.heap.size) :
    ∃ v' w', (Builtin.append_ #[24, 24] 24 #[v, .slice (some ⟨w.heap.size, 0, none⟩) 1 1]).run Tryz.prog (w.alloc (.cells #[.float .f64 x] 29)) = .ok v' w' ∧ OwnF w' base v' (l ++ [x]) ∧ Below base w w' ∧
      w.grownBy w' v.ownBlock ∧ ∀ g, g < w.heap.size → v.ownBlock ≠ some g → v'.ownBlock ≠ some g := by
  have hin := (Within.refl w).alloc (.cells #[.float .f64 x] 29)
  obtain ⟨i0, hi0, hz0, hz1, hz2⟩ := info_parts Tryz.infoF64
  obtain ⟨v', w', h1, h2, h3, h5⟩ := run_app (P := Tryz.prog) (w.alloc (.cells #[.float .f64 x] 29)) base 24 24 29 i0 (.float .f64 0) 8 (by kernel_rfl) hi0 hz0 hz1 hz2 rfl v l.length (f64v l) (hown.of hin) (some ⟨w.heap.size, 0, none⟩) 1 (f64v [x]) (SlAt.one w _ _) (f64v_one [x]) (by rw [f64v_len]; unfold maxLen; simp; omega) (by rw [f64v_len]; simp; omega) (by simp; omega)
  refine ⟨v', w', h1, ?_, Below.trans (Below.mono hin hbase) (grown_below (hown.of hin) (by simp; omega) h3), ⟨h3.os, h3.tape, h3.output, Nat.le_trans (by simp) h3.size, fun i hi hne => (h3.block i (by simp; omega) hne).trans (heap_alloc_old w _ hi)⟩, fun g hg hne => ?_⟩
  · unfold OwnF f64v
    rw [List.length_append, List.map_append]; exact h2
  · rcases h5 with h5 | h5
    · rw [h5]; exact hne
    · rw [h5]; intro e; injection e with e; simp at e; omega
def LayG (w : World) (p : Nat) (L : List (Option Nat)) (ov : Bool) (X : Option Nat) : Prop :=
  ∃ sv ls, LayC w p sv ov ∧ OwnF w (p + 1) sv ls ∧ Words64 ls ∧ ls.map fv = L ∧ ∀ g, X = some g → g ≠ p ∧ g < w.heap.size ∧ sv.ownBlock ≠ some g
theorem LayG.p {w : World} {p : Nat} {L : List (Option Nat)} {ov : Bool} {X : Option Nat} (h : LayG w p L ov X) : LayP w p L ov := by
  obtain ⟨sv, ls, ⟨c0, c1, c2⟩, ho, hw, hm, _⟩ := h
  exact ⟨sv, ls, c0, c1, c2, ho, hw, hm⟩
theorem LayG.of {w w' : World} {p : Nat} {L : List (Option Nat)} {ov : Bool} {X : Option Nat} (h : LayG w p L ov X) (k : Within w w') : LayG w' p L ov X := by
  obtain ⟨sv, ls, hc, ho, hw, hm, hx⟩ := h
  exact ⟨sv, ls, hc.of k, ho.of k, hw, hm, fun g e => ⟨(hx g e).1, Nat.lt_of_lt_of_le (hx g e).2.1 k.size, (hx g e).2.2⟩⟩
theorem SlAt.same {w w' : World} {A : Option Addr} {xs : List Value} (h : SlAt w A xs) (hsz : w.heap.size ≤ w'.heap.size) (k : ∀ ad, A = some ad → w'.heap[ad.block]? = w.heap[ad.block]?) : SlAt w' A xs := fun hn => by
  obtain ⟨ad, rfl, hlt, hc⟩ := h hn
  refine ⟨ad, rfl, Nat.lt_of_lt_of_le hlt hsz, fun j u hu => ?_⟩
  have e := k ad rfl
  have h1 := hc j u hu
  have hb : (ad.add j).block = ad.block := add_block ad j
  unfold World.cell? at h1 ⊢
  rw [hb] at h1 ⊢
  rw [e]; exact h1
set_option maxRecDepth 100000 in
set_option maxHeartbeats 600000 in
theorem seeC_ov (p a b : Nat) (sv : Value) (w : World) (h : LayC w p sv true) : Calls Tryz.prog 89 #[.pointer (some ⟨p, 0, none⟩), .float .f64 a, .float .f64 b] w fun e w' => e = .returned (.tuple #[.float .f64 a, .float .f64 b]) ∧ LayC w' p sv (true || !finW a || !finW b) ∧ w.grownBy w' (some p) := by
  have hL0 := h.lt
  have hLL := Lib.hid h
  obtain ⟨s0, t0, u0⟩ := h
  have FI := Lib.hid (fun x w => efinite_any x w)
  have e : (true || !finW a || !finW b) = true := rfl
  rw [e]
  clear e
  go_enter Tryz.func89, Tryz.ntmps89
  go_wp2
  go_ret2
  exact ⟨rfl, hLL.out.see true, lay_grown_set (Within.refl _) p 1 _⟩
set_option maxRecDepth 100000 in
set_option maxHeartbeats 600000 in
theorem seeC_a (p a b : Nat) (sv : Value) (ha : finW a = false) (w : World) (h : LayC w p sv false) : Calls Tryz.prog 89 #[.pointer (some ⟨p, 0, none⟩), .float .f64 a, .float .f64 b] w fun e w' => e = .returned (.tuple #[.float .f64 a, .float .f64 b]) ∧ LayC w' p sv (false || !finW a || !finW b) ∧ w.grownBy w' (some p) := by
  have hL0 := h.lt
  have hLL := Lib.hid h
  obtain ⟨s0, t0, u0⟩ := h
  have FI := Lib.hid (fun x w => efinite_any x w)
  have e : (false || !finW a || !finW b) = true := by rw [ha]; rfl
  rw [e]
  clear e
  have HA := Lib.hid ha; clear ha
  go_enter Tryz.func89, Tryz.ntmps89
  go_wp2_with fail
  refine (FI.out a _).mono ?_; rintro e1 w1 ⟨rfl, hb1⟩
  rw [HA.out]
  have hL1 := hLL.out.of hb1
  obtain ⟨s1, t1, u1⟩ := hL1
  have z1 : p < w1.heap.size := Nat.lt_of_lt_of_le hL0 hb1.sizes
  have hL1 := hLL.out.of hb1
  go_wp2
  go_ret2
  exact ⟨rfl, (hL1).see true, lay_grown_set hb1 p 1 _⟩
set_option maxRecDepth 100000 in
set_option maxHeartbeats 600000 in
theorem seeC_b (p a b : Nat) (sv : Value) (ha : finW a = true) (w : World) (h : LayC w p sv false) : Calls Tryz.prog 89 #[.pointer (some ⟨p, 0, none⟩), .float .f64 a, .float .f64 b] w fun e w' => e = .returned (.tuple #[.float .f64 a, .float .f64 b]) ∧ LayC w' p sv (false || !finW a || !finW b) ∧ w.grownBy w' (some p) := by
  have hL0 := h.lt
  have hLL := Lib.hid h
  obtain ⟨s0, t0, u0⟩ := h
  have FI := Lib.hid (fun x w => efinite_any x w)
  have e : (false || !finW a || !finW b) = !finW b := by rw [ha]; rfl
  rw [e]
  clear e
  have HA := Lib.hid ha; clear ha
  go_enter Tryz.func89, Tryz.ntmps89
  go_wp2_with fail
  refine (FI.out a _).mono ?_; rintro e1 w1 ⟨rfl, hb1⟩
  rw [HA.out]
  have hL1 := hLL.out.of hb1
  obtain ⟨s1, t1, u1⟩ := hL1
  have z1 : p < w1.heap.size := Nat.lt_of_lt_of_le hL0 hb1.sizes
  have hL1 := hLL.out.of hb1
  go_wp2_with fail
  refine (FI.out b _).mono ?_; rintro e2 w2 ⟨rfl, hb2'⟩
  have hb2 := hb1.trans hb2'
  have hL2 := hLL.out.of hb2
  obtain ⟨s2, t2, u2⟩ := hL2
  have z2 : p < w2.heap.size := Nat.lt_of_lt_of_le hL0 hb2.sizes
  have hL2 := hLL.out.of hb2
  go_wp2
  go_ret2
  exact ⟨rfl, (hL2).see (!finW b), lay_grown_set hb2 p 1 _⟩
theorem seeC (p a b : Nat) (sv : Value) (ov : Bool) (w : World) (h : LayC w p sv ov) : Calls Tryz.prog 89 #[.pointer (some ⟨p, 0, none⟩), .float .f64 a, .float .f64 b] w fun e w' => e = .returned (.tuple #[.float .f64 a, .float .f64 b]) ∧ LayC w' p sv (ov || !finW a || !finW b) ∧ w.grownBy w' (some p) := by
  cases ov
  · cases ha : finW a
    · have := seeC_a p a b sv ha w h
      rwa [ha] at this
    · have := seeC_b p a b sv ha w h
      rwa [ha] at this
  · exact seeC_ov p a b sv w h
theorem see_g {w w' : World} {p : Nat} {L : List (Option Nat)} {ov ov' : Bool} {X : Option Nat} (h : LayG w p L ov X) (hs : ∀ sv, LayC w p sv ov → LayC w' p sv ov') (hg : w.grownBy w' (some p)) : LayG w' p L ov' X ∧ Below p w w' ∧ ∀ g, X = some g → w'.heap[g]? = w.heap[g]? := by
  obtain ⟨sv, ls, hc, ho, hw, hm, hx⟩ := h
  have hlt := hc.lt
  refine ⟨⟨sv, ls, hs sv hc, ?_, hw, hm, fun g e => ⟨(hx g e).1, Nat.lt_of_lt_of_le (hx g e).2.1 hg.size, (hx g e).2.2⟩⟩, ?_, fun g e => hg.block g (hx g e).2.1 (fun h => (hx g e).1 (Option.some.inj h))⟩
  · exact ho.kept hg (by
      cases hv : sv.ownBlock with
      | none => exact .inl rfl
      | some j =>
        right
        intro e
        have := (ho.lt j hv).1
        injection e with e
        omega)
  · exact ⟨hg.os, hg.tape, hg.output, hg.size, fun i hi => hg.block i (by omega) (fun e => by injection e with e; omega)⟩
theorem seeG (p a b : Nat) (L : List (Option Nat)) (ov : Bool) (X : Option Nat) (w : World) (h : LayG w p L ov X) : Calls Tryz.prog 89 #[.pointer (some ⟨p, 0, none⟩), .float .f64 a, .float .f64 b] w fun e w' => e = .returned (.tuple #[.float .f64 a, .float .f64 b]) ∧ LayG w' p L (ov || !finW a || !finW b) X ∧ Below p w w' ∧ ∀ g, X = some g → w'.heap[g]? = w.heap[g]? := by
  obtain ⟨sv, ls, hc, ho, hw, hm, hx⟩ := h
  refine (seeC p a b sv ov w hc).mono fun e w' ⟨h1, h2, h3⟩ => ⟨h1, ?_⟩
  refine see_g ⟨sv, ls, hc, ho, hw, hm, hx⟩ (fun sv' hc' => ?_) h3
  obtain rfl : sv = sv' := by have := hc.1.symm.trans hc'.1; injection this
  exact h2
set_option maxRecDepth 100000 in
set_option maxHeartbeats 600000 in
theorem elayG_no (p x : Nat) (L : List (Option Nat)) (ov : Bool) (X : Option Nat) (hx : x % 9223372036854775808 = 0) (w : World) (h : LayG w p L ov X) : Calls Tryz.prog 91 #[.pointer (some ⟨p, 0, none⟩), .float .f64 x] w fun e w' => e = .returned (.tuple #[]) ∧ LayG w' p (layV L (fv x)) ov X ∧ Below p w w' ∧ ∀ g, X = some g → w'.heap[g]? = w.heap[g]? := by
  have hz : (FloatKind.f64.format.order x 0 == some .eq) = true := by rw [c_zero, decide_eq_true hx]
  have hne : (FloatKind.f64.format.order x 0 != some .eq) = false := by simp [bne, hz]
  have hl : layV L (fv x) = L := by unfold layV; rw [nzV_fv, decide_eq_false (fun g => g hx)]; rfl
  rw [hl]
  clear hx hl
  have hLL := Lib.hid h; clear h
  go_enter Tryz.func91, Tryz.ntmps91
  go_wp2
  go_end0
  exact ⟨rfl, hLL.out, Below.refl _ _, fun _ _ => rfl⟩
set_option maxRecDepth 100000 in
set_option maxHeartbeats 600000 in
theorem elayG_yes (p x : Nat) (L : List (Option Nat)) (ov : Bool) (X : Option Nat) (hx : ¬ x % 9223372036854775808 = 0) (hx2 : x < 18446744073709551616) (hn : L.length ≤ 1000000) (w : World) (h : LayG w p L ov X) : Calls Tryz.prog 91 #[.pointer (some ⟨p, 0, none⟩), .float .f64 x] w fun e w' => e = .returned (.tuple #[]) ∧ LayG w' p (layV L (fv x)) ov X ∧ Below p w w' ∧ ∀ g, X = some g → w'.heap[g]? = w.heap[g]? := by
  have hz : (FloatKind.f64.format.order x 0 == some .eq) = false := by rw [c_zero, decide_eq_false hx]
  have hne : (FloatKind.f64.format.order x 0 != some .eq) = true := by simp [bne, hz]
  have hl : layV L (fv x) = L ++ [fv x] := by unfold layV; rw [nzV_fv, decide_eq_true hx]; rfl
  rw [hl]
  clear hx hl
  obtain ⟨sv, ls, hC, hown, hw, hm, hX⟩ := h
  have hL0 := hC.lt
  obtain ⟨s0, t0, u0⟩ := hC
  obtain ⟨A, c, rfl, _, _, _⟩ := hown.form
  have hlen : ls.length = L.length := by rw [← hm, List.length_map]
  obtain ⟨v', w', hrun, hown', hbl', hgr, hob⟩ := run_app_floatG w (p + 1) _ _ x hown (by omega) hL0
  obtain ⟨A2, c2, rfl, _, _, _⟩ := hown'.form
  have hX2 : ∀ g, X = some g → g ≠ p ∧ g < w'.heap.size ∧ Value.ownBlock (.slice A2 (ls ++ [x]).length c2) ≠ some g ∧ w'.heap[g]? = w.heap[g]? := fun g e => ⟨(hX g e).1, Nat.lt_of_lt_of_le (hX g e).2.1 hgr.size, hob g (hX g e).2.1 (hX g e).2.2, hgr.block g (hX g e).2.1 (Ne.symm (hX g e).2.2)⟩
  have HX := Lib.hid hX2; clear hX hX2 hgr hob
  have RUN := Lib.hid hrun; have HOW := Lib.hid hown'
  obtain ⟨n2, hn2⟩ : ∃ n2, n2 = (ls ++ [x]).length := ⟨_, rfl⟩
  rw [← hn2] at RUN HOW HX
  clear hn2
  have HW := Lib.hid hw; have HM := Lib.hid hm
  clear hrun hown' hown hw hm hlen hn
  have s1 : w'.cell? ⟨p, 1, none⟩ = some (.bool ov) := (hbl'.cell (p := ⟨p, 1, none⟩) (Nat.lt_succ_self p)).trans t0
  have s2 : ∀ i, w'.frozen? ⟨p, i, none⟩ = false := fun i => (hbl'.frozen (p := ⟨p, i, none⟩) (Nat.lt_succ_self p)).trans (u0 i)
  have s3 : w'.cell? ⟨p, 0, none⟩ = some (.slice A ls.length c) := (hbl'.cell (p := ⟨p, 0, none⟩) (Nat.lt_succ_self p)).trans s0
  have s4 : p < w'.heap.size := World.block_lt_of_cell? _ _ s3
  obtain ⟨n, hn⟩ : ∃ n, n = ls.length := ⟨_, rfl⟩
  rw [← hn] at s0 s3 RUN
  clear hn
  go_enter Tryz.func91, Tryz.ntmps91
  go_wp2_with (at_builtin; refine wpList_append_run rfl (.tmp 10) (.tmp 12) 24 rfl _ _ rfl rfl RUN.out ?_)
  go_end0
  exact ⟨rfl, ⟨_, ls ++ [x], ⟨by go_simp, by go_simp, fun i => by go_simp⟩, (HOW.out).set (Nat.lt_succ_self p) _, (fun y hy => by rcases List.mem_append.1 hy with hy | hy; exact HW.out y hy; rcases List.mem_singleton.1 hy with rfl; exact hx2), by rw [List.map_append, HM.out]; rfl, fun g e => ⟨(HX.out g e).1, by rw [lay_set_size]; exact (HX.out g e).2.1, (HX.out g e).2.2.1⟩⟩, Below.setCell (p := ⟨p, 0, none⟩) (Below.mono hbl' (Nat.le_succ p)) (Nat.le_refl p) _, fun g e => (Below.heap_setCell _ _ _ _ (HX.out g e).1).trans (HX.out g e).2.2.2⟩
theorem elayG (p x : Nat) (L : List (Option Nat)) (ov : Bool) (X : Option Nat) (hx : x < 18446744073709551616) (hn : L.length ≤ 1000000) (w : World) (h : LayG w p L ov X) : Calls Tryz.prog 91 #[.pointer (some ⟨p, 0, none⟩), .float .f64 x] w fun e w' => e = .returned (.tuple #[]) ∧ LayG w' p (layV L (fv x)) ov X ∧ Below p w w' ∧ ∀ g, X = some g → w'.heap[g]? = w.heap[g]? := by
  by_cases h0 : x % 9223372036854775808 = 0
  · exact elayG_no p x L ov X h0 w h
  · exact elayG_yes p x L ov X h0 hx hn w h
end Go.Proofs.YtjmaggfddinbkaaGreatDoor
end

section
namespace Go.Proofs.YtjmaggfddinbkaaGreatDoor
open Go.RowKit
theorem down_no {s : Lay} {e : Option Nat} (h : nzV (quiL s.q e) = false) : downStep s e = ⟨twoS s.q e, s.l, s.see (twoS s.q e) (quiL s.q e)⟩ := by
  unfold downStep; dsimp only; rw [h]; rfl
theorem down_yes {s : Lay} {e : Option Nat} (h : nzV (quiL s.q e) = true) : downStep s e = ⟨quiL s.q e, s.l ++ [twoS s.q e], s.see (twoS s.q e) (quiL s.q e)⟩ := by
  unfold downStep; dsimp only; rw [h]; rfl
theorem map_getD {la : List Nat} {L : List (Option Nat)} (h : la.map fv = L) {k : Nat} (hk : k < la.length) : L.getD k none = fv (la.getD k 0) := by rw [← h, getD_fv la hk]
set_option maxRecDepth 100000 in
set_option maxHeartbeats 600000 in
theorem eComp_bad (A : Option Addr) (c : Nat) (es : List Nat) (hw : Words64 es) (hl : es.length ≤ 1152921504606846976) (v : Int) (hv : chkE es = v) (h0 : (v != 0) = true) (w : World) (hT : Tab w) (hr : SlAt w A (f64v es)) : Calls Tryz.prog 36 #[.slice A es.length c] w (ResF w [] v) := by
  have HW := Lib.hid hw; have HR := Lib.hid hr; clear hr
  have HT := Lib.hid hT; clear hT
  have CE := Lib.hid (fun w hT hr => echeck_any A c es hw hl w hT hr)
  rw [hv] at CE
  clear hv hw
  go_enter Tryz.func36, Tryz.ntmps36
  go_wp2_with fail
  refine (CE.out _ HT.out HR.out).mono ?_; rintro e1 w1 ⟨rfl, hb1⟩
  go_wp2
  go_ret2
  exact ResF.none_ v hb1
set_option maxRecDepth 100000 in
set_option maxHeartbeats 600000 in
theorem eComp_nil (A : Option Addr) (c : Nat) (es : List Nat) (hw : Words64 es) (hl : es.length ≤ 1152921504606846976) (h1 : chkE es = 0) (h0 : es.length = 0) (w : World) (hT : Tab w) (hr : SlAt w A (f64v es)) : Calls Tryz.prog 36 #[.slice A es.length c] w (ResF w [] 0) := by
  have HW := Lib.hid hw; have HR := Lib.hid hr; clear hr
  have HT := Lib.hid hT; clear hT
  have CE := Lib.hid (fun w hT hr => echeck_any A c es hw hl w hT hr)
  rw [h1] at CE
  have g1 : ((es.length : Int) == 0) = true := by rw [h0]; rfl
  clear h1 hw h0
  go_enter Tryz.func36, Tryz.ntmps36
  go_wp2_with fail
  refine (CE.out _ HT.out HR.out).mono ?_; rintro e1 w1 ⟨rfl, hb1⟩
  go_wp2
  go_ret2
  exact ResF.none_ 0 (by repeat (first | with_reducible exact Within.refl _ | with_reducible assumption | with_reducible refine arW_within ?_ _ _ _ | with_reducible refine Within.alloc ?_ _ | with_reducible refine Within.drew ?_ | with_reducible refine Within.trans ?_ (by assumption)))
set_option maxRecDepth 100000 in
set_option maxHeartbeats 2000000 in
theorem eComp_main (A : Option Addr) (c : Nat) (es : List Nat) (hw : Words64 es) (hl : es.length ≤ 1152921504606846976) (h1 : chkE es = 0) (h0 : es.length ≠ 0) (w : World) (hT : Tab w) (hr : SlAt w A (f64v es)) : Calls Tryz.prog 36 #[.slice A es.length c] w (ResF w (compSt es).out (compSt es).err) := by
  have HW := Lib.hid hw; have HR := Lib.hid hr; clear hr
  have HT := Lib.hid hT; clear hT
  have CE := Lib.hid (fun w hT hr => echeck_any A c es hw hl w hT hr)
  have L64 := Lib.hid (chk_len h1)
  have g1 : ((es.length : Int) == 0) = false := by rw [beq_eq_false_iff_ne]; omega
  rw [h1] at CE
  clear h1 hw
  obtain ⟨ql, hql⟩ : ∃ ql, ql = es.getD (es.length - 1) 0 := ⟨_, rfl⟩
  have hql64 : ql < 18446744073709551616 := by rw [hql]; exact HW.out.at (by omega)
  have YES : Hid (compSt es = upSt (downSt (fv ql) ((dwn es).map fv))) := Lib.hid (by unfold compSt; rw [hql])
  have gl1 : IntKind.i64.wrap ((es.length : Int) - 1) = ((es.length - 1 : Nat) : Int) := by rw [IntWalk.i64_in _ ⟨by omega, by omega⟩]; omega
  have gl2 : IntKind.i64.wrap ((es.length : Int) - 2) = (es.length : Int) - 2 := IntWalk.i64_in _ ⟨by have := L64.out; omega, by have := L64.out; omega⟩
  obtain ⟨ad, hA, hblk, hcl⟩ := HR.out.at (k := es.length - 1) (by omega)
  rw [← hql] at hcl
  subst hA
  have HQL := Lib.hid hql64; clear hql64 hql
  go_enter Tryz.func36, Tryz.ntmps36
  go_wp2_with fail
  refine (CE.out _ HT.out HR.out).mono ?_; rintro e1 w1 ⟨rfl, hb1⟩
  have HR1 := Lib.hid (HR.out.of hb1)
  have LAY0 := LayC.made w1 94
  have hcl1 := (hb1.cell (p := ad.add (es.length - 1)) (by rw [add_block]; exact hblk)).trans hcl
  have hblk1 := Nat.lt_of_lt_of_le hblk hb1.size
  clear hcl hblk
  obtain ⟨n1, hn1⟩ : ∃ n1, n1 = es.length - 1 := ⟨_, rfl⟩
  have gn : n1 < es.length := by omega
  rw [← hn1] at gl1 hcl1
  clear hn1
  have hcl2 := (((Within.refl w1).alloc (.cells #[.slice none 0 0, .bool false] 94)).cell (p := ad.add n1) (by rw [add_block]; exact hblk1)).trans hcl1
  go_wp2
  go_loopw [6, 7, 9] (fun av qv iv wq => ∃ (k q : Nat) (j : Int) (Aa : Option Addr) (ca : Nat) (la : List Nat), k + 1 ≤ es.length ∧ j + 2 + k = es.length ∧ iv = .int .i64 j ∧ qv = .float .f64 q ∧ q < 18446744073709551616 ∧ av = .slice Aa la.length ca ∧ fv q = (ds ql (dwn es) k).q ∧ LayC wq w1.heap.size (.slice none 0 0) (ds ql (dwn es) k).ov ∧ OwnF wq (w1.heap.size + 1) (.slice Aa la.length ca) la ∧ Words64 la ∧ la.map fv = (ds ql (dwn es) k).l ∧ Within w1 wq) (fun _ _ iv _ => (intOf iv + 1).toNat)
  case atStart => exact ⟨0, ql, (es.length : Int) - 2, none, 0, [], by omega, by omega, rfl, rfl, HQL.out, rfl, by rw [ds_zero], by rw [ds_zero]; exact LAY0, OwnF.nil_ _ _, (fun x hx => by cases hx), by rw [ds_zero]; rfl, (by repeat (first | with_reducible exact Within.refl _ | with_reducible assumption | with_reducible refine arW_within ?_ _ _ _ | with_reducible refine Within.alloc ?_ _ | with_reducible refine Within.drew ?_ | with_reducible refine Within.trans ?_ (by assumption)))⟩
  case round =>
    obtain ⟨k, q, j, Aa, ca, la, hk, hj, rfl, rfl, hq, rfl, vq, hC, hO, hwa, hma, hin⟩ := hrel
    have HQ := Lib.hid hq; have VQ := Lib.hid vq; have HC := Lib.hid hC; have HO := Lib.hid hO; have HWA := Lib.hid hwa; have HMA := Lib.hid hma; clear hq vq hC hO hwa hma
    have hla : la.length ≤ 100 := by have h1 := congrArg List.length HMA.out; rw [List.length_map] at h1; have h2 := ds_len ql (dwn es) k (by rw [dwn_len]; omega); have := L64.out; omega
    have HLA := Lib.hid hla; clear hla
    by_cases hlt : k + 1 < es.length
    · obtain ⟨i, rfl⟩ : ∃ i : Nat, j = (i : Int) := ⟨j.toNat, by omega⟩
      have hi : i < es.length := by omega
      obtain ⟨ad', hA', hblk', hc⟩ := (HR1.out.of hin).at hi
      obtain rfl : ad = ad' := by injection hA'
      have hx64 := HW.out.at hi
      have hxd : (dwn es).getD k 0 = es.getD i 0 := by rw [dwn_at es hlt, show es.length - 2 - k = i by omega]
      obtain ⟨x, hx⟩ : ∃ x, x = es.getD i 0 := ⟨_, rfl⟩
      rw [← hx] at hc hx64 hxd
      have hnext := ds_succ ql (dwn es) (k := k) (by rw [dwn_len]; omega)
      rw [hxd] at hnext
      have HX := Lib.hid hx64; have HN := Lib.hid hnext; clear hx64 hnext hxd hx hA' hblk'
      have gi : decide ((i : Int) ≥ 0) = true := decide_eq_true (by omega)
      have gj : IntKind.i64.wrap ((i : Int) - 1) = (i : Int) - 1 := IntWalk.i64_in _ ⟨by omega, by omega⟩
      have QX := Lib.hid (fun w => equick_any q x HQ.out HX.out w)
      have HIN := Lib.hid hin; clear hin
      go_wp2_with fail
      refine (QX.out _).mono ?_; rintro f1 w2 ⟨s, h, rfl, hs, hh, vs, vh, jb1⟩
      have HS := Lib.hid hs; have HH := Lib.hid hh; have VS := Lib.hid vs; have VH := Lib.hid vh; clear hs hh vs vh
      have C1 := Lib.hid (HC.out.of jb1)
      go_wp2_with fail
      refine (seeC _ s h _ _ _ C1.out).mono ?_; rintro f2 w3 ⟨rfl, hC3, hG3⟩
      have hO3 := (HO.out.of jb1).kept hG3 (by
        cases hv : Value.ownBlock (.slice Aa la.length ca) with
        | none => exact .inl rfl
        | some b =>
          right; intro e; have := (HO.out.lt b hv).1; injection e with e; omega)
      have hin3 : Within w1 w3 := below_within (HIN.out.trans jb1) ⟨hG3.os, hG3.tape, hG3.output, hG3.size, fun i hi => hG3.block i (Nat.lt_of_lt_of_le hi (Nat.le_trans (HIN.out.trans jb1).size (Nat.le_refl _))) (fun e => by injection e with e; omega)⟩ (Nat.le_refl _)
      have hne : Value.ownBlock (.slice Aa la.length ca) ≠ some w1.heap.size := fun hv => by have := (HO.out.lt _ hv).1; omega
      have hp3 : w1.heap.size + 1 ≤ w3.heap.size := hC3.lt
      have HC3 := Lib.hid hC3; have HO3 := Lib.hid hO3; have HIN3 := Lib.hid hin3; have HNE := Lib.hid hne; have HP3 := Lib.hid hp3; clear hC3 hO3 hin3 hG3 jb1 hne hp3
      have e1 := finV_fv s; have e2 := finV_fv h; rw [VS.out, VQ.out] at e1; rw [VH.out, VQ.out] at e2
      have E12 := Lib.hid (And.intro e1 e2); clear e1 e2
      by_cases h0 : h % 9223372036854775808 = 0
      · have hz : (FloatKind.f64.format.order h 0 == some .eq) = true := by rw [c_zero, decide_eq_true h0]
        have hne : (FloatKind.f64.format.order h 0 != some .eq) = false := by simp [bne, hz]
        have hd := down_no (s := ds ql (dwn es) k) (e := fv x) (by rw [← VQ.out, ← VH.out, nzV_fv, decide_eq_false (fun g => g h0)])
        rw [← HN.out] at hd
        have HD := Lib.hid hd; clear hd h0
        go_wp2
        go_roundw
        case rel =>
          refine ⟨k + 1, s, (i : Int) - 1, Aa, ca, la, hlt, by omega, rfl, rfl, HS.out, rfl, by rw [HD.out, VS.out, VQ.out], ?_, HO3.out, HWA.out, by rw [HD.out]; exact HMA.out, HIN3.out⟩
          rw [HD.out]
          have hM := HC3.out
          rw [← E12.out.1, ← E12.out.2] at hM
          exact hM
        case measure => first | (simp [intOf]; done) | (simp [intOf]; omega)
      · have hz : (FloatKind.f64.format.order h 0 == some .eq) = false := by rw [c_zero, decide_eq_false h0]
        have hne : (FloatKind.f64.format.order h 0 != some .eq) = true := by simp [bne, hz]
        have hd := down_yes (s := ds ql (dwn es) k) (e := fv x) (by rw [← VQ.out, ← VH.out, nzV_fv, decide_eq_true h0])
        rw [← HN.out] at hd
        have HD := Lib.hid hd; clear hd h0
        obtain ⟨v', w', hrun, hO', hB', hgr, _⟩ := run_app_floatG w3 (w1.heap.size + 1) _ la s HO3.out (by have := HLA.out; omega) HP3.out
        obtain ⟨A2, c2, rfl, _, _, _⟩ := hO'.form
        have hC' := HC3.out.grown hgr HNE.out
        have hin' : Within w1 w' := Below.trans HIN3.out (Below.mono hB' (Nat.le_succ _))
        have RUN := Lib.hid hrun; have HO' := Lib.hid hO'; have HC' := Lib.hid hC'; have HIN' := Lib.hid hin'; clear hrun hO' hB' hgr hC' hin'
        obtain ⟨n2, hn2⟩ : ∃ n2, n2 = (la ++ [s]).length := ⟨_, rfl⟩
        rw [← hn2] at RUN HO'
        have HN2 := Lib.hid hn2; clear hn2
        go_wp2_with (at_builtin; refine wpList_append_run rfl (.tmp 49) (.tmp 51) 24 rfl _ _ rfl rfl RUN.out ?_)
        go_roundw
        case rel =>
          refine ⟨k + 1, h, (i : Int) - 1, A2, c2, la ++ [s], hlt, by omega, rfl, rfl, HH.out, by rw [HN2.out], by rw [HD.out, VH.out, VQ.out], ?_, by rw [← HN2.out]; exact HO'.out, (fun y hy => by rcases List.mem_append.1 hy with hy | hy; exact HWA.out y hy; rcases List.mem_singleton.1 hy with rfl; exact HS.out), by rw [HD.out, List.map_append, HMA.out]; show _ ++ [fv s] = _; rw [VS.out, VQ.out], HIN'.out⟩
          rw [HD.out]
          have hM := HC'.out
          rw [← E12.out.1, ← E12.out.2] at hM
          exact hM
        case measure => first | (simp [intOf]; done) | (simp [intOf]; omega)
    · obtain rfl : k = es.length - 1 := by omega
      obtain rfl : j = -1 := by omega
      obtain ⟨D, hD⟩ : ∃ D, D = downSt (fv ql) ((dwn es).map fv) := ⟨_, rfl⟩
      have hda := ds_all ql (dwn es)
      rw [dwn_len, ← hD] at hda
      rw [hda] at VQ HC HMA
      have hLD : D.l.length = la.length := by rw [← HMA.out, List.length_map]
      have HLD := Lib.hid hLD; clear hLD hda
      have YB := YES.out
      rw [← hD] at YB
      have YB2 := Lib.hid YB; clear YB YES hD
      obtain ⟨Aa', ca', he, _, hs2, _⟩ := HO.out.form
      obtain ⟨rfl, rfl⟩ : Aa = Aa' ∧ ca = ca' := by injection he with h1 _ h2; exact ⟨h1, h2⟩
      clear he
      have HSA := Lib.hid hs2; clear hs2
      have hG0 : LayG wr w1.heap.size [] D.ov (Value.ownBlock (.slice Aa la.length ca)) := ⟨_, [], HC.out, OwnF.nil_ _ _, (fun x hx => by cases hx), rfl, fun g e => ⟨by have := (HO.out.lt g e).1; omega, (HO.out.lt g e).2, by simp [Value.ownBlock]⟩⟩
      have HG0 := Lib.hid hG0; clear hG0
      have HIN := Lib.hid hin; clear hin
      rename World => wb
      have hown : ∀ adx, Aa = some adx → Value.ownBlock (.slice Aa la.length ca) = some adx.block := fun adx e => by rw [e]; rfl
      have HOWN := Lib.hid hown; clear hown
      have gl3 : IntKind.i64.wrap ((la.length : Int) - 1) = (la.length : Int) - 1 := IntWalk.i64_in _ ⟨by omega, by have := HLA.out; omega⟩
      go_wp2
      go_loopw [7, 10] (fun qv iv wz => ∃ (k q : Nat) (j : Int), k ≤ la.length ∧ j + 1 + k = la.length ∧ iv = .int .i64 j ∧ qv = .float .f64 q ∧ q < 18446744073709551616 ∧ fv q = (us D k).q ∧ LayG wz w1.heap.size (us D k).l (us D k).ov (Value.ownBlock (.slice Aa la.length ca)) ∧ SlAt wz Aa (f64v la) ∧ Within w1 wz) (fun _ iv _ => (intOf iv + 1).toNat)
      case atStart => exact ⟨0, q, (la.length : Int) - 1, Nat.zero_le _, by omega, rfl, rfl, HQ.out, by rw [us_zero]; exact VQ.out, by rw [us_zero]; exact HG0.out, HSA.out, HIN.out⟩
      case round =>
        obtain ⟨k, q, j, hk, hj, rfl, rfl, hq, vq, hG, hsa, hin⟩ := hrel
        have HQ2 := Lib.hid hq; have VQ2 := Lib.hid vq; have HG2 := Lib.hid hG; have HSA2 := Lib.hid hsa; clear hq vq hG hsa
        by_cases hlt : k < la.length
        · obtain ⟨i, rfl⟩ : ∃ i : Nat, j = (i : Int) := ⟨j.toNat, by omega⟩
          have hi : i < la.length := by omega
          obtain ⟨ax, hA', hblk', hc⟩ := HSA2.out.at hi
          have hx64 := HWA.out.at hi
          have hxd : D.l.getD (D.l.length - 1 - k) none = fv (la.getD i 0) := by rw [HLD.out, show la.length - 1 - k = i by omega]; exact map_getD HMA.out hi
          obtain ⟨x, hx⟩ : ∃ x, x = la.getD i 0 := ⟨_, rfl⟩
          rw [← hx] at hc hx64 hxd
          have hnext := us_succ D (k := k) (by rw [HLD.out]; exact hlt)
          rw [hxd] at hnext
          have hlen := us_len D k (by rw [HLD.out]; exact hk)
          have hl2 : (us D k).l.length ≤ 1000 := by have := HLA.out; omega
          have HX := Lib.hid hx64; have HN := Lib.hid hnext; have HLEN := Lib.hid hl2; clear hx64 hnext hxd hx hlen hl2
          have gi : decide ((i : Int) ≥ 0) = true := decide_eq_true (by omega)
          have gj : IntKind.i64.wrap ((i : Int) - 1) = (i : Int) - 1 := IntWalk.i64_in _ ⟨by omega, by have := HLA.out; omega⟩
          have QX := Lib.hid (fun w => equick_any x q HX.out HQ2.out w)
          have HIN2 := Lib.hid hin; clear hin
          have HOX := Lib.hid (HOWN.out ax hA')
          subst hA'
          go_wp2_with fail
          refine (QX.out _).mono ?_; rintro f1 w2 ⟨s, h, rfl, hs, hh, vs, vh, jb1⟩
          have HS := Lib.hid hs; have HH := Lib.hid hh; have VS := Lib.hid vs; have VH := Lib.hid vh; clear hs hh vs vh
          have G1 := Lib.hid (HG2.out.of jb1)
          have S1 := Lib.hid (HSA2.out.of jb1)
          go_wp2_with fail
          refine (seeG _ s h _ _ _ _ G1.out).mono ?_; rintro f2 w3 ⟨rfl, hG3, jb2, hK3⟩
          have S3 := Lib.hid (S1.out.same jb2.size (fun adx e => hK3 _ (HOWN.out adx e)))
          have G3 := Lib.hid hG3; have HIN3 := Lib.hid (below_within (HIN2.out.trans jb1) jb2 (Nat.le_refl _)); clear hG3 jb1 jb2 hK3
          go_wp2_with fail
          refine (elayG _ h _ _ _ HH.out (Nat.le_trans HLEN.out (by decide)) _ G3.out).mono ?_; rintro f3 w4 ⟨rfl, hG4, jb4, hK4⟩
          have S4 := Lib.hid (S3.out.same jb4.size (fun adx e => hK4 _ (HOWN.out adx e)))
          have G4 := Lib.hid hG4; have HIN4 := Lib.hid (below_within HIN3.out jb4 (Nat.le_refl _)); clear hG4 jb4 hK4
          go_wp2
          go_roundw
          case rel =>
            refine ⟨k + 1, s, (i : Int) - 1, hlt, by omega, rfl, rfl, HS.out, ?_, ?_, S4.out, HIN4.out⟩
            · rw [HN.out, VS.out, VQ2.out]; rfl
            · rw [HN.out]
              have hM := G4.out
              have e1 := finV_fv s; have e2 := finV_fv h
              rw [← e1, ← e2] at hM
              simp only [VS.out, VH.out, VQ2.out] at hM
              exact hM
          case measure => first | (simp [intOf]; done) | (simp [intOf]; omega)
        · obtain rfl : k = la.length := by omega
          obtain rfl : j = -1 := by omega
          have hua := us_all D
          rw [HLD.out] at hua
          rw [hua] at VQ2 HG2
          have hlen := us_len D la.length (by rw [HLD.out]; exact Nat.le_refl _)
          rw [hua] at hlen
          obtain ⟨z, hz2⟩ : ∃ z, z = upSt D := ⟨_, rfl⟩
          have YB := YB2.out
          rw [← hz2] at VQ2 HG2 hlen YB
          have hl2 : z.l.length ≤ 1000 := by have := HLA.out; omega
          have HLEN := Lib.hid hl2; have YB3 := Lib.hid YB; clear hl2 hlen YB hz2 hua
          have HIN2 := Lib.hid hin; clear hin
          go_wp2_with fail
          refine (elayG _ q _ _ _ HQ2.out (Nat.le_trans HLEN.out (by decide)) _ HG2.out).mono ?_; rintro f1 v1 ⟨rfl, hL1, jb1, _⟩
          rw [VQ2.out] at hL1
          have HIN3 := Lib.hid (below_within HIN2.out jb1 (Nat.le_refl _)); have L1 := Lib.hid hL1.p; clear hL1 jb1
          go_wp2_with fail
          refine (eend_any _ _ _ _ L1.out).mono ?_; rintro f2 v2 ⟨⟨sv, ls, rfl, hown, hw', hm2⟩, rfl⟩
          have HO4 := Lib.hid hown; have HM := Lib.hid hm2; have HWW := Lib.hid hw'; clear hown hm2 hw'
          go_wp2
          go_ret2
          rw [YB3.out]
          exact ⟨_, ls, rfl, HO4.out.less (Nat.le_trans hb1.size (Nat.le_succ _)), HWW.out, HM.out, hb1.trans HIN3.out⟩
theorem eComp_any (A : Option Addr) (c : Nat) (es : List Nat) (hw : Words64 es) (hl : es.length ≤ 1152921504606846976) (w : World) (hT : Tab w) (hr : SlAt w A (f64v es)) : Calls Tryz.prog 36 #[.slice A es.length c] w (ResF w (compR es).1 (compR es).2) := by
  unfold compR
  by_cases h1 : chkE es = 0
  · rw [if_pos h1]
    by_cases h0 : es.length = 0
    · rw [if_pos h0]; exact eComp_nil A c es hw hl h1 h0 w hT hr
    · rw [if_neg h0]; exact eComp_main A c es hw hl h1 h0 w hT hr
  · rw [if_neg h1]; exact eComp_bad A c es hw hl _ rfl (by simpa using h1) w hT hr
end Go.Proofs.YtjmaggfddinbkaaGreatDoor
end

section
namespace Go.Proofs.YtjmaggfddinbkaaGreatDoor
open Go.RowKit
theorem ex_put {w : World} {b h : Nat} {n E : Int} {x y : Value} (hb : w.heap[b]? = some (.cells #[x, y] 53 (0, 0))) (hI : IntB w h n) (hne : h ≠ b) :
    ((w.setCell ⟨b, 0, none⟩ (.pointer (some ⟨h, 0, none⟩))).setCell ⟨b, 1, none⟩ (.int .i64 E)).heap[b]? = some (.cells #[.pointer (some ⟨h, 0, none⟩), .int .i64 E] 53 (0, 0)) ∧ IntB ((w.setCell ⟨b, 0, none⟩ (.pointer (some ⟨h, 0, none⟩))).setCell ⟨b, 1, none⟩ (.int .i64 E)) h n :=
  ⟨by simp [World.setCell, Array.getElem?_modify, hb], (ex_set hb hI hne).2.2⟩
theorem ex_cells' {w : World} {b : Nat} {x y : Value} (hb : w.heap[b]? = some (.cells #[x, y] 53 (0, 0))) : w.cell? ⟨b, 0, none⟩ = some x ∧ w.cell? ⟨b, 1, none⟩ = some y ∧ ∀ o, w.frozen? ⟨b, o, none⟩ = false :=
  ⟨by unfold World.cell?; rw [hb]; rfl, by unfold World.cell?; rw [hb]; rfl, fun o => by simp [World.frozen?, hb]⟩
set_option maxRecDepth 100000 in
set_option maxHeartbeats 600000 in
theorem Xzero (w : World) : Calls Tryz.prog 102 #[] w (ExR w 0 0) := by
  have hI := IntB.made (w.alloc (.cells #[.pointer (some ⟨(w.heap.size + 1), 0, none⟩), .int .i64 0] 53))
  have hs : (w.alloc (.cells #[.pointer (some ⟨(w.heap.size + 1), 0, none⟩), .int .i64 0] 53)).heap.size = w.heap.size + 1 := by simp
  rw [hs] at hI
  have HI := Lib.hid hI; clear hI hs
  go_enter Tryz.func102, Tryz.ntmps102
  go_wp2
  refine bodyPost_ret (v := .agg #[.pointer (some ⟨(w.heap.size + 1), 0, none⟩), .int .i64 0]) (by simp [results, Tryz.results102, go_sem]) rfl ⟨_, rfl, HI.out, by omega, (by repeat (first | with_reducible exact Within.refl _ | with_reducible assumption | with_reducible refine Within.alloc ?_ _ | with_reducible refine Within.drew ?_ | with_reducible refine Within.drewN ?_ _ | with_reducible refine Within.setCell ?_ (by first | (simp; done) | (simp; omega)) _ | with_reducible refine Within.trans ?_ (by assumption)))⟩
theorem sum_bound {B : Nat} : ∀ l : List Int, (∀ z ∈ l, z.natAbs ≤ B) → l.sum.natAbs ≤ l.length * B
  | [], _ => by simp
  | z :: l, h => by
    have h1 := h z (List.mem_cons_self ..)
    have h2 := sum_bound l fun y hy => h y (List.mem_cons_of_mem _ hy)
    rw [List.sum_cons, List.length_cons, Nat.add_mul, Nat.one_mul]
    omega
def e38 : Nat := 2238
theorem un_lim {x : Nat} (hx : x < 18446744073709551616) (h : x % 9223372036854775808 < 9218868437227405312) : (Fp.un Ieee.double x).natAbs ≤ 2 ^ e38 := by
  rw [← whole_un hx h]
  refine Nat.le_of_lt (Nat.lt_of_lt_of_le (P64.wholeI_lt x) (Nat.pow_le_pow_right (by decide) ?_))
  have := (P64.pExpD_range x).2
  unfold e38
  omega
theorem pow_64 (e : Nat) : (64 : Nat) * 2 ^ e < 2 ^ (e + 8) := by
  rw [Nat.pow_add]
  have hp := Nat.two_pow_pos e
  generalize 2 ^ e = P at *
  have : (2 : Nat) ^ 8 = 256 := by decide
  rw [this]
  omega
theorem unL_mem {es : List Nat} {z : Int} (h : z ∈ unL es) : ∃ x ∈ es, z = Fp.un Ieee.double x := by
  unfold unL at h
  obtain ⟨x, h1, h2⟩ := List.mem_map.1 h
  exact ⟨x, h1, h2.symm⟩
theorem sum_len {es : List Nat} (hw : Words64 es) (hf : ∀ x ∈ es, x % 9223372036854775808 < 9218868437227405312) (hl : es.length ≤ 64) (k : Nat) : (dg (((unL es).take k).sum).natAbs).length ≤ 80 := by
  refine dg_len_of (e := e38 + 8) (Nat.lt_of_le_of_lt (sum_bound (B := 2 ^ e38) _ fun z hz => ?_) (Nat.lt_of_le_of_lt (Nat.mul_le_mul_right _ ?_) (pow_64 e38))) (by decide)
  · obtain ⟨x, h1, rfl⟩ := unL_mem (List.mem_of_mem_take hz)
    exact un_lim (hw x h1) (hf x h1)
  · rw [List.length_take, unL_len]; exact Nat.le_trans (Nat.min_le_right _ _) hl
theorem sum_take {es : List Nat} {k : Nat} (h : k < es.length) : ((unL es).take (k + 1)).sum = ((unL es).take k).sum + Fp.un Ieee.double (es.getD k 0) := by
  have hl : k < (unL es).length := by rw [unL_len]; exact h
  rw [List.take_add_one, List.sum_append, List.getElem?_eq_getElem hl]
  have e := unL_at es h
  rw [List.getD, List.getElem?_eq_getElem hl] at e
  show _ + [(unL es)[k]].sum = _
  rw [List.sum_cons, List.sum_nil, Int.add_zero]
  congr 1
set_option maxRecDepth 100000 in
set_option maxHeartbeats 600000 in
theorem Xsuml (A : Option Addr) (c : Nat) (es : List Nat) (hw : Words64 es) (hf : ∀ x ∈ es, x % 9223372036854775808 < 9218868437227405312) (hl : es.length ≤ 64) (w : World) (hr : SlAt w A (f64v es)) : Calls Tryz.prog 47 #[.slice A es.length c] w (ExW 1074 1100 (unL es).sum w) := by
  have HW := Lib.hid hw; have HF := Lib.hid hf; have HR := Lib.hid hr; clear hw hf hr
  go_enter Tryz.func47, Tryz.ntmps47
  go_wp2_with fail
  refine (Xzero _).mono ?_; rintro e1 w1 ⟨h1, rfl, hI1, hg1, hb1⟩
  have hs : (w.alloc (.cells #[.pointer none, .int .i64 0] 53)).heap.size = w.heap.size + 1 := by simp
  rw [hs] at hg1
  have hwz : w1.heap[w.heap.size]? = some (.cells #[.pointer none, .int .i64 0] 53 (0, 0)) := (hb1.block _ (by simp)).trans (heap_alloc_new w _)
  have hlz : w.heap.size < w1.heap.size := by have h := hb1.size; rw [hs] at h; omega
  have hin1 : Within w w1 := ((Within.refl w).alloc _).trans hb1
  have HR1 := Lib.hid (HR.out.of hin1)
  have hz3 : (w1.alloc (.cells #[.pointer (some ⟨h1, 0, none⟩), .int .i64 0] 53)).heap[w1.heap.size]? = some (.cells #[.pointer (some ⟨h1, 0, none⟩), .int .i64 0] 53 (0, 0)) := heap_alloc_new w1 _
  have hI1' := Lib.hid (hI1.of ((Within.refl w1).alloc (.cells #[.pointer (some ⟨h1, 0, none⟩), .int .i64 0] 53)))
  have HZ3 := Lib.hid hz3; have HWZ := Lib.hid hwz; clear hz3 hwz hI1 hs
  go_wp2
  go_loopw [9] (fun iv wq => ∃ (k g : Nat) (n E : Int), k ≤ es.length ∧ iv = .int .i64 (k : Int) ∧ wq.heap[w1.heap.size]? = some (.cells #[.pointer (some ⟨g, 0, none⟩), .int .i64 E] 53 (0, 0)) ∧ IntB wq g n ∧ -(1074 : Int) ≤ E ∧ E ≤ 1100 ∧ valE n E 1074 = ((unL es).take k).sum ∧ Within w1 wq) (fun iv _ => es.length - (intOf iv).toNat)
  case atStart => exact ⟨0, h1, 0, 0, Nat.zero_le _, rfl, HZ3.out, hI1'.out, by decide, by decide, by rw [val_zero]; rfl, (by repeat (first | with_reducible exact Within.refl _ | with_reducible assumption | with_reducible refine Within.alloc ?_ _ | with_reducible refine Within.drew ?_ | with_reducible refine Within.drewN ?_ _ | with_reducible refine Within.setCell ?_ (by first | (simp; done) | (simp; omega)) _ | with_reducible refine Within.trans ?_ (by assumption)))⟩
  case round =>
    obtain ⟨k, g, n, E, hk, rfl, hz3, hI, eb1, eb2, hv, hin⟩ := hrel
    have EB := Lib.hid (And.intro eb1 eb2); have HV := Lib.hid hv; clear eb1 eb2 hv
    have ln : (dg n.natAbs).length ≤ 80 := Nat.le_trans (val_len n E 1074) (by rw [HV.out]; exact sum_len HW.out HF.out hl k)
    have LN := Lib.hid ln; clear ln
    obtain ⟨c0, c1, cf⟩ := ex_cells' hz3
    have hlb : w1.heap.size < wr.heap.size := World.block_lt_of_cell? _ _ c0
    by_cases hlt : k < es.length
    · obtain ⟨ad, rfl, hblk, hc⟩ := (HR1.out.of hin).at hlt
      have hx64 := HW.out.at hlt
      have fx : es.getD k 0 % 9223372036854775808 < 9218868437227405312 := HF.out _ (by rw [List.getD, List.getElem?_eq_getElem hlt]; exact List.getElem_mem hlt)
      have hst := sum_take hlt
      obtain ⟨x, hx⟩ : ∃ x, x = es.getD k 0 := ⟨_, rfl⟩
      rw [← hx] at hc hx64 fx hst
      rw [← whole_un hx64 fx] at hst
      have ST := Lib.hid hst; have CO := Lib.hid (fun w => XofW x hx64 w); clear hst hx hx64 fx cf
      go_wp2
      refine wp_region_schG (fun W => W.cell? ⟨w1.heap.size, 0, none⟩ = some (.pointer (some ⟨g, 0, none⟩)) ∧ W.cell? ⟨w1.heap.size, 1, none⟩ = some (.int .i64 E) ∧ W.heap[w1.heap.size]? = some (.cells #[.pointer (some ⟨g, 0, none⟩), .int .i64 E] 53 (0, 0)) ∧ IntB W g n ∧ w1.heap.size < W.heap.size ∧ Within w1 W) 4 (.firm 0 (.firm 1 (.one 2 (.one 3 (.one 4 .nil))))) (by kernel_rfl) (by kernel_rfl) ⟨c0, c1, hz3, hI, hlb, hin⟩ ?_
      rintro w0 ⟨c0, c1, hz, hI, lb, hw0⟩
      try simp only [Act.put, List.setIfInBounds_toArray, List.set_cons_zero, List.set_cons_succ]
      apply sch_firm rfl rfl (by repeat (first | with_reducible exact Within.refl _ | with_reducible assumption | with_reducible refine Within.alloc ?_ _ | with_reducible refine Within.drew ?_ | with_reducible refine Within.drewN ?_ _ | with_reducible refine Within.setCell ?_ (by first | (simp; done) | (simp; omega)) _ | with_reducible refine Within.trans ?_ (by assumption)))
      · intro wq hq
        have hcq := hq.cells
        clear hq
        go_simp
        first | rfl | (trace_state; fail)
      try simp only [Act.put, List.setIfInBounds_toArray, List.set_cons_zero, List.set_cons_succ]
      apply sch_firm rfl rfl (by repeat (first | with_reducible exact Within.refl _ | with_reducible assumption | with_reducible refine Within.alloc ?_ _ | with_reducible refine Within.drew ?_ | with_reducible refine Within.drewN ?_ _ | with_reducible refine Within.setCell ?_ (by first | (simp; done) | (simp; omega)) _ | with_reducible refine Within.trans ?_ (by assumption)))
      · intro wq hq
        have hcq := hq.cells
        clear hq
        go_simp
        first | rfl | (trace_state; fail)
      try simp only [Act.put, List.setIfInBounds_toArray, List.set_cons_zero, List.set_cons_succ]
      refine sch_one rfl rfl (fun K hK => ?_)
      go_simp
      refine (CO.out _).mono ?_; rintro f2 w2 ⟨g2, n2, E2, rfl, hI2, a1, a2, hv2, jb2⟩
      have l2 : (dg n2.natAbs).length ≤ 900 := Nat.le_trans (val_len n2 E2 1074) (by rw [hv2]; exact Nat.le_trans (whole_len x) (by decide))
      refine hK _ _ (fun _ => (by repeat (first | with_reducible exact Within.refl _ | with_reducible assumption | with_reducible refine Within.alloc ?_ _ | with_reducible refine Within.drew ?_ | with_reducible refine Within.drewN ?_ _ | with_reducible refine Within.setCell ?_ (by first | (simp; done) | (simp; omega)) _ | with_reducible refine Within.trans ?_ (by assumption)))) ?_
      clear hK K
      try simp only [Act.put, List.setIfInBounds_toArray, List.set_cons_zero, List.set_cons_succ]
      refine sch_one rfl rfl (fun K hK => ?_)
      go_simp
      refine (Xadd n n2 E E2 g g2 1074 1100 (by decide) (by decide) EB.out.1 EB.out.2 a1 a2 (Nat.le_trans LN.out (by decide)) l2 _ (IntB.of hI (by repeat (first | with_reducible exact Within.refl _ | with_reducible assumption | with_reducible refine Within.alloc ?_ _ | with_reducible refine Within.drew ?_ | with_reducible refine Within.drewN ?_ _ | with_reducible refine Within.setCell ?_ (by first | (simp; done) | (simp; omega)) _ | with_reducible refine Within.trans ?_ (by assumption)))) (IntB.of hI2 (by repeat (first | with_reducible exact Within.refl _ | with_reducible assumption | with_reducible refine Within.alloc ?_ _ | with_reducible refine Within.drew ?_ | with_reducible refine Within.drewN ?_ _ | with_reducible refine Within.setCell ?_ (by first | (simp; done) | (simp; omega)) _ | with_reducible refine Within.trans ?_ (by assumption))))).mono ?_; rintro f3 w3 ⟨h, m, F, rfl, hI3, c1, c2, hv3, jb3⟩
      have hv5 : Within w0 w3 := (((Within.refl w0).drew).trans jb2).trans jb3
      have hz5 := (hv5.block _ lb).trans hz
      obtain ⟨y0, y1, yf⟩ := ex_cells' hz5
      have yl : w1.heap.size < w3.heap.size := World.block_lt_of_cell? _ _ y0
      refine hK _ _ (fun _ => (by repeat (first | with_reducible exact Within.refl _ | with_reducible assumption | with_reducible refine Within.alloc ?_ _ | with_reducible refine Within.drew ?_ | with_reducible refine Within.drewN ?_ _ | with_reducible refine Within.setCell ?_ (by first | (simp; done) | (simp; omega)) _ | with_reducible refine Within.trans ?_ (by assumption)))) ?_
      clear hK K
      try simp only [Act.put, List.setIfInBounds_toArray, List.set_cons_zero, List.set_cons_succ]
      refine sch_one rfl rfl (fun K hK => ?_)
      go_simp
      refine hK _ _ (fun h => absurd h (by decide)) ?_
      clear hK K
      try simp only [Act.put, List.setIfInBounds_toArray, List.set_cons_zero, List.set_cons_succ]
      refine sch_nil ?_
      have hne := ne_ex hI3 hz5
      obtain ⟨p1, p2⟩ := ex_put (E := F) hz5 hI3 hne
      have hin5 : Within w1 ((w3.setCell ⟨w1.heap.size, 0, none⟩ (.pointer (some ⟨h, 0, none⟩))).setCell ⟨w1.heap.size, 1, none⟩ (.int .i64 F)) := ((hw0.trans hv5).setCell (by show _ ≤ w1.heap.size; omega) _).setCell (by show _ ≤ w1.heap.size; omega) _
      have hval : valE m F 1074 = ((unL es).take (k + 1)).sum := by rw [hv3, hv2, HV.out, ST.out]
      obtain ⟨V, hV⟩ : ∃ V, V = (w3.setCell ⟨w1.heap.size, 0, none⟩ (.pointer (some ⟨h, 0, none⟩))).setCell ⟨w1.heap.size, 1, none⟩ (.int .i64 F) := ⟨_, rfl⟩
      rw [← hV] at p1 p2 hin5 ⊢
      have P1 := Lib.hid p1; have P2 := Lib.hid p2; have HV2 := Lib.hid hval; clear p1 p2 hval hV hv3 hv2
      go_wp2
      go_roundw
      case rel => exact ⟨k + 1, h, m, F, hlt, by go_num, P1.out, P2.out, c1, c2, HV2.out, hin5⟩
      case measure => first | (simp [intOf]; done) | (simp [intOf]; omega)
    · obtain rfl : k = es.length := by omega
      have htk : ((unL es).take es.length).sum = (unL es).sum := by rw [List.take_of_length_le (by rw [unL_len]; exact Nat.le_refl _)]
      have hv := HV.out
      rw [htk] at hv
      have HV2 := Lib.hid hv; clear hv htk HV
      have hzz := (hin.block _ hlz).trans HWZ.out
      obtain ⟨y0, y1, yf⟩ := ex_cells hzz
      have yl : w.heap.size < wr.heap.size := World.block_lt_of_cell? _ _ y0
      have hne := ne_ex hI hzz
      obtain ⟨r0, r1, rI⟩ := ex_set (E := E) hzz hI hne
      have RI := Lib.hid rI; clear rI hzz hz3
      go_wp2
      refine bodyPost_ret (v := .agg #[.pointer (some ⟨g, 0, none⟩), .int .i64 E]) (by simp [results, Tryz.results47, go_sem, r0, r1, yl]) rfl ⟨g, n, E, rfl, RI.out, EB.out.1, EB.out.2, HV2.out, ?_⟩
      exact ((hin1.trans hin).setCell (by show _ ≤ w.heap.size; omega) _).setCell (by show _ ≤ w.heap.size; omega) _
end Go.Proofs.YtjmaggfddinbkaaGreatDoor
end

section
namespace Go.Proofs.YtjmaggfddinbkaaGreatDoor
open Go.RowKit
@[go_sem] theorem mx_bits64 (a : Nat) (w : World) : (callFunc 63 #[.float .f64 a]).run Tryz.prog w = .ok (.value (.int .u64 a)) w := by kernel_rfl
@[go_sem] theorem mx_from64 (a : Int) (w : World) : (callFunc 68 #[.int .u64 a]).run Tryz.prog w = .ok (.value (.float .f64 a.toNat)) w := by kernel_rfl
theorem key_pos {r : Nat} (h : r < 9223372036854775808) : Fp.key64 r = r := by unfold Fp.key64; rw [if_neg (by omega), Nat.mod_eq_of_lt h]
theorem notnan {r : Nat} (h : r % 9223372036854775808 ≤ 9218868437227405312) : Fp.isNaN64 r = false := decide_eq_false (by omega)
theorem gt_max {r : Nat} (h : r < 9223372036854775808) : (FloatKind.f64.format.order r 9218868437227405311 == some .gt) = decide (r = 9218868437227405312) := by
  show (Ieee.double.order r 9218868437227405311 == some .gt) = _
  by_cases hn : r ≤ 9218868437227405312
  · rw [Fp.gt64 _ _ (notnan (by omega)) (notnan (by decide)), key_pos h, key_pos (by decide)]
    exact decide_eq_decide.2 (by omega)
  · rw [Fp.order64_nan _ _ (.inl (decide_eq_true (by omega))), decide_eq_false (by omega)]; rfl
set_option maxRecDepth 100000 in
set_option maxHeartbeats 600000 in
theorem m_abs (a : Nat) (ha : a < 18446744073709551616) (w : World) : Calls Tryz.prog 31 #[.float .f64 a] w fun e w' => e = .returned (.float .f64 (a % 9223372036854775808)) ∧ w = w' := by
  have h := u64_unsign a ha
  generalize a % 9223372036854775808 = m at *
  clear ha
  go_enter Tryz.func31, Tryz.ntmps31
  go_wp2
  go_ret
  exact ⟨rfl, rfl⟩
set_option maxRecDepth 100000 in
set_option maxHeartbeats 600000 in
theorem m_isinf (a : Nat) (ha : a < 18446744073709551616) (w : World) : Calls Tryz.prog 86 #[.float .f64 a, .int .i64 0] w fun e w' => e = .returned (.bool (decide (a % 9223372036854775808 = 9218868437227405312))) ∧ w = w' := by
  have HA := Lib.hid (fun w => m_abs a ha w)
  have h := gt_max (r := a % 9223372036854775808) (by omega)
  rw [← h]
  generalize a % 9223372036854775808 = m at *
  clear ha h
  go_enter Tryz.func86, Tryz.ntmps86
  go_wp2_with fail
  refine (HA.out _).mono ?_; rintro e1 w1 ⟨rfl, rfl⟩
  go_wp2
  go_ret
  exact ⟨rfl, rfl⟩
end Go.Proofs.YtjmaggfddinbkaaGreatDoor
end

section
namespace Go.Proofs.YtjmaggfddinbkaaGreatDoor
open Go.RowKit
/-! in amounts -/
theorem is_pos {r n : Nat} (h : r < 9218868437227405312) (hm : Fp.mag Ieee.double r = n) : Fp.Is Ieee.double r false n := by
  have hr : Fp.rg Ieee.double r = r := by rw [Fp.rg64, Nat.mod_eq_of_lt (by omega)]
  refine ⟨Nat.lt_trans h (by decide), by rw [hr, Fp.dI]; exact h, ?_, by rw [hr, hm]⟩
  rw [Fp.sg64, Nat.div_eq_of_lt (by omega)]; rfl
theorem num_pos {n : Nat} : Fp.num Ieee.double false n = Fp.grid Ieee.double n 0 := rfl
theorem pos_rung {r n : Nat} (hm : Fp.mag Ieee.double r = n) : Fp.num Ieee.double false n = r := by
  rw [num_pos, ← hm, Fp.grid_of_mag Ieee.double Fp.dF]
theorem one_is : Fp.mag Ieee.double 4607182418800017408 = 2 ^ Fp.deep Ieee.double := by decide +kernel
theorem mul_pos {a b p r : Nat} (ha : a < 9218868437227405312) (hb : b < 9218868437227405312) (hr : r < 9218868437227405312) (hp : Fp.mag Ieee.double r = p) (h : Fp.mag Ieee.double a * Fp.mag Ieee.double b = p * 2 ^ Fp.deep Ieee.double) : Ieee.double.mul a b = some r := by
  have h1 := Fp.mul_is Ieee.double Fp.dL0 (is_pos ha rfl) (is_pos hb rfl) h (hp ▸ Fp.rep_mag Ieee.double Fp.dF (by rw [Fp.dI]; exact hr))
  rw [h1]
  exact congrArg some (pos_rung hp)
theorem one_mul {r : Nat} (h : r < 9218868437227405312) : Ieee.double.mul 4607182418800017408 r = some r :=
  mul_pos (by decide) h h rfl (by rw [one_is, Nat.mul_comm])
end Go.Proofs.YtjmaggfddinbkaaGreatDoor
end

section
namespace Go.Proofs.YtjmaggfddinbkaaGreatDoor
open Go.RowKit
theorem eq_self_fin {x : Nat} : (FloatKind.f64.format.order x x == some .eq) = decide (x % 9223372036854775808 ≤ 9218868437227405312) := by
  have h := c_self (a := x)
  rw [bne] at h
  cases hb : (FloatKind.f64.format.order x x == some .eq)
  · rw [hb] at h; have := of_decide_eq_true h.symm; rw [decide_eq_false (by omega)]
  · rw [hb] at h; have := of_decide_eq_false h.symm; rw [decide_eq_true (by omega)]
set_option maxRecDepth 100000 in
set_option maxHeartbeats 600000 in
theorem rfin4 (x : Nat) (hx : x < 18446744073709551616) (w : World) : Calls Tryz.prog 28 #[.float .f64 x] w fun e w' => e = .returned (.bool (finW x)) ∧ Within w w' := by
  have CI := Lib.hid (fun w => m_isinf x hx w)
  have he := eq_self_fin (x := x)
  unfold finW
  by_cases h1 : x % 9223372036854775808 = 9218868437227405312
  · rw [decide_eq_false (by omega)]
    rw [decide_eq_true h1] at CI
    clear he h1 hx
    go_enter Tryz.func28, Tryz.ntmps28
    go_wp2_with fail
    refine (CI.out _).mono ?_; rintro e1 w1 ⟨rfl, rfl⟩
    go_wp2
    go_ret
    exact ⟨rfl, Within.refl _⟩
  · rw [decide_eq_false h1] at CI
    have hq : decide (x % 9223372036854775808 ≤ 9218868437227405312) = decide (x % 9223372036854775808 < 9218868437227405312) := decide_eq_decide.2 (by omega)
    rw [hq] at he
    obtain ⟨b, hb⟩ : ∃ b, b = decide (x % 9223372036854775808 < 9218868437227405312) := ⟨_, rfl⟩
    rw [← hb] at he ⊢
    clear hb hq h1 hx
    go_enter Tryz.func28, Tryz.ntmps28
    go_wp2_with fail
    refine (CI.out _).mono ?_; rintro e1 w1 ⟨rfl, rfl⟩
    go_wp2
    go_ret
    exact ⟨rfl, Within.refl _⟩
end Go.Proofs.YtjmaggfddinbkaaGreatDoor
end

section
namespace Go.Proofs.YtjmaggfddinbkaaGreatDoor
theorem num_parts {b : Nat} (fb : b % 9223372036854775808 < 9218868437227405312) : ∃ a : Int, Fp.un Ieee.double b = a * 2 ^ (pExpD b + 1074).toNat := mu_nat (abs_parts fb)
theorem mem_fin {es : List Nat} (hw : Words64 es) (h : isB es = true) {x : Nat} (hx : x ∈ es) : x % 9223372036854775808 < 9218868437227405312 := isB_fins hw h x hx
theorem not_lost {x b : Nat} (h : lostB x b = false) : upl ≤ (pExpD x + 1074).toNat + (pExpD b + 1074).toNat := by
  have h1 := (P64.pExpD_range x).1
  have h2 := (P64.pExpD_range b).1
  have h3 : ¬ pExpD x + pExpD b < -1074 := of_decide_eq_false h
  rw [upl_is]
  omega
theorem scale_fz {e b : Nat} {tl : List Nat} (hw : Words64 (e :: tl)) (hE : isB (e :: tl) = true) (fb : b % 9223372036854775808 < 9218868437227405312) (nb : b % 9223372036854775808 ≠ 0)
    (hno : ∀ x ∈ e :: tl, lostB x b = false) (ho : (scaleSt (fv e) (tl.map fv) (fv b)).ov = false) :
    ∃ Z, FzL (scaleSt (fv e) (tl.map fv) (fv b)).all Z ∧ Expn Z ∧ Z.sum * 2 ^ upl = (unL (e :: tl)).sum * Fp.un Ieee.double b := by
  obtain ⟨k1, k2, k3⟩ := isB_words hw hE
  obtain ⟨a, ha⟩ := num_parts fb
  have hB : Fz (fv b) (Fp.un Ieee.double b) := fz_of fb
  have hb0 : Fp.un Ieee.double b ≠ 0 := fun h => nb (un_zero.1 h)
  have ha0 : a ≠ 0 := fun h => hb0 (by rw [ha, h, Int.zero_mul])
  have hRa : RepZ a := by have := hB.rep; rw [ha] at this; exact repz_shift.1 this
  have hj : Mu (pExpD b + 1074).toNat (Fp.un Ieee.double b) := ⟨a, ha⟩
  have mus : ∀ x ∈ e :: tl, Mu (pExpD x + 1074).toNat (Fp.un Ieee.double x) ∧ upl ≤ (pExpD x + 1074).toNat + (pExpD b + 1074).toNat := fun x hx => ⟨mu_nat (abs_parts (mem_fin hw hE hx)), not_lost (hno x hx)⟩
  have hov0 : (scale0 e b).ov = false := by
    cases hh : (scale0 e b).ov
    · rfl
    · have := scale_ov (b := fv b) (tl.map fv) (scale0 e b) hh
      rw [show (scaleSt (fv e) (tl.map fv) (fv b)).ov = true from this] at ho
      cases ho
  obtain ⟨g0, g1, g2⟩ := or_not (a := false) (b := finV (proP (fv e) (fv b))) (c := finV (proE (fv e) (fv b))) hov0
  obtain ⟨T, fT⟩ := fz_some g1
  obtain ⟨t, ft⟩ := fz_some g2
  obtain ⟨A, B', hA, hB', hP⟩ := pro_fin fT ft
  obtain rfl := hA.eq k1.1
  obtain rfl := hB'.eq hB
  obtain ⟨m1, m2⟩ := mus e (List.mem_cons_self ..)
  obtain ⟨P, p1, p2, p3⟩ := hP _ _ m1 hj m2
  have hl : FzL (layV [] (proE (fv e) (fv b))) ([] ++ layZ t []) := lay_fz trivial ft
  have hz : ∀ z ∈ unL tl, ∃ i, Mu i z ∧ upl ≤ i + (pExpD b + 1074).toNat := by
    intro z hz
    obtain ⟨x, hx, rfl⟩ := List.mem_map.1 hz
    exact ⟨_, mus x (List.mem_cons_of_mem _ hx)⟩
  obtain ⟨Q', Ls', i1, i2, Ps, i3, i4, i5⟩ := scale_link (b := fv b) hB hj (es := tl.map fv) (zs := unL tl) (s := scale0 e b) (Q := T) (Ls := layZ t []) k1.2 hz fT hl ho
  have hR : RepZ (P - rn P) := by rw [← p3]; exact ft.rep
  rw [ha] at i3 p1
  obtain ⟨s1, s2⟩ := scale_all hRa ha0 (z := Fp.un Ieee.double e) (l := unL tl) k2 ⟨_, m1, m2⟩ p1.symm i3 hR i5
  refine ⟨Ls' ++ layZ Q' [], lay_fz i2 i1, ?_, ?_⟩
  · rw [i4, layZ_app, p3, p2]; exact s1
  · rw [i4, layZ_app, p3, p2, ha]; exact s2
theorem scaleR_zero {es : List Nat} {b : Nat} (h : (scaleR es b).2 = 0) : isB es = true ∧ finW b = true ∧
    (scaleR es b = ([], 0) ∧ (b % 9223372036854775808 = 0 ∨ es = []) ∨
     ∃ e tl, es = e :: tl ∧ b % 9223372036854775808 ≠ 0 ∧ (∀ x ∈ e :: tl, lostB x b = false) ∧ (scaleSt (fv e) (tl.map fv) (fv b)).err = 0 ∧ scaleR es b = ((scaleSt (fv e) (tl.map fv) (fv b)).all, 0)) := by
  unfold scaleR at h ⊢
  by_cases h1 : chkE es = 0
  · rw [if_pos h1] at h ⊢
    cases h2 : finW b
    · rw [h2, if_neg Bool.false_ne_true] at h; cases h
    · rw [h2, if_pos rfl] at h
      rw [if_pos rfl]
      refine ⟨chkE_zero.1 h1, rfl, ?_⟩
      by_cases h3 : b % 9223372036854775808 = 0
      · rw [if_pos h3]; exact .inl ⟨rfl, .inl h3⟩
      · rw [if_neg h3] at h ⊢
        cases es with
        | nil => exact .inl ⟨rfl, .inr rfl⟩
        | cons e tl =>
          right
          dsimp only at h ⊢
          cases h4 : (e :: tl).any (lostB · b)
          · rw [h4, if_neg Bool.false_ne_true] at h
            rw [if_neg Bool.false_ne_true]
            refine ⟨e, tl, rfl, h3, fun x hx => ?_, h, ?_⟩
            · have := List.any_eq_false.1 h4 x hx
              simpa using this
            · have h5 : (scaleSt (fv e) (tl.map fv) (fv b)).err = 0 := h
              unfold Lay.out
              rw [if_pos h5, h5]
          · rw [h4, if_pos rfl] at h; cases h
  · rw [if_neg h1] at h; exact absurd h h1
theorem isB_nil : isB [] = true := by decide
theorem scale_res {es ls : List Nat} {b : Nat} (hw : Words64 es) (h0 : (scaleR es b).2 = 0) (hws : Words64 ls) (hm : ls.map fv = (scaleR es b).1) :
    ∃ Z, FzL (ls.map fv) Z ∧ isB ls = true ∧ (unL ls).sum * 2 ^ upl = (unL es).sum * Fp.un Ieee.double b := by
  obtain ⟨h1, h2, h3 | ⟨e, tl, rfl, h3, h4, h5, h6⟩⟩ := scaleR_zero h0
  · obtain ⟨h3, h4⟩ := h3
    rw [h3] at hm
    rw [fv_nil hm]
    refine ⟨[], trivial, isB_nil, ?_⟩
    show ([] : List Int).sum * _ = _
    rw [List.sum_nil, Int.zero_mul]
    rcases h4 with h4 | h4
    · rw [un_zero.2 h4, Int.mul_zero]
    · rw [h4]; show _ = ([] : List Int).sum * _; rw [List.sum_nil, Int.zero_mul]
  · obtain ⟨e1, e2⟩ := err_zero h5
    obtain ⟨Z, z1, z2, z3⟩ := scale_fz hw h1 (of_decide_eq_true h2) h3 h4 e1
    rw [h6] at hm
    have hm' : ls.map fv = (scaleSt (fv e) (tl.map fv) (fv b)).all := hm
    rw [← hm'] at z1 e2
    rw [List.length_map] at e2
    obtain ⟨r1, r2⟩ := isB_res hws z1 e2 z2
    exact ⟨Z, z1, r1, by rw [r2]; exact z3⟩
/-! Compress -/
theorem unL_rev (es : List Nat) : unL es.reverse = (unL es).reverse := List.map_reverse ..
theorem unL_dwn {es : List Nat} (h0 : es.length ≠ 0) : (Fp.un Ieee.double (es.getD (es.length - 1) 0) :: unL (dwn es)).reverse = unL es := by
  conv => rhs; rw [last_split h0]
  unfold dwn
  rw [List.reverse_cons, ← unL_rev, List.reverse_reverse]
  unfold unL
  rw [List.map_append]; rfl
theorem compR_zero {es : List Nat} (h : (compR es).2 = 0) : isB es = true ∧ (es = [] ∧ compR es = ([], 0) ∨ es.length ≠ 0 ∧ (compSt es).err = 0 ∧ compR es = ((compSt es).all, 0)) := by
  unfold compR at h ⊢
  by_cases h1 : chkE es = 0
  · rw [if_pos h1] at h ⊢
    refine ⟨chkE_zero.1 h1, ?_⟩
    by_cases h2 : es.length = 0
    · rw [if_pos h2]; exact .inl ⟨List.eq_nil_of_length_eq_zero h2, rfl⟩
    · rw [if_neg h2] at h ⊢
      have h5 : (compSt es).err = 0 := h
      refine .inr ⟨h2, h5, ?_⟩
      unfold Lay.out
      rw [if_pos h5, h5]
  · rw [if_neg h1] at h; exact absurd h h1
theorem comp_fz {es : List Nat} (hw : Words64 es) (hE : isB es = true) (h0 : es.length ≠ 0) (ho : (compSt es).ov = false) :
    ∃ Z, FzL (compSt es).all Z ∧ Expn Z ∧ Z.sum = (unL es).sum ∧ ∃ (ini : List Int) (last : Int) (k : Nat), Z = ini ++ [last] ∧ last ≠ 0 ∧ RepZ last ∧ ((unL es).sum - last).natAbs < 2 ^ k ∧ Mu k last ∧ (k ≠ 0 → 4503599627370496 * 2 ^ k ≤ last.natAbs) := by
  obtain ⟨k1, k2, k3⟩ := isB_words hw hE
  have hlast : es.getD (es.length - 1) 0 ∈ es := by rw [List.getD, List.getElem?_eq_getElem (by omega)]; exact List.getElem_mem _
  have hq : Fz (fv (es.getD (es.length - 1) 0)) (Fp.un Ieee.double (es.getD (es.length - 1) 0)) := fz_of (mem_fin hw hE hlast)
  have hdm : ∀ x ∈ dwn es, x ∈ es := fun x hx => List.dropLast_subset _ (List.mem_reverse.1 hx)
  have hd : FzL ((dwn es).map fv) (unL (dwn es)) := fzL_words fun x hx => mem_fin hw hE (hdm x hx)
  have hrev := unL_dwn h0
  have hE2 : Expn (Fp.un Ieee.double (es.getD (es.length - 1) 0) :: unL (dwn es)).reverse := by rw [hrev]; exact k2
  have hR2 : ∀ x ∈ Fp.un Ieee.double (es.getD (es.length - 1) 0) :: unL (dwn es), RepZ x := fun x hx => k3 x (by rw [← hrev]; exact List.mem_reverse.2 hx)
  obtain ⟨c1, c2, c3, c4, c5, c6⟩ := comp_all hE2 hR2
  have hl := comp_link hq hd ho
  rw [c3, c4] at hl
  have hsum : (Fp.un Ieee.double (es.getD (es.length - 1) 0) :: unL (dwn es)).sum = (unL es).sum := by rw [← hrev, rev_sum]
  rw [hsum] at c5 c6
  exact ⟨_, hl, c1, c5, c6⟩
theorem comp_res {es ls : List Nat} (hw : Words64 es) (h0 : (compR es).2 = 0) (hws : Words64 ls) (hm : ls.map fv = (compR es).1) :
    FzL (ls.map fv) (unL ls) ∧ isB ls = true ∧ (unL ls).sum = (unL es).sum ∧ (ls.length = 0 ↔ es.length = 0) ∧ (es.length ≠ 0 → ∃ k : Nat, ((unL es).sum - Fp.un Ieee.double (ls.getD (ls.length - 1) 0)).natAbs < 2 ^ k ∧ Mu k (Fp.un Ieee.double (ls.getD (ls.length - 1) 0)) ∧ (k ≠ 0 → 4503599627370496 * 2 ^ k ≤ (Fp.un Ieee.double (ls.getD (ls.length - 1) 0)).natAbs)) := by
  obtain ⟨h1, ⟨rfl, h3⟩ | ⟨h2, h3, h4⟩⟩ := compR_zero h0
  · rw [h3] at hm
    rw [fv_nil hm]
    exact ⟨trivial, isB_nil, rfl, Iff.rfl, fun h => absurd rfl h⟩
  · obtain ⟨e1, e2⟩ := err_zero h3
    obtain ⟨Z, z1, z2, z3, ini, last, k, z4, z5, _, z7, z8, z9⟩ := comp_fz hw h1 h2 e1
    rw [h4] at hm
    have hm' : ls.map fv = (compSt es).all := hm
    rw [← hm'] at z1 e2
    rw [List.length_map] at e2
    obtain ⟨r1, r2⟩ := isB_res hws z1 e2 z2
    rw [← r2] at z1 z3 z4
    have hlen : ls.length ≠ 0 := by
      intro h
      have := congrArg List.length z4
      rw [unL_len, h, List.length_append] at this
      simp at this
    refine ⟨z1, r1, z3, ⟨fun h => absurd h hlen, fun h => absurd h h2⟩, fun _ => ⟨k, ?_⟩⟩
    have hl : Fp.un Ieee.double (ls.getD (ls.length - 1) 0) = last := by
      rw [← unL_at ls (show ls.length - 1 < ls.length by omega), ← unL_len ls, z4, List.getD, List.length_append, List.length_cons, List.length_nil, Nat.add_sub_cancel, List.getElem?_append_right (Nat.le_refl _), Nat.sub_self]
      rfl
    rw [hl]
    exact ⟨z7, z8, z9⟩
end Go.Proofs.YtjmaggfddinbkaaGreatDoor
end
