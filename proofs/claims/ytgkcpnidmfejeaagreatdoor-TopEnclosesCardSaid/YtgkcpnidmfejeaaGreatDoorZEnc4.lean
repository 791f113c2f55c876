/- What the law's walk rests on, part 4: contracts of functions and plain facts. -/
import Derived.Test.YtgkcpnidmfejeaaGreatDoorZEnc3
set_option linter.unusedVariables false
set_option linter.unusedSimpArgs false
set_option maxRecDepth 100000
set_option maxHeartbeats 4000000
section
namespace Go.Proofs.YtgkcpnidmfejeaaGreatDoor
def p2 (e : Int) : Rat := (2 : Rat) ^ e
theorem p2_pos (e : Int) : 0 < p2 e := Rat.zpow_pos dc
theorem p2_add (a b : Int) : p2 (a + b) = p2 a * p2 b := Rat.zpow_add dc a b
theorem p2_zero : p2 0 = 1 := Rat.zpow_zero 2
theorem p2_nat (k : Nat) : p2 (k : Int) = ((2 ^ k : Nat) : Rat) := by
 show (2 : Rat) ^ (k : Int) = _
 rw [Rat.zpow_natCast]
 push_cast
 rfl
def dyR (n e : Int) : Rat := (n : Rat) * p2 e
theorem dyR_zero (e : Int) : dyR 0 e = 0 := by unfold dyR; rw [Rat.intCast_zero, Rat.zero_mul]
theorem dyR_shift (n : Int) (k : Nat) (e : Int) : dyR (n * 2 ^ k) e = dyR n (e + k) := by
 unfold dyR
 rw [p2_add, p2_nat]
 push_cast
 grind
theorem dyR_at (n e f : Int) (h : f ≤ e) : dyR (n * 2 ^ (e - f).toNat) f = dyR n e := by
 rw [dyR_shift]; congr 1; omega
theorem dyR_mul (a b e f : Int) : dyR (a * b) (e + f) = dyR a e * dyR b f := by
 unfold dyR; rw [p2_add]; push_cast; grind
theorem dyR_add (a b e : Int) : dyR (a + b) e = dyR a e + dyR b e := by
 unfold dyR; push_cast; grind
theorem dyR_neg (a e : Int) : dyR (-a) e = -dyR a e := by
 unfold dyR; push_cast; grind
theorem dyR_le (a b e : Int) : dyR a e ≤ dyR b e ↔ a ≤ b := by
 unfold dyR
 have hp := p2_pos e
 constructor
 ·intro h
  have := le_of_mul hp h
  exact_mod_cast this
 ·intro h
  have h2 : (a : Rat) ≤ (b : Rat) := by exact_mod_cast h
  exact rmul_le h2 (Rat.le_of_lt hp)
theorem dyR_pos (a e : Int) : 0 < dyR a e ↔ 0 < a := by
 have h := dyR_le a 0 e
 rw [dyR_zero] at h
 constructor
 ·intro g
  rcases Int.lt_or_le 0 a with k | k
  ·exact k
  ·have := h.2 k; grind
 ·intro g
  rcases rat_or 0 (dyR a e) with k | k
  ·exact k
  ·have := h.1 k; omega
theorem dyR_neg_iff (a e : Int) : dyR a e < 0 ↔ a < 0 := by
 have h := dyR_le 0 a e
 rw [dyR_zero] at h
 constructor
 ·intro g
  rcases Int.lt_or_le a 0 with k | k
  ·exact k
  ·have := h.2 k; grind
 ·intro g
  rcases rat_or (dyR a e) 0 with k | k
  ·exact k
  ·have := h.1 k; omega
theorem u1_p2 : p2 (-(uE : Int)) * (u1 : Rat) = 1 := by
 have h := p2_add (-(uE : Int)) (uE : Int)
 rw [p2_nat uE, show -(uE : Int) + uE = 0 by omega, p2_zero] at h
 exact h.symm
theorem rvD_p2 (x : Nat) : rvD x = dyR (Fp.un Ieee.double x) (-(uE : Int)) := by
 have h := u1_p2
 have h0 : (u1 : Rat) ≠ 0 := by intro g; rw [g] at h; grind
 unfold rvD dyR
 generalize p2 (-(uE : Int)) = P at *
 generalize (u1 : Rat) = U at *
 grind
theorem uE_is : uE = 1074 := rfl
theorem rvD_of {x : Nat} {n e : Int} (he : -1074 ≤ e) (h : Fp.un Ieee.double x = n * 2 ^ (e + 1074).toNat) : rvD x = dyR n e := by
 rw [rvD_p2, h]
 have := dyR_at n e (-(uE : Int)) (by rw [uE_is]; omega)
 rw [← this]
 congr 3
theorem zz79 {p : Prop} (h : p := by
 rcases Int.lt_or_le e last with g | g
 ·have k := h2 g
  rw [← dyR_at (q : Int) last e om]
  rw [dyR_le]
  exact_mod_cast k
 ·rw [h1 g, ← dyR_at (M : Int) e last g, dyR_le]
  push_cast
  exact Int.le_refl _) : p := h
theorem cut_ge {M : Nat} {e last : Int} {q : Nat} (h1 : last ≤ e → q = M * 2 ^ (e - last).toNat) (h2 : e < last → M ≤ q * 2 ^ (last - e).toNat) : dyR M e ≤ dyR q last := by
 exact zz79
theorem cut_le {M : Nat} {e last : Int} {q : Nat} (h1 : last ≤ e → q = M * 2 ^ (e - last).toNat) (h2 : e < last → q * 2 ^ (last - e).toNat ≤ M) : dyR q last ≤ dyR M e := by
 exact zz79
def CutOk (grow : Bool) (M d : Nat) (q : Nat) : Prop := if grow then M ≤ q * 2 ^ d ∧ q ≤ M / 2 ^ d + 1 else q * 2 ^ d ≤ M
def sgI (neg : Bool) (n : Nat) : Int := if neg then -(n : Int) else (n : Int)
theorem round_fin {up neg : Bool} {M q r : Nat} {e last : Int} (hr : Fi r) (hl : -1074 ≤ last) (hu : Fp.un Ieee.double r = sgI neg q * 2 ^ (last + 1074).toNat)
 (h1 : last ≤ e → q = M * 2 ^ (e - last).toNat) (h2 : e < last → CutOk (up != neg) M (last - e).toNat q) : EndOk up r (dyR (sgI neg M) e) := by
 have hv : rvD r = dyR (sgI neg q) last := rvD_of hl hu
 cases up <;> cases neg
 ·refine ⟨hr.sane, ?_⟩
  rw [enW_fi hr, En.le_fn, hv]
  exact cut_le h1 h2
 ·refine ⟨hr.sane, ?_⟩
  rw [enW_fi hr, En.le_fn, hv]
  have k := cut_ge h1 (fun g => (h2 g).1)
  show dyR (-(q : Int)) last ≤ dyR (-(M : Int)) e
  rw [dyR_neg, dyR_neg]
  grind
 ·refine ⟨hr.sane, ?_⟩
  rw [enW_fi hr, En.le_fn, hv]
  exact cut_ge h1 (fun g => (h2 g).1)
 ·refine ⟨hr.sane, ?_⟩
  rw [enW_fi hr, En.le_fn, hv]
  have k := cut_le h1 h2
  show dyR (-(M : Int)) e ≤ dyR (-(q : Int)) last
  rw [dyR_neg, dyR_neg]
  grind
def mxU : Nat := 2 ^ 2098 - 2 ^ 2045
def tpE : Nat := 2098
theorem mx_le : mxU ≤ 2 ^ tpE := by decide +kernel
theorem max_un : Fp.un Ieee.double 9218868437227405311 = ((mxU : Nat) : Int) := by decide +kernel
theorem max_neg_un : Fp.un Ieee.double 18442240474082181119 = -((mxU : Nat) : Int) := by decide +kernel
theorem beyond_core {v y : Nat} {q L : Nat} {last : Int} (hv : v = 2098) (hy : y ≤ 2 ^ v) (hl : -1074 ≤ last) (hq : 2 ^ L ≤ q) (h : 1024 ≤ last + L) : (y : Int) ≤ (q : Int) * 2 ^ (last + 1074).toNat := by
 have k : 2 ^ v ≤ q * 2 ^ (last + 1074).toNat := by
  refine Nat.le_trans ?_ (Nat.mul_le_mul_right _ hq)
  rw [← Nat.pow_add]
  exact Nat.pow_le_pow_right dc om
 have k2 : y ≤ q * 2 ^ (last + 1074).toNat := Nat.le_trans hy k
 have k3 : ((y : Nat) : Int) ≤ ((q * 2 ^ (last + 1074).toNat : Nat) : Int) := Int.ofNat_le.2 k2
 rw [Int.natCast_mul, Int.natCast_pow] at k3
 exact k3
theorem sane_inf : Sane 9218868437227405312 ∧ Sane 18442240474082181120 := by unfold Sane; decide
theorem en_inf : enW 9218868437227405312 = .hi ∧ enW 18442240474082181120 = .lo := by unfold enW; exact ⟨by rw [if_neg dc, if_pos dc], by rw [if_neg dc, if_neg dc]⟩
theorem round_beyond {up neg : Bool} {M q L : Nat} {e last : Int} (hl : -1074 ≤ last) (hq : 2 ^ L ≤ q) (h : 1024 ≤ last + L)
 (h1 : last ≤ e → q = M * 2 ^ (e - last).toNat) (h2 : e < last → CutOk (up != neg) M (last - e).toNat q) :
 EndOk up (if up != neg then (if neg then 18442240474082181120 else 9218868437227405312) else (if neg then 18442240474082181119 else 9218868437227405311)) (dyR (sgI neg M) e) := by
 have key : up = neg → rvD 9218868437227405311 ≤ dyR M e := by
  intro g
  have hg : (up != neg) = false := by rw [g]; cases neg <;> rfl
  have k := cut_le h1 (fun g2 => by have := h2 g2; rw [hg] at this; exact this)
  have b := beyond_core (v := tpE) (y := mxU) rfl mx_le hl hq h
  rw [← max_un] at b
  have b2 : rvD 9218868437227405311 ≤ dyR q last := by
   rw [rvD_p2, ← dyR_at (q : Int) last (-(uE : Int)) (by rw [uE_is]; omega), dyR_le]
   exact b
  grind
 have nm : rvD 18442240474082181119 = -rvD 9218868437227405311 := by
  rw [rvD_p2, rvD_p2, max_neg_un, max_un, dyR_neg]
 cases up <;> cases neg
 ·refine ⟨fi_max.1.sane, ?_⟩
  show (enW 9218868437227405311).le _
  rw [enW_fi fi_max.1, En.le_fn]
  exact key rfl
 ·exact ⟨sane_inf.2, by show (enW 18442240474082181120).le _; rw [en_inf.2]; trivial⟩
 ·exact ⟨sane_inf.1, by show En.le _ (enW 9218868437227405312); rw [en_inf.1]; trivial⟩
 ·refine ⟨fi_max.2.sane, ?_⟩
  show En.le _ (enW 18442240474082181119)
  rw [enW_fi fi_max.2, En.le_fn, nm]
  have k := key rfl
  show dyR (-(M : Int)) e ≤ _
  rw [dyR_neg]
  grind
theorem last_few {M q : Nat} {e last : Int} {b : Nat} (hM : M < 2 ^ b) (hl : e + b - 53 ≤ last) (h1 : last ≤ e → q = M * 2 ^ (e - last).toNat) (h2 : e < last → q ≤ M / 2 ^ (last - e).toNat + 1) : q ≤ 2 ^ 53 := by
 rcases Int.lt_or_le e last with g | g
 ·have k : M / 2 ^ (last - e).toNat < 2 ^ 53 := by
   rw [Nat.div_lt_iff_lt_mul (Nat.two_pow_pos _), ← Nat.pow_add]
   exact Nat.lt_of_lt_of_le hM (Nat.pow_le_pow_right dc om)
  have := h2 g
  omega
 ·rw [h1 g]
  have k : M * 2 ^ (e - last).toNat ≤ 2 ^ b * 2 ^ (e - last).toNat := Nat.mul_le_mul_right _ (Nat.le_of_lt hM)
  rw [← Nat.pow_add] at k
  exact Nat.le_trans k (Nat.pow_le_pow_right dc om)
end Go.Proofs.YtgkcpnidmfejeaaGreatDoor
end
namespace Go.Proofs.YtgkcpnidmfejeaaGreatDoor
open Go.RowKit
def DyV (w : World) (v : Value) (n e : Int) : Prop :=
 ∃ A c, v = .agg #[.bool (decide (n < 0)), .slice A (dg n.natAbs).length c, .int .i64 e] ∧ (dg n.natAbs).length ≤ c ∧ RowAt w A (dg n.natAbs)
theorem DyV.of {w w' : World} {v : Value} {n e : Int} (h : DyV w v n e) (k : Within w w') : DyV w' v n e := by
 obtain ⟨A, c, h1, h2, h3⟩ := h
 exact ⟨A, c, h1, h2, h3.of k⟩
def ExP (W : World) (n e : Int) (r : Ending) (w' : World) : Prop := ∃ g, r = .returned (.agg #[.pointer (some ⟨g, 0, none⟩), .int .i64 e]) ∧ P64.IntB w' g n ∧ W.heap.size ≤ g ∧ Within W w'
theorem zz68 {p : Prop} (h : p := by
 exact ⟨by unfold World.cell?; rw [hb]; rfl, by unfold World.cell?; rw [hb]; rfl, fun o => by simp [World.frozen?, hb], fun o => by simp [World.frozen?, h1], by unfold World.cell?; rw [h1]; rfl, by unfold World.cell?; rw [h2]; rfl, by unfold World.cell?; rw [h2]; rfl⟩) : p := h
theorem pair_block {w : World} {z : Nat} {x y : Value} {T : TypeId} (hb : w.heap[z]? = some (.cells #[x, y] T (0, 0))) (a b : Value) :
 w.cell? ⟨z, 0, none⟩ = some x ∧ w.cell? ⟨z, 1, none⟩ = some y ∧ (∀ o, w.frozen? ⟨z, o, none⟩ = false) ∧ (∀ o, (w.setCell ⟨z, 0, none⟩ a).frozen? ⟨z, o, none⟩ = false) ∧ (w.setCell ⟨z, 0, none⟩ a).cell? ⟨z, 1, none⟩ = some y ∧
  ((w.setCell ⟨z, 0, none⟩ a).setCell ⟨z, 1, none⟩ b).cell? ⟨z, 0, none⟩ = some a ∧ ((w.setCell ⟨z, 0, none⟩ a).setCell ⟨z, 1, none⟩ b).cell? ⟨z, 1, none⟩ = some b := by
 have h1 : (w.setCell ⟨z, 0, none⟩ a).heap[z]? = some (.cells #[a, y] T (0, 0)) := by simp [World.setCell, Array.getElem?_modify, hb]
 have h2 : ((w.setCell ⟨z, 0, none⟩ a).setCell ⟨z, 1, none⟩ b).heap[z]? = some (.cells #[a, b] T (0, 0)) := by simp [World.setCell, Array.getElem?_modify, hb]
 exact zz68
theorem zz99 {p : Prop} (h : p := by
 rw [hb] at hz
 injection hz with hz
 injection hz with _ ht
 exact hT ht.symm) : p := h
theorem int_ne {w : World} {g z : Nat} {v : Int} {cs : Array Value} {T : TypeId} (h : P64.IntB w g v) (hz : w.heap[z]? = some (.cells cs T (0, 0))) (hT : T ≠ 229) : g ≠ z := by
 rintro rfl
 obtain ⟨A, c, hb, _⟩ := h
 exact zz99
theorem P64.IntB.kept {w w' : World} {g : Nat} {v : Int} {z : Nat} (h : P64.IntB w g v) (hne : g ≠ z) (hr : ∀ b m fn, w.rowIs b 25 m fn → b ≠ z) (hk : ∀ b, b ≠ z → b < w.heap.size → w'.heap[b]? = w.heap[b]?) : P64.IntB w' g v := by
 have hl := h.lt
 obtain ⟨A, c, hb, hc, ha⟩ := h
 exact ⟨A, c, (hk g hne hl).trans hb, hc, ha.of_block fun b m fn k => hk b (hr b m fn k) k.lt⟩
theorem row_ne {w : World} {z b m : Nat} {fn : Nat → Value} {cs : Array Value} {T : TypeId} (hz : w.heap[z]? = some (.cells cs T (0, 0))) (hT : T ≠ 25) (k : w.rowIs b 25 m fn) : b ≠ z := by
 rintro rfl
 obtain ⟨c, hb, _⟩ := k
 exact zz99
theorem P64.IntB.pair {w : World} {g : Nat} {v : Int} {z : Nat} {x y : Value} {T : TypeId} (h : P64.IntB w g v) (hz : w.heap[z]? = some (.cells #[x, y] T (0, 0))) (h1 : T ≠ 229) (h2 : T ≠ 25) (a b : Value) :
 P64.IntB ((w.setCell ⟨z, 0, none⟩ a).setCell ⟨z, 1, none⟩ b) g v := by
 refine h.kept (int_ne h hz h1) (fun b m fn k => row_ne hz h2 k) (fun k hk _ => ?_)
 rw [Below.heap_setCell _ _ _ _ hk, Below.heap_setCell _ _ _ _ hk]
theorem drop_at {l : List Nat} {k : Nat} (h : k < l.length) : wval (l.drop k) = l.getD k 0 + 4294967296 * wval (l.drop (k + 1)) := by
 rw [List.drop_eq_getElem_cons h, List.getD, List.getElem?_eq_getElem h]; rfl
theorem or_add {v x : Nat} (h : x < 4294967296) : (v * 2 ^ 32) ||| x = v * 4294967296 + x := by
 rw [nat_join 32 _ _ (Nat.mul_mod_left _ _) (by rw [show (2 : Nat) ^ 32 = 4294967296 from rfl]; exact h)]
theorem dg64_small {n K : Nat} (h : n < 2 ^ (64 * K)) : (P64.dg n).length ≤ K := P64.dg_len_le (by rw [P64.pow64]; exact h)
theorem dg32_small {n K : Nat} (h : n < 2 ^ (32 * K)) : (dg n).length ≤ K := dg_len_le (by rw [show (4294967296 : Nat) = 2 ^ 32 from rfl, ← Nat.pow_mul]; exact h)
def TakeRel (W : World) (z : Nat) (l : List Nat) (iv : Value) (wr : World) : Prop := ∃ (k : Nat) (j : Int), k ≤ l.length ∧ iv = .int .i64 j ∧ j + 1 = (k : Int) ∧ P64.IntB wr z ((wval (l.drop k) : Nat) : Int) ∧ W.grownBy wr (some z)
theorem wval_drop_le (l : List Nat) (k : Nat) : wval (l.drop k) ≤ wval l := by
 have h := wval_split l k
 have hp : 0 < 4294967296 ^ k := Nat.pow_pos dc
 have := Nat.le_mul_of_pos_left (wval (l.drop k)) hp
 omega
theorem row32_ne {w wr : World} {ga z i L : Nat} {l : List Nat} {v : Int} (h : RowAt w (some ⟨ga, 0, none⟩) l) (hi : i < L) (hL : L = l.length) (hw : Within w wr) (hI : P64.IntB wr z v) (e : ga = z) : False := by
 obtain ⟨g, m, fn, e1, _, hr, _⟩ := h om
 injection e1 with e1; injection e1 with e1
 subst e1
 obtain ⟨c, hb, _⟩ := hr.of_block (hw.block _ hr.lt)
 obtain ⟨A, c2, hb2, _⟩ := hI
 rw [← e, hb] at hb2
 injection hb2 with hb2
 injection hb2 with _ ht
 exact absurd ht dc
theorem Dtake0 (n e : Int) (A : Option Addr) (c K : Nat) (hK : n.natAbs < 2 ^ K) (hK2 : K ≤ 40000) (hlen : (dg n.natAbs).length ≤ 100000) (w : World) (hr : RowAt w A (dg n.natAbs)) : Calls Tryz.prog 177 #[.agg #[.bool (decide (n < 0)), .slice A (dg n.natAbs).length c, .int .i64 e]] w (ExP w n e) := by
 have hwl := words_dg n.natAbs
 have HW := Hh hwl; have HR := Hh hr
 have hwv := wval_dg n.natAbs
 obtain ⟨l, hl⟩ : ∃ l, l = dg n.natAbs := ⟨_, rfl⟩
 rw [← hl] at HW HR hlen hwv ⊢
 obtain ⟨ng, hng⟩ : ∃ b, b = decide (n < 0) := ⟨_, rfl⟩
 rw [← hng]
 obtain ⟨L, hL⟩ : ∃ L, L = l.length := ⟨_, rfl⟩
 rw [← hL] at hlen ⊢
 have HLL := Hh hL; have HNG := Hh hng; have HWV := Hh hwv; clear hl hL hng hwv hwl hr
 have HI : P64.IntB (((w.alloc (.cells #[.bool ng, .slice A L c, .int .i64 e] 150)).alloc (.cells #[.pointer none, .int .i64 0] 231)).alloc (.cells #[.bool false, .slice none 0 0] 229)) (w.heap.size + 2) 0 := by
  have := P64.IntB.made ((w.alloc (.cells #[.bool ng, .slice A L c, .int .i64 e] 150)).alloc (.cells #[.pointer none, .int .i64 0] 231))
  simpa using this
 have hwN : Within w (((w.alloc (.cells #[.bool ng, .slice A L c, .int .i64 e] 150)).alloc (.cells #[.pointer none, .int .i64 0] 231)).alloc (.cells #[.bool false, .slice none 0 0] 229)) := (((Within.refl w).alloc _).alloc _).alloc _
 have hB0 : (((w.alloc (.cells #[.bool ng, .slice A L c, .int .i64 e] 150)).alloc (.cells #[.pointer none, .int .i64 0] 231)).alloc (.cells #[.bool false, .slice none 0 0] 229)).heap[w.heap.size]? = some (.cells #[.bool ng, .slice A L c, .int .i64 e] 150 (0, 0)) := by
  have := heap_alloc_new w (.cells #[.bool ng, .slice A L c, .int .i64 e] 150)
  have k1 : Within (w.alloc (.cells #[.bool ng, .slice A L c, .int .i64 e] 150)) (((w.alloc (.cells #[.bool ng, .slice A L c, .int .i64 e] 150)).alloc (.cells #[.pointer none, .int .i64 0] 231)).alloc (.cells #[.bool false, .slice none 0 0] 229)) := ((Within.refl _).alloc _).alloc _
  exact (k1.block _ (by simp)).trans this
 have hB1 : (((w.alloc (.cells #[.bool ng, .slice A L c, .int .i64 e] 150)).alloc (.cells #[.pointer none, .int .i64 0] 231)).alloc (.cells #[.bool false, .slice none 0 0] 229)).heap[w.heap.size + 1]? = some (.cells #[.pointer none, .int .i64 0] 231 (0, 0)) := by
  have := heap_alloc_new (w.alloc (.cells #[.bool ng, .slice A L c, .int .i64 e] 150)) (.cells #[.pointer none, .int .i64 0] 231)
  have k1 : Within ((w.alloc (.cells #[.bool ng, .slice A L c, .int .i64 e] 150)).alloc (.cells #[.pointer none, .int .i64 0] 231)) (((w.alloc (.cells #[.bool ng, .slice A L c, .int .i64 e] 150)).alloc (.cells #[.pointer none, .int .i64 0] 231)).alloc (.cells #[.bool false, .slice none 0 0] 229)) := (Within.refl _).alloc _
  have h2 : (w.alloc (.cells #[.bool ng, .slice A L c, .int .i64 e] 150)).heap.size = w.heap.size + 1 := by simp
  rw [h2] at this
  exact (k1.block _ (by simp)).trans this
 have hj0 : IntKind.i64.wrap ((L : Int) - 1) = (L : Int) - 1 := IntWalk.i64_in _ ⟨by omega, by omega⟩
 go_enter Tryz.func177, Tryz.ntmps177
 go_upto_region 2 with fail
 obtain ⟨W3, hW3⟩ : ∃ W3, W3 = (((w.alloc (.cells #[.bool ng, .slice A L c, .int .i64 e] 150)).alloc (.cells #[.pointer none, .int .i64 0] 231)).alloc (.cells #[.bool false, .slice none 0 0] 229)) := ⟨_, rfl⟩
 rw [← hW3] at HI hwN hB0 hB1 ⊢
 have hs3 : W3.heap.size = w.heap.size + 3 := by rw [hW3]; simp
 clear hW3
 obtain ⟨b0, hb0⟩ : ∃ b, b = w.heap.size := ⟨_, rfl⟩
 have HS3 := Hh (And.intro hs3 hb0)
 rw [← hb0] at hB0 hB1 HI ⊢
 clear hb0 hs3
 have c1 : W3.cell? ⟨b0, 1, none⟩ = some (.slice A L c) := by unfold World.cell?; rw [hB0]; rfl
 go_wp2
 go_loopw [4] (fun iv wr => TakeRel W3 (b0 + 2) l iv wr) (fun iv _ => (intOf iv + 1).toNat)
 case atStart => exact ⟨l.length, (L : Int) - 1, Nat.le_refl _, rfl, by have := HLL.out; omega, by rw [List.drop_length]; exact HI, World.grownBy.refl _ _⟩
 case round =>
  obtain ⟨k, j, hk, rfl, hj, hI, hG⟩ := hrel
  have hBw : wr.heap[b0]? = some (.cells #[.bool ng, .slice A L c, .int .i64 e] 150 (0, 0)) := (hG.block b0 (by have := HS3.out; omega) (fun q => by injection q with q; omega)).trans hB0
  have hBr : wr.heap[b0 + 1]? = some (.cells #[.pointer none, .int .i64 0] 231 (0, 0)) := (hG.block (b0 + 1) (by have := HS3.out; omega) (fun q => by injection q with q; omega)).trans hB1
  have q0 : wr.cell? ⟨b0, 0, none⟩ = some (.bool ng) := by unfold World.cell?; rw [hBw]; rfl
  have q1 : wr.cell? ⟨b0, 1, none⟩ = some (.slice A L c) := by unfold World.cell?; rw [hBw]; rfl
  have q2 : wr.cell? ⟨b0, 2, none⟩ = some (.int .i64 e) := by unfold World.cell?; rw [hBw]; rfl
  have hww : Within w wr := Within.grown hwN hG (by have := HS3.out; omega)
  rcases Nat.eq_zero_or_pos k with h0 | h0
  ·subst h0
   obtain rfl : j = -1 := by omega
   rw [List.drop_zero, HWV.out] at hI
   have FIN := Hh (fun (wx : World) (hx : P64.IntB wx (b0 + 2) n) (hBx : wx.heap[b0 + 1]? = some (.cells #[.pointer none, .int .i64 0] 231 (0, 0))) => P64.IntB.pair hx hBx dc dc (.pointer (some ⟨b0 + 2, 0, none⟩)) (.int .i64 e))
   cases ng
   ·have hn0 : ((n.natAbs : Nat) : Int) = n := by have := of_decide_eq_false HNG.out.symm; omega
    rw [hn0] at hI
    have HF := Hh (FIN.out wr hI hBr)
    obtain ⟨k0, k1, kf, kg, k2, r0, r1⟩ := pair_block hBr (.pointer (some ⟨b0 + 2, 0, none⟩)) (.int .i64 e)
    have kf0 := kf 0; have kf1 := kf 1; have kg1 := kg 1
    have hs := hww.size
    go_wp2
    (try simp only [Exit.inBlock, Exit.then]); refine bodyPost_ret (v := .agg #[.pointer (some ⟨b0 + 2, 0, none⟩), .int .i64 e]) (by simp [results, Tryz.results177, go_sem, r0, r1]) rfl ?_
    exact ⟨b0 + 2, rfl, HF.out, by have := HS3.out; omega, (hww.setCell (by have := HS3.out; show w.heap.size ≤ b0 + 1; omega) _).setCell (by have := HS3.out; show w.heap.size ≤ b0 + 1; omega) _⟩
   ·have hn0 : -((n.natAbs : Nat) : Int) = n := by have := of_decide_eq_true HNG.out.symm; omega
    have NG := Hh (P64.Pneg (b0 + 2) (b0 + 2) ((n.natAbs : Nat) : Int) (by rw [Int.natAbs_natCast]; exact Nat.le_trans (dg64_small (Nat.lt_of_lt_of_le hK (Nat.pow_le_pow_right dc (show K ≤ 64 * K by omega)))) om) wr hI.ty hI)
    rw [hn0] at NG
    go_wp2_with fail
    refine (NG.out).mono ?_; rintro e5 w5 ⟨rfl, hI5, hG5⟩
    have hB5 : w5.heap[b0 + 1]? = some (.cells #[.pointer none, .int .i64 0] 231 (0, 0)) := (hG5.block (b0 + 1) (by have := HS3.out; have := hG.size; omega) (fun q => by injection q with q; omega)).trans hBr
    have q25 : w5.cell? ⟨b0, 2, none⟩ = some (.int .i64 e) := hG5.cell q2 (by simp)
    have HF := Hh (FIN.out w5 hI5 hB5)
    obtain ⟨k0, k1, kf, kg, k2, r0, r1⟩ := pair_block hB5 (.pointer (some ⟨b0 + 2, 0, none⟩)) (.int .i64 e)
    have kf0 := kf 0; have kf1 := kf 1; have kg1 := kg 1
    have hw5 : Within w w5 := Within.grown hww hG5 (by have := HS3.out; omega)
    go_wp2
    (try simp only [Exit.inBlock, Exit.then]); refine bodyPost_ret (v := .agg #[.pointer (some ⟨b0 + 2, 0, none⟩), .int .i64 e]) (by simp [results, Tryz.results177, go_sem, r0, r1]) rfl ?_
    exact ⟨b0 + 2, rfl, HF.out, by have := HS3.out; omega, (hw5.setCell (by have := HS3.out; show w.heap.size ≤ b0 + 1; omega) _).setCell (by have := HS3.out; show w.heap.size ≤ b0 + 1; omega) _⟩
  ·obtain ⟨i, rfl⟩ : ∃ i, k = i + 1 := ⟨k - 1, by omega⟩
   obtain rfl : j = (i : Int) := by omega
   obtain ⟨x, hx⟩ : ∃ x, x = l.getD i 0 := ⟨_, rfl⟩
   have hxl : x < 4294967296 := by rw [hx]; exact HW.out.getD i
   have hda := drop_at (l := l) (k := i) om
   rw [← hx] at hda
   have hvl : wval (l.drop i) < 2 ^ K := Nat.lt_of_le_of_lt (wval_drop_le l i) (by rw [HWV.out]; exact hK)
   obtain ⟨v, hv⟩ : ∃ v, v = wval (l.drop (i + 1)) := ⟨_, rfl⟩
   rw [← hv] at hI hda
   have hor := or_add (v := v) hxl
   have hor2 : (v * 2 ^ 32) ||| x = wval (l.drop i) := by rw [hor, hda]; omega
   have hlv : (P64.dg v).length ≤ 40000 := Nat.le_trans (dg64_small (Nat.lt_of_le_of_lt (show v ≤ wval (l.drop i) by omega) (Nat.lt_of_lt_of_le hvl (Nat.pow_le_pow_right dc (show K ≤ 64 * K by omega))))) om
   have SH := Hh (P64.Plsh (b0 + 2) (b0 + 2) 32 (v : Int) (by rw [Int.natAbs_natCast]; omega) dc wr hI.ty hI)
   rw [show (v : Int) * 2 ^ 32 = ((v * 2 ^ 32 : Nat) : Int) by simp] at SH
   have NI := Hh (fun w => P64.PnewInt x om w)
   have OR := Hh (fun (g : Nat) w hz hx hy => P64.Por (b0 + 2) (b0 + 2) g (v * 2 ^ 32) x (max (P64.dg (v * 2 ^ 32)).length (P64.dg x).length) rfl (Nat.le_trans (P64.dg_shl_le (k := 1) hlv dc) dc) (Nat.le_trans (P64.dg_len_le (k := 1) om) dc) w hz hx hy)
   rw [hor2] at OR
   obtain ⟨ga, hga1, hga2, hca⟩ := (HR.out.of hww).cell (i := i) om
   subst hga1
   rw [← hx] at hca
   have wx : IntKind.i64.wrap (x : Int) = (x : Int) := IntWalk.i64_in _ ⟨by omega, by omega⟩
   have hil : i < L := by have := HLL.out; omega
   have gj : IntKind.i64.wrap ((i : Int) - 1) = (i : Int) - 1 := IntWalk.i64_in _ ⟨by omega, by omega⟩
   have gi : decide ((i : Int) ≥ 0) = true := decide_eq_true om
   have HIX := Hh (show i ≤ l.length by omega)
   clear hx hxl hda hvl hv hor hor2 hlv
   go_wp2_with fail
   refine (SH.out).mono ?_; rintro e4 w4 ⟨rfl, hI4, hG4⟩
   have q14 : w4.cell? ⟨b0, 1, none⟩ = some (.slice (some ⟨ga, 0, none⟩) L c) := hG4.cell q1 (by simp)
   have hca4 := hG4.cell hca (by have := (HR.out.of hww); intro q; injection q with q; exact row32_ne HR.out hil HLL.out hww hI q)
   go_wp2_with fail
   refine (NI.out _).mono ?_; rintro e5 w5 ⟨g5, rfl, hI5, hg5, hb5⟩
   go_wp2_with fail
   refine (OR.out g5 _ (hI4.of hb5).ty (hI4.of hb5) hI5).mono ?_; rintro e6 w6 ⟨rfl, hI6, hG6⟩
   have HGG := Hh (P64.grown_trans hG (P64.grown_trans hG4 (P64.grown_trans (P64.grown_within _ hb5) hG6)))
   have HI6 := Hh hI6
   clear hI6 hG6 hG4 hI4 hI5 hb5 hG hI
   go_wp2
   go_roundw
   case rel => exact ⟨i, (i : Int) - 1, HIX.out, by first | rfl | go_num, by omega, HI6.out, HGG.out⟩
   case measure => first | (simp [intOf]; done) | (simp [intOf]; omega)
theorem wp_new_p64 {o : Oper} {a : Act} {w : World} {K : Act → World → Prop} {Q : Exit → Act → World → Prop} (ho : o.op = .alloc 229)
 (h : ∀ z w', P64.IntTy w' z → Within w w' → w.heap.size ≤ z → K (a.put o.dst (.pointer (some ⟨z, 0, none⟩))) w') : o.wp Tryz.prog a w K Q := by
 have h1 := h w.heap.size (w.alloc (.cells #[.bool false, .slice none 0 0] 229)) (P64.IntB.made w).ty ((Within.refl w).alloc _) (Nat.le_refl _)
 unfold Oper.wp execOp
 rw [ho]
 go_simp
 exact h1
def Halved (n e n' e' : Int) : Prop := (n = 0 ∧ n' = 0 ∧ e' = e) ∨ (n'.natAbs % 2 = 1 ∧ ∃ t : Nat, n = n' * 2 ^ t ∧ e' = e + t)
theorem Halved.le {n e n' e' : Int} (h : Halved n e n' e') : n'.natAbs ≤ n.natAbs := by
 rcases h with ⟨rfl, rfl, _⟩ | ⟨_, t, rfl, _⟩
 ·exact Nat.le_refl _
 ·rw [Int.natAbs_mul, Int.natAbs_pow]
  exact Nat.le_mul_of_pos_right _ (Nat.two_pow_pos t)
theorem Halved.val {n e n' e' : Int} (h : Halved n e n' e') : dyR n' e' = dyR n e := by
 rcases h with ⟨rfl, rfl, rfl⟩ | ⟨_, t, rfl, rfl⟩
 ·rfl
 ·rw [dyR_shift]
def HalRel (W : World) (z : Nat) (n e : Int) (ev : Value) (wr : World) : Prop := ∃ (v ec : Int) (t : Nat), ev = .int .i64 ec ∧ ec = e + t ∧ n = v * 2 ^ t ∧ (v = 0 → t = 0) ∧ P64.IntB wr z v ∧ W.grownBy wr (some z)
theorem pow_lt_of {v : Int} {t K : Nat} {n : Int} (h : n = v * 2 ^ t) (h0 : n ≠ 0) (hK : n.natAbs < 2 ^ K) : t < K := by
 have hv : v ≠ 0 := fun g => h0 (by rw [h, g, Int.zero_mul])
 rw [h, Int.natAbs_mul, Int.natAbs_pow] at hK
 have h1 : 2 ^ t ≤ v.natAbs * 2 ^ t := Nat.le_mul_of_pos_left _ om
 exact (Nat.pow_lt_pow_iff_right (a := 2) dc).1 (Nat.lt_of_le_of_lt h1 hK)
theorem shr_odd {v : Int} {t m : Nat} (h : v.natAbs = 2 ^ t * (2 * m + 1)) : v = v / 2 ^ t * 2 ^ t ∧ (v / 2 ^ t).natAbs = 2 * m + 1 := by
 have hp : (0 : Int) < 2 ^ t := Int.pow_pos dc
 have hd : (2 : Int) ^ t ∣ v := by
  rw [← Int.natAbs_dvd_natAbs, h, Int.natAbs_pow]
  exact Nat.dvd_mul_right _ _
 have e1 := (Int.ediv_mul_cancel hd).symm
 refine ⟨e1, ?_⟩
 have e2 := congrArg Int.natAbs e1
 rw [Int.natAbs_mul, Int.natAbs_pow, h] at e2
 rw [show (2 : Int).natAbs = 2 from rfl, Nat.mul_comm (2 ^ t)] at e2
 exact (Nat.eq_of_mul_eq_mul_right (Nat.two_pow_pos t) e2).symm
def HalP (W : World) (n e : Int) (r : Ending) (w' : World) : Prop := ∃ n' e', Halved n e n' e' ∧ ExP W n' e' r w'
theorem zz13 {p : Prop} (h : p := by
 rw [sg] at SG
 have hvn : v ≠ 0 := by omega
 clear sg
 by_cases hod : v.natAbs % 2 = 1
 ·have b1 : (((v.natAbs % 2 : Nat) : Int) == 0) = false := by rw [hod]; rfl
  rw [hod] at BT b1
  have ho := Hh hod
  clear hod hv0 hvn hvl hvK hec b1
  go_wp2_with fail
  refine (SG.out _ HI4.out).mono ?_; rintro e5 w5 ⟨rfl, rfl⟩
  go_wp2_with fail
  refine (BT.out _ HI4.out).mono ?_; rintro e6 w6 ⟨rfl, rfl⟩
  go_wp2
  (try simp only [Exit.inBlock, Exit.then]); refine bodyPost_ret (v := .agg #[.pointer (some ⟨z, 0, none⟩), .int .i64 ec]) (by simp [results, Tryz.results257, go_sem, r0, r1]) rfl ?_
  exact ⟨v, ec, OUT.out (.inr ho.out), z, rfl, FIN.out, by have := HS.out; omega, RTN.out⟩
 ·have h20 : v.natAbs % 2 = 0 := by omega
  rw [h20] at BT
  have TZ := Hh (fun w hT h => P64.Ptzb z v hvn om w hT h)
  have hnn : n ≠ 0 := fun h => hvn (by have := HN.out; rw [h] at this; exact (Int.mul_eq_zero.1 this.symm).resolve_right (fun h0 => by have h5 : (0 : Int) < 2 ^ t := Int.pow_pos dc; omega))
  have htK := pow_lt_of HN.out hnn hK
  have HV2 := Hh (And.intro hvn hvK)
  have HH := Hh h20
  clear hod hv0 hvl h20
  go_wp2_with fail
  refine (SG.out _ HI4.out).mono ?_; rintro e5 w5 ⟨rfl, rfl⟩
  go_wp2_with fail
  refine (BT.out _ HI4.out).mono ?_; rintro e6 w6 ⟨rfl, rfl⟩
  go_wp2_with fail
  refine (TZ.out _ (HT.out.of hww) HI4.out).mono ?_; rintro e7 w7 ⟨s, m, rfl, hsm, hs64, rfl⟩
  have hso := shr_odd hsm
  have hsK : s < K := pow_lt_of (v := v / 2 ^ s) hso.1 HV2.out.1 HV2.out.2
  have hs1 : 1 ≤ s := by
   rcases Nat.eq_zero_or_pos s with g0 | g0
   ·have := HH.out; rw [hsm, g0] at this; omega
   ·exact g0
  have RS := Hh (P64.Prsh z z s v om om (.inr (by rw [hsm]; exact Nat.mul_mod_right _ _)) wr HI4.out.ty HI4.out)
  have hn2 : n = v / 2 ^ s * 2 ^ (t + s) := by
   rw [Int.pow_add, Int.mul_comm (2 ^ t), ← Int.mul_assoc, ← hso.1]
   exact HN.out
  have hts := pow_lt_of hn2 hnn hK
  have HN2 := Hh hn2; have HSO := Hh hso
  obtain ⟨v', hv'⟩ : ∃ v', v' = v / 2 ^ s := ⟨_, rfl⟩
  have HVN := Hh (show ¬ v / 2 ^ s = 0 from fun h => by have := hso.2; rw [h] at this; simp at this)
  rw [← hv'] at RS HN2 HVN
  clear hv' hsm hso hn2
  have ws : IntKind.i64.wrap (s : Int) = (s : Int) := IntWalk.i64_in _ ⟨by omega, by omega⟩
  have we : IntKind.i64.wrap (ec + (s : Int)) = ec + (s : Int) := IntWalk.i64_in _ ⟨by omega, by omega⟩
  go_wp2_with fail
  refine (RS.out).mono ?_; rintro e8 w8 ⟨rfl, hI8, hG8⟩
  have HI8 := Hh hI8; have HG8 := Hh (P64.grown_trans hG4 hG8); clear hI8 hG8 hG4
  go_wp2
  go_roundw
  case rel => exact ⟨v', ec + s, t + s, by first | rfl | (rw [hec]; done), by omega, HN2.out, fun h => absurd h (by have := HSO.out; have h3 := HVN.out; exact h3), HI8.out, HG8.out⟩
  case measure => first | (simp [intOf]; done) | (simp [intOf]; omega)) : p := h
theorem zz96 {p : Prop} (h : p := by
 have h2 : (w.alloc (.cells #[.pointer (some ⟨g, 0, none⟩), .int .i64 e] 231)).heap.size = w.heap.size + 1 := by simp
 rwa [h2] at this) : p := h
theorem Dhalve (n e : Int) (g K : Nat) (hK : n.natAbs < 2 ^ K) (hK2 : K ≤ 40000) (he : -1000000 ≤ e ∧ e ≤ 1000000) (w : World) (hT : Tab w) (hI : P64.IntB w g n) : Calls Tryz.prog 257 #[.agg #[.pointer (some ⟨g, 0, none⟩), .int .i64 e]] w (HalP w n e) := by
 have HT := Hh hT; clear hT
 have hB1 : ((w.alloc (.cells #[.pointer (some ⟨g, 0, none⟩), .int .i64 e] 231)).alloc (.cells #[.pointer none, .int .i64 0] 231)).heap[w.heap.size + 1]? = some (.cells #[.pointer none, .int .i64 0] 231 (0, 0)) := by
  have := heap_alloc_new (w.alloc (.cells #[.pointer (some ⟨g, 0, none⟩), .int .i64 e] 231)) (.cells #[.pointer none, .int .i64 0] 231)
  exact zz96
 have hwN : Within w ((w.alloc (.cells #[.pointer (some ⟨g, 0, none⟩), .int .i64 e] 231)).alloc (.cells #[.pointer none, .int .i64 0] 231)) := ((Within.refl w).alloc _).alloc _
 have hI2 := hI.of hwN
 have hlK : (P64.dg n.natAbs).length ≤ 40000 := Nat.le_trans (dg64_small (Nat.lt_of_lt_of_le hK (Nat.pow_le_pow_right dc (show K ≤ 64 * K by omega)))) om
 have ST := Hh (fun (z : Nat) w hz hx => P64.Pset z g n om w hz hx)
 go_enter Tryz.func257, Tryz.ntmps257
 go_upto_region 1 with fail
 obtain ⟨W2, hW2⟩ : ∃ W2, W2 = ((w.alloc (.cells #[.pointer (some ⟨g, 0, none⟩), .int .i64 e] 231)).alloc (.cells #[.pointer none, .int .i64 0] 231)) := ⟨_, rfl⟩
 have d0 : W2.cell? ⟨w.heap.size, 0, none⟩ = some (.pointer (some ⟨g, 0, none⟩)) := by rw [hW2]; go_simp
 have d1 : W2.cell? ⟨w.heap.size, 1, none⟩ = some (.int .i64 e) := by rw [hW2]; go_simp
 have hs2 : W2.heap.size = w.heap.size + 2 := by rw [hW2]; simp
 rw [← hW2] at hB1 hwN hI2 ⊢
 clear hW2
 obtain ⟨b0, hb0⟩ : ∃ b, b = w.heap.size := ⟨_, rfl⟩
 have HS := Hh (And.intro hs2 hb0)
 rw [← hb0] at hB1 d0 d1 ⊢
 have ld : b0 < W2.heap.size := by omega
 clear hb0 hs2
 refine wp_region_schG (fun W => W.cell? ⟨b0, 0, none⟩ = some (.pointer (some ⟨g, 0, none⟩)) ∧ W.cell? ⟨b0, 1, none⟩ = some (.int .i64 e) ∧ b0 < W.heap.size ∧ P64.IntB W g n ∧ Within W2 W) 7 (.firm 1 (.firm 2 (.firm 4 (.firm 5 (.one 0 (.one 3 (.firm 6 (.one 7 .nil)))))))) kr kr ⟨d0, d1, ld, hI2, Within.refl _⟩ ?_
 rintro w0 ⟨p0, p1, pl, pI, hw0⟩
 try simp only [pu]
 iterate 4
  apply sch_firm rfl rfl wi
  ·intro wq hq
   have hcq := hq.cells
   clear hq
   go_simp
   rfl
  try simp only [pu]
 refine sch_one rfl rfl (fun K hK => ?_)
 refine wp_new_p64 rfl ?_
 intro z v1 hT1 hb1 hge
 have k1 : Within w0 v1 := (Within.refl w0).drew.trans hb1
 have kz : w0.heap.size ≤ z := hge
 refine hK _ _ (fun _ => wi) ?_
 clear hK K
 try simp only [pu]
 refine sch_one rfl rfl (fun K hK => ?_)
 go_simp
 refine (ST.out z _ hT1 (pI.of k1)).mono ?_; rintro e2 v2 ⟨rfl, hI3, hG3⟩
 have k2 : Within w0 v2 := Within.grown k1 hG3 kz
 refine hK _ _ (fun _ => wi) ?_
 clear hK K
 try simp only [pu]
 apply sch_firm rfl rfl wi
 ·intro wq hq
  have hcq := hq.cells
  clear hq
  go_simp
  rfl
 try simp only [pu]
 refine sch_one rfl rfl (fun K hK => ?_)
 go_simp
 refine hK _ _ ab ?_
 clear hK K
 try simp only [pu]
 refine sch_nil ?_
 have hwv := hw0.trans k2
 have hzz : W2.heap.size ≤ z := Nat.le_trans hw0.size kz
 have hB2 : v2.heap[b0 + 1]? = some (.cells #[.pointer none, .int .i64 0] 231 (0, 0)) := (hwv.block _ (by have := HS.out; omega)).trans hB1
 clear hB1 d0 d1 p0 p1 pl pI hT1 hb1 k1 hG3
 go_wp2
 go_loopw [4] (fun ev wr => HalRel v2 z n e ev wr) (fun ev _ => (e + K - intOf ev).toNat)
 case atStart => exact ⟨n, e, 0, rfl, by simp, by simp, fun _ => rfl, hI3, World.grownBy.refl _ _⟩
 case round =>
  obtain ⟨v, ec, t, rfl, hec, hn, htz, hI4, hG4⟩ := hrel
  have hBw : wr.heap[b0 + 1]? = some (.cells #[.pointer none, .int .i64 0] 231 (0, 0)) := (hG4.block (b0 + 1) (by have := HS.out; have := hwv.size; omega) (fun q => by injection q with q; have := HS.out; omega)).trans hB2
  have hww : Within w wr := Within.grown (hwN.trans hwv) hG4 (by have := HS.out; omega)
  have hvl : v.natAbs ≤ n.natAbs := by rw [hn, Int.natAbs_mul, Int.natAbs_pow]; exact Nat.le_mul_of_pos_right _ (Nat.two_pow_pos t)
  have hvK : v.natAbs < 2 ^ K := Nat.lt_of_le_of_lt hvl hK
  have hlv : (P64.dg v.natAbs).length ≤ 40000 := Nat.le_trans (P64.dg_len_mono hvl) hlK
  have SG := Hh (fun w h => P64.Psign z v w h)
  have BT := Hh (fun w h => P64.Pbit z v om w h)
  have HN := Hh hn; clear hn
  have OUT := Hh (fun (hv : (v = 0 ∧ t = 0) ∨ v.natAbs % 2 = 1) => (show Halved n e v ec from by
   rcases hv with ⟨h1, h2⟩ | h1
   ·left; subst h1 h2; exact ⟨by have := HN.out; simpa using this, rfl, by rw [hec]; simp⟩
   ·right; exact ⟨h1, t, HN.out, hec⟩))
  have FIN := Hh (P64.IntB.pair hI4 hBw dc dc (.pointer (some ⟨z, 0, none⟩)) (.int .i64 ec))
  obtain ⟨k0, k1', kf, kg, k2', r0, r1⟩ := pair_block hBw (.pointer (some ⟨z, 0, none⟩)) (.int .i64 ec)
  have kf0 := kf 0; have kf1 := kf 1; have kg1 := kg 1
  have HI4 := Hh hI4
  have RTN := Hh (show Within w ((wr.setCell ⟨b0 + 1, 0, none⟩ (.pointer (some ⟨z, 0, none⟩))).setCell ⟨b0 + 1, 1, none⟩ (.int .i64 ec)) from (hww.setCell (by have := HS.out; show w.heap.size ≤ b0 + 1; omega) _).setCell (by have := HS.out; show w.heap.size ≤ b0 + 1; omega) _)
  rcases Int.lt_trichotomy v 0 with hv0 | hv0 | hv0
  ·have sg : v.sign = -1 := Int.sign_eq_neg_one_of_neg hv0
   exact zz13
  ·subst hv0
   rw [show (0 : Int).sign = 0 from rfl] at SG
   have ht0 : t = 0 ∨ t ≠ 0 := by omega
   have O2 := Hh (show Halved n e 0 ec from by
    left; exact ⟨by have := HN.out; simpa using this, rfl, by rw [hec, htz rfl]; simp⟩)
   clear hec
   go_wp2_with fail
   refine (SG.out _ HI4.out).mono ?_; rintro e5 w5 ⟨rfl, rfl⟩
   go_wp2
   (try simp only [Exit.inBlock, Exit.then]); refine bodyPost_ret (v := .agg #[.pointer (some ⟨z, 0, none⟩), .int .i64 ec]) (by simp [results, Tryz.results257, go_sem, r0, r1]) rfl ?_
   exact ⟨0, ec, O2.out, z, rfl, FIN.out, by have := HS.out; omega, RTN.out⟩
  ·have sg : v.sign = 1 := Int.sign_eq_one_of_pos hv0
   exact zz13
end Go.Proofs.YtgkcpnidmfejeaaGreatDoor
section
namespace Go.Proofs.YtgkcpnidmfejeaaGreatDoor
open Go.RowKit
theorem tri_block {w : World} {z : Nat} {x y u : Value} {T : TypeId} (hb : w.heap[z]? = some (.cells #[x, y, u] T (0, 0))) (a b c : Value) :
 w.cell? ⟨z, 0, none⟩ = some x ∧ w.cell? ⟨z, 1, none⟩ = some y ∧ w.cell? ⟨z, 2, none⟩ = some u ∧ (∀ o, w.frozen? ⟨z, o, none⟩ = false) ∧ (∀ o, (w.setCell ⟨z, 0, none⟩ a).frozen? ⟨z, o, none⟩ = false) ∧ (w.setCell ⟨z, 0, none⟩ a).cell? ⟨z, 1, none⟩ = some y ∧
  (∀ o, ((w.setCell ⟨z, 0, none⟩ a).setCell ⟨z, 1, none⟩ b).frozen? ⟨z, o, none⟩ = false) ∧ ((w.setCell ⟨z, 0, none⟩ a).setCell ⟨z, 1, none⟩ b).cell? ⟨z, 2, none⟩ = some u ∧
  (((w.setCell ⟨z, 0, none⟩ a).setCell ⟨z, 1, none⟩ b).setCell ⟨z, 2, none⟩ c).heap[z]? = some (.cells #[a, b, c] T (0, 0)) := by
 have h1 : (w.setCell ⟨z, 0, none⟩ a).heap[z]? = some (.cells #[a, y, u] T (0, 0)) := by simp [World.setCell, Array.getElem?_modify, hb]
 have h2 : ((w.setCell ⟨z, 0, none⟩ a).setCell ⟨z, 1, none⟩ b).heap[z]? = some (.cells #[a, b, u] T (0, 0)) := by simp [World.setCell, Array.getElem?_modify, hb]
 have h3 : (((w.setCell ⟨z, 0, none⟩ a).setCell ⟨z, 1, none⟩ b).setCell ⟨z, 2, none⟩ c).heap[z]? = some (.cells #[a, b, c] T (0, 0)) := by simp [World.setCell, Array.getElem?_modify, hb]
 exact ⟨by unfold World.cell?; rw [hb]; rfl, by unfold World.cell?; rw [hb]; rfl, by unfold World.cell?; rw [hb]; rfl, fun o => by simp [World.frozen?, hb], fun o => by simp [World.frozen?, h1], by unfold World.cell?; rw [h1]; rfl, fun o => by simp [World.frozen?, h2], by unfold World.cell?; rw [h2]; rfl, h3⟩
theorem tri_cells {w : World} {z : Nat} {x y u : Value} {T : TypeId} (hb : w.heap[z]? = some (.cells #[x, y, u] T (0, 0))) : w.cell? ⟨z, 0, none⟩ = some x ∧ w.cell? ⟨z, 1, none⟩ = some y ∧ w.cell? ⟨z, 2, none⟩ = some u :=
 ⟨by unfold World.cell?; rw [hb]; rfl, by unfold World.cell?; rw [hb]; rfl, by unfold World.cell?; rw [hb]; rfl⟩
theorem pair_cells {w : World} {z : Nat} {x y : Value} {T : TypeId} (hb : w.heap[z]? = some (.cells #[x, y] T (0, 0))) : w.cell? ⟨z, 0, none⟩ = some x ∧ w.cell? ⟨z, 1, none⟩ = some y :=
 ⟨by unfold World.cell?; rw [hb]; rfl, by unfold World.cell?; rw [hb]; rfl⟩
theorem P64.RowAt.uniq {w : World} {A : Option Addr} {n m : Nat} (h : P64.RowAt w A (P64.dg n)) (g : P64.RowAt w A (P64.dg m)) (hl : (P64.dg n).length = (P64.dg m).length) : n = m := by
 refine P64.eq_of_all hl (fun j => ?_)
 by_cases hj : j < (P64.dg n).length
 ·obtain ⟨g1, rfl, _, c1⟩ := h.cell hj
  obtain ⟨g2, e2, _, c2⟩ := g.cell (i := j) om
  exact zz108
 ·rw [List.getD_eq_getElem?_getD, List.getD_eq_getElem?_getD, List.getElem?_eq_none om, List.getElem?_eq_none om]
theorem P64.IntB.uniq {w : World} {z : Nat} {u v : Int} (h : P64.IntB w z u) (g : P64.IntB w z v) : u.natAbs = v.natAbs := by
 obtain ⟨A, c, hb, _, hr⟩ := h
 obtain ⟨A', c', hb', _, hr'⟩ := g
 rw [hb] at hb'
 injection hb' with hb'
 injection hb' with hc _ _
 have e2 : Value.slice A (P64.dg u.natAbs).length c = Value.slice A' (P64.dg v.natAbs).length c' := by
  have := congrArg (fun a : Array Value => a[1]?) hc
  simpa using this
 simp only [Value.slice.injEq] at e2
 obtain ⟨rfl, hl, _⟩ := e2
 exact hr.uniq hr' hl
open Classical in
noncomputable def numOf (w : World) (z : Nat) : Nat := if h : ∃ v, P64.IntB w z v then (Classical.choose h).natAbs else 0
theorem numOf_eq {w : World} {z : Nat} {v : Int} (h : P64.IntB w z v) : numOf w z = v.natAbs := by
 have hex : ∃ v, P64.IntB w z v := ⟨v, h⟩
 unfold numOf
 rw [dif_pos hex]
 exact (Classical.choose_spec hex).uniq h
theorem dg32_digit (n k : Nat) : (dg n).getD k 0 = n / 4294967296 ^ k % 4294967296 := by
 have h1 := lo_succ (dg n) k
 have hk : ∀ j, lo (dg n) j = n % 4294967296 ^ j := by
  intro j
  have hs := wval_split (dg n) j
  rw [wval_dg] at hs
  have hl := lo_lt (dg n) (words_dg n) j
  have e : n % 4294967296 ^ j = (lo (dg n) j + 4294967296 ^ j * wval (List.drop j (dg n))) % 4294967296 ^ j := by rw [← hs]
  rw [e, Nat.add_mul_mod_self_left, Nat.mod_eq_of_lt hl]
 rw [hk, hk, mod_succ] at h1
 have hp : 0 < 4294967296 ^ k := Nat.pow_pos dc
 exact (Nat.eq_of_mul_eq_mul_left hp om).symm
theorem quo_zero_iff {n k : Nat} : n / 4294967296 ^ k = 0 ↔ (dg n).length ≤ k := by
 have hp : 0 < 4294967296 ^ k := Nat.pow_pos dc
 rw [Nat.div_eq_zero_iff]
 constructor
 ·rintro (h | h)
  ·omega
  ·exact dg_len_le h
 ·intro h
  right
  exact Nat.lt_of_lt_of_le (lt_of_dg n) (Nat.pow_le_pow_right dc h)
theorem and_low (v : Nat) : v &&& 4294967295 = v % 4294967296 := by
 rw [show (4294967295 : Nat) = 2 ^ 32 - 1 from rfl, Nat.and_two_pow_sub_one_eq_mod]
def PutP (W : World) (n e : Int) (r : Ending) (w' : World) : Prop := ∃ v n' e', r = .returned (.tuple #[v, .int .i64 0]) ∧ DyV w' v n' e' ∧ ((n' = 0 ∧ e' = 0 ∧ n = 0) ∨ (n'.natAbs % 2 = 1 ∧ Halved n e n' e')) ∧ Within W w'
theorem uv_one (l : List Nat) : ∀ u ∈ uv l, u.oneCell' = true := by
 intro u hu; unfold uv at hu; obtain ⟨x, _, rfl⟩ := List.mem_map.1 hu; rfl
theorem uv_len (l : List Nat) : (uv l).length = l.length := List.length_map _
theorem run_app_w32 (w : World) (base : Nat) (v : Value) (l : List Nat) (x : Nat) (hown : w.ownsRow base 153 1 v l.length (uv l)) (A : Option Addr) (c : Nat) (hr : SlAt w A (uv [x])) (hl : (l.length + 1) * 4 ≤ 140737488355328) (hbase : base ≤ w.heap.size) :
 ∃ v' w', (Builtin.append_ #[92, 92] 92 #[v, .slice A 1 c]).run Tryz.prog w = .ok v' w' ∧ w'.ownsRow base 153 1 v' (l.length + 1) (uv (l ++ [x])) ∧ w.grownBy w' v.ownBlock ∧ (v'.ownBlock = v.ownBlock ∨ v'.ownBlock = some w.heap.size) := by
 obtain ⟨i0, hi0, hz0, hz1, hz2⟩ := info_parts Tryz.infoW
 obtain ⟨v', w', h1, h2, h3, h5⟩ := run_app (P := Tryz.prog) w base 92 92 153 i0 (.int .u32 0) 4 kr hi0 hz0 hz1 hz2 rfl v l.length (uv l) hown A c (uv [x]) hr (uv_one [x]) (by rw [uv_len]; unfold maxLen; simp; omega) (by rw [uv_len]; simp; omega) hbase
 refine ⟨v', w', h1, ?_, h3, h5⟩
 unfold uv at h2 ⊢
 rw [List.map_append]; exact h2
end Go.Proofs.YtgkcpnidmfejeaaGreatDoor
end
namespace Go.Proofs.YtgkcpnidmfejeaaGreatDoor
open Go.RowKit
theorem wp_new_dy {o : Oper} {a : Act} {w : World} {K : Act → World → Prop} {Q : Exit → Act → World → Prop} (ho : o.op = .alloc 150)
 (h : ∀ z w', w'.heap[z]? = some (.cells #[.bool false, .slice none 0 0, .int .i64 0] 150 (0, 0)) → Within w w' → w.heap.size ≤ z → z < w'.heap.size → K (a.put o.dst (.pointer (some ⟨z, 0, none⟩))) w') : o.wp Tryz.prog a w K Q := by
 have h1 := h w.heap.size (w.alloc (.cells #[.bool false, .slice none 0 0, .int .i64 0] 150)) (heap_alloc_new w _) ((Within.refl w).alloc _) (Nat.le_refl _) (by simp)
 unfold Oper.wp execOp
 rw [ho]
 go_simp
 exact h1
theorem P64.IntB.row {w w' : World} {g : Nat} {v : Int} {Mv : Value} {base n : Nat} {xs : List Value} (h : P64.IntB w g v) (ho : w.ownsRow base 153 1 Mv n xs) (k : w.grownBy w' Mv.ownBlock) : P64.IntB w' g v := by
 rcases ho.2 with ⟨rfl, _⟩ | ⟨j, cap, cur, rfl, hb, hj, _⟩
 ·refine h.of ⟨k.os, k.tape, k.output, k.size, fun i hi => k.block i hi (by simp [Value.ownBlock])⟩
 ·refine h.kept (z := j) (int_ne h hj dc) (fun b m fn r => row_ne hj dc r) (fun b hb2 hl => k.block b hl (fun e => hb2 (by simpa [Value.ownBlock] using e)))
def PutL (W : World) (b1 bd z gm N : Nat) (ng : Bool) (e : Int) (base : Nat) (wr : World) : Prop := ∃ (k : Nat) (Mv : Value), k ≤ (dg N).length ∧ wr.heap[bd]? = some (.cells #[.bool ng, Mv, .int .i64 e] 150 (0, 0)) ∧ wr.heap[b1]? = some (.cells #[.bool false, .slice none 0 0, .int .i64 0] 150 (0, 0)) ∧
 wr.ownsRow base 153 1 Mv k (uv ((dg N).take k)) ∧ P64.IntB wr z ((N / 4294967296 ^ k : Nat) : Int) ∧ P64.IntB wr gm ((4294967295 : Nat) : Int) ∧ Within W wr ∧ base ≤ wr.heap.size
theorem take_snoc {l : List Nat} {k : Nat} (h : k < l.length) : l.take (k + 1) = l.take k ++ [l.getD k 0] := by
 rw [List.take_add_one, List.getD_eq_getElem?_getD, List.getElem?_eq_getElem h]; rfl
theorem Within.grow {w a b : World} {row : Option Nat} (h : Within w a) (k : a.grownBy b row) (hr : ∀ j, row = some j → w.heap.size ≤ j) : Within w b :=
 Below.grown h k h.size (fun j e => hr j e)
theorem step32 (N k : Nat) : N / 4294967296 ^ k / 2 ^ 32 = N / 4294967296 ^ (k + 1) := by
 rw [Nat.div_div_eq_div_mul]
 rfl
theorem halved_bound {n e n' e' : Int} {K : Nat} (h : Halved n e n' e') (h0 : n' ≠ 0) (hK : n.natAbs < 2 ^ K) : e ≤ e' ∧ e' ≤ e + K := by
 rcases h with ⟨_, h1, _⟩ | ⟨_, t, h1, h2⟩
 ·exact absurd h1 h0
 ·have hn : n ≠ 0 := fun g => by
   rw [g] at h1
   have h5 : (0 : Int) < 2 ^ t := Int.pow_pos dc
   rcases Int.mul_eq_zero.1 h1.symm with h3 | h3
   ·exact h0 h3
   ·omega
  have := pow_lt_of h1 hn hK
  omega
theorem row32_neq {w : World} {z b m : Nat} {fn : Nat → Value} {cs : Array Value} {T : TypeId} (hz : w.heap[z]? = some (.cells cs T (0, 0))) (hT : T ≠ 153) (k : w.rowIs b 153 m fn) : b ≠ z := by
 rintro rfl
 obtain ⟨c, hb, _⟩ := k
 exact zz99
theorem zz41 {p : Prop} (h : p := by
 refine sch_one rfl rfl (fun K hK => ?_)
 obtain ⟨m0, m1, m2, mf, mg, m3, mh, m4, hM⟩ := tri_block hz7 (.bool ng) (.slice none 0 0) (.int .i64 e')
 have mf0 := mf 0; have mf1 := mf 1; have mf2 := mf 2; have mg1 := mg 1; have mg2 := mg 2; have mh2 := mh 2
 have HM := Hh hM; clear hM
 go_simp
 refine hK _ _ ab ?_
 clear hK K
 try simp only [pu]
 refine sch_nil ?_
 go_wp2_with fail
 go_meet
 exact ⟨⟨bd, rfl, HM.out, Nat.le_trans hw0.size hge7⟩, hw0.trans (((hv7.setCell (p := ⟨bd, 0, none⟩) hge7 _).setCell (p := ⟨bd, 1, none⟩) hge7 _).setCell (p := ⟨bd, 2, none⟩) hge7 _)⟩) : p := h
theorem zz50 {p : Prop} (h : p := by
 intro wq hq
 have hcq : ∀ b o, b < w6.heap.size → wq.cell? ⟨b, o, none⟩ = w0.cell? ⟨b, o, none⟩ := fun b o hb => hq.cell (p := ⟨b, o, none⟩) hb
 clear hq
 go_simp
 rfl) : p := h
theorem Dput (n e : Int) (g K : Nat) (hK : n.natAbs < 2 ^ K) (hK2 : K ≤ 20000) (he : -50000 ≤ e ∧ e ≤ 50000) (w : World) (hT : Tab w) (hI : P64.IntB w g n) : Calls Tryz.prog 172 #[.agg #[.pointer (some ⟨g, 0, none⟩), .int .i64 e]] w (PutP w n e) := by
 have HT := Hh hT; clear hT
 have hB1 : ((w.alloc (.cells #[.pointer (some ⟨g, 0, none⟩), .int .i64 e] 231)).alloc (.cells #[.bool false, .slice none 0 0, .int .i64 0] 150)).heap[w.heap.size + 1]? = some (.cells #[.bool false, .slice none 0 0, .int .i64 0] 150 (0, 0)) := by
  have := heap_alloc_new (w.alloc (.cells #[.pointer (some ⟨g, 0, none⟩), .int .i64 e] 231)) (.cells #[.bool false, .slice none 0 0, .int .i64 0] 150)
  exact zz96
 have hB0 : ((w.alloc (.cells #[.pointer (some ⟨g, 0, none⟩), .int .i64 e] 231)).alloc (.cells #[.bool false, .slice none 0 0, .int .i64 0] 150)).heap[w.heap.size]? = some (.cells #[.pointer (some ⟨g, 0, none⟩), .int .i64 e] 231 (0, 0)) := by
  have := heap_alloc_new w (.cells #[.pointer (some ⟨g, 0, none⟩), .int .i64 e] 231)
  have k1 : Within (w.alloc (.cells #[.pointer (some ⟨g, 0, none⟩), .int .i64 e] 231)) ((w.alloc (.cells #[.pointer (some ⟨g, 0, none⟩), .int .i64 e] 231)).alloc (.cells #[.bool false, .slice none 0 0, .int .i64 0] 150)) := (Within.refl _).alloc _
  exact (k1.block _ (by simp)).trans this
 have hwN : Within w ((w.alloc (.cells #[.pointer (some ⟨g, 0, none⟩), .int .i64 e] 231)).alloc (.cells #[.bool false, .slice none 0 0, .int .i64 0] 150)) := ((Within.refl w).alloc _).alloc _
 have hI2 := hI.of hwN
 have HL := Hh (fun w hT hI => Dhalve n e g K hK om om w hT hI)
 go_enter Tryz.func172, Tryz.ntmps172
 go_upto_region 1 with fail
 obtain ⟨W2, hW2⟩ : ∃ W2, W2 = ((w.alloc (.cells #[.pointer (some ⟨g, 0, none⟩), .int .i64 e] 231)).alloc (.cells #[.bool false, .slice none 0 0, .int .i64 0] 150)) := ⟨_, rfl⟩
 have hs2 : W2.heap.size = w.heap.size + 2 := by rw [hW2]; simp
 rw [← hW2] at hB0 hB1 hwN hI2 ⊢
 clear hW2
 obtain ⟨b0, hb0⟩ : ∃ b, b = w.heap.size := ⟨_, rfl⟩
 have HS := Hh (And.intro hs2 hb0)
 rw [← hb0] at hB0 hB1 ⊢
 clear hb0 hs2
 obtain ⟨q0, q1⟩ := pair_cells hB0
 go_wp2_with fail
 refine (HL.out _ (HT.out.of hwN) hI2).mono ?_; rintro r1 w1 ⟨n', e', hH, g', rfl, hI1, hg1, hb1⟩
 have hB01 := (hb1.block b0 (by have := HS.out; omega)).trans hB0
 have hB11 := (hb1.block (b0 + 1) (by have := HS.out; omega)).trans hB1
 have hw1 := hwN.trans hb1
 have hs1 := hb1.size
 obtain ⟨k0, k1, kf, kg, k2, r0, r1⟩ := pair_block hB01 (.pointer (some ⟨g', 0, none⟩)) (.int .i64 e')
 have kf0 := kf 0; have kf1 := kf 1; have kg1 := kg 1
 have hIA := P64.IntB.pair hI1 hB01 dc dc (.pointer (some ⟨g', 0, none⟩)) (.int .i64 e')
 have hWA : Within w ((w1.setCell ⟨b0, 0, none⟩ (.pointer (some ⟨g', 0, none⟩))).setCell ⟨b0, 1, none⟩ (.int .i64 e')) := (hw1.setCell (by have := HS.out; show w.heap.size ≤ b0; omega) _).setCell (by have := HS.out; show w.heap.size ≤ b0; omega) _
 have hB1A : ((w1.setCell ⟨b0, 0, none⟩ (.pointer (some ⟨g', 0, none⟩))).setCell ⟨b0, 1, none⟩ (.int .i64 e')).heap[b0 + 1]? = some (.cells #[.bool false, .slice none 0 0, .int .i64 0] 150 (0, 0)) := by rw [Below.heap_setCell _ _ _ _ (show b0 + 1 ≠ b0 by omega), Below.heap_setCell _ _ _ _ (show b0 + 1 ≠ b0 by omega)]; exact hB11
 have hsA : ((w1.setCell ⟨b0, 0, none⟩ (.pointer (some ⟨g', 0, none⟩))).setCell ⟨b0, 1, none⟩ (.int .i64 e')).heap.size = w1.heap.size := by simp [World.setCell]
 have HH := Hh hH; clear hH
 have SG := Hh (fun w h => P64.Psign g' n' w h)
 obtain ⟨s, hs⟩ : ∃ s, s = n'.sign := ⟨_, rfl⟩
 rw [← hs] at SG
 have HSS := Hh hs; clear hs
 go_wp2_with fail
 obtain ⟨WA, hWAe⟩ : ∃ WA, WA = (w1.setCell ⟨b0, 0, none⟩ (.pointer (some ⟨g', 0, none⟩))).setCell ⟨b0, 1, none⟩ (.int .i64 e') := ⟨_, rfl⟩
 rw [← hWAe] at hIA hWA hB1A hsA r0 r1 ⊢
 clear hWAe k0 k1 kf kg k2 kf0 kf1 kg1 hB01 hB11 hI1 hB0 hB1 q0 q1 hI2
 refine (SG.out _ hIA).mono ?_; rintro r2 w2 ⟨rfl, rfl⟩
 by_cases h0 : n' = 0
 ·have ds : (s == 0) = true := by rw [HSS.out, h0]; rfl
  have hn : n = 0 := by
   rcases HH.out with ⟨h1, _, _⟩ | ⟨h1, _⟩
   ·exact h1
   ·rw [h0] at h1; simp at h1
  have HN := Hh hn; clear hn h0 HSS
  obtain ⟨m0, m1, m2, mf, mg, m3, mh, m4, hM⟩ := tri_block hB1A (.bool false) (.slice none 0 0) (.int .i64 0)
  have mf0 := mf 0; have mf1 := mf 1; have mf2 := mf 2; have mg1 := mg 1; have mg2 := mg 2; have mh2 := mh 2
  obtain ⟨z0, z1, z2⟩ := tri_cells hM
  have HM := Hh hM; clear hM
  have hwE : Within w (((WA.setCell ⟨b0 + 1, 0, none⟩ (.bool false)).setCell ⟨b0 + 1, 1, none⟩ (.slice none 0 0)).setCell ⟨b0 + 1, 2, none⟩ (.int .i64 0)) := ((hWA.setCell (by have := HS.out; show w.heap.size ≤ b0 + 1; omega) _).setCell (by have := HS.out; show w.heap.size ≤ b0 + 1; omega) _).setCell (by have := HS.out; show w.heap.size ≤ b0 + 1; omega) _
  go_wp2
  (try simp only [Exit.inBlock, Exit.then]); refine bodyPost_ret (v := .tuple #[.agg #[.bool false, .slice none 0 0, .int .i64 0], .int .i64 0]) (by simp [results, Tryz.results172, go_sem, z0, z1, z2]) rfl ?_
  exact ⟨_, 0, 0, rfl, ⟨none, 0, by rw [show (dg (0 : Int).natAbs) = [] from dg_zero]; rfl, by rw [show (dg (0 : Int).natAbs) = [] from dg_zero]; exact Nat.le_refl _, by rw [show (dg (0 : Int).natAbs) = [] from dg_zero]; exact RowAt.nil⟩, .inl ⟨rfl, rfl, HN.out⟩, hwE⟩
 ·have ds : (s == 0) = false := by rw [HSS.out, beq_eq_false_iff_ne]; intro h; exact h0 (Int.sign_eq_zero_iff_zero.1 h)
  have hbd := halved_bound HH.out h0 hK
  have hle := HH.out.le
  have hK' : n'.natAbs < 2 ^ K := Nat.lt_of_le_of_lt hle hK
  have hl64 : (P64.dg n'.natAbs).length ≤ 20000 := Nat.le_trans (dg64_small (Nat.lt_of_lt_of_le hK' (Nat.pow_le_pow_right dc (show K ≤ 64 * K by omega)))) om
  have hl32 : (dg n'.natAbs).length ≤ 20000 := Nat.le_trans (dg32_small (Nat.lt_of_lt_of_le hK' (Nat.pow_le_pow_right dc (show K ≤ 32 * K by omega)))) om
  have hbl := blen_up hK'
  have BLN := Hh (fun w h => P64.Pbitlen g' n' om w h)
  obtain ⟨bn, hbn⟩ : ∃ b, b = blen n'.natAbs := ⟨_, rfl⟩
  rw [← hbn] at BLN hbl
  clear hbn
  have d1 : decide ((bn : Int) > 65536) = false := decide_eq_false om
  have d2 : decide (e' > 100000) = false := decide_eq_false om
  have d3 : decide (e' < -100000) = false := decide_eq_false om
  have d1n : ¬ 65536 < bn := by omega
  obtain ⟨ng, hng⟩ : ∃ b, decide (s < 0) = b := ⟨_, rfl⟩
  have hng2 : decide (n' < 0) = ng := by rw [← hng, HSS.out]; exact decide_eq_decide.2 Int.sign_neg_iff.symm
  have AB := Hh (fun (z : Nat) w hz hx => P64.Pabs z g' n' om w hz hx)
  have MK := Hh (fun w => P64.PnewInt 4294967295 dc w)
  obtain ⟨N, hN⟩ : ∃ N, N = n'.natAbs := ⟨_, rfl⟩
  rw [← hN] at AB hl64 hl32
  have HNN := Hh (And.intro hN hng2)
  have HL2 := Hh (And.intro hl64 hl32)
  have H0 := Hh h0
  clear hN hng2 hle hK' hl64 hl32 hbl h0 HSS hbd
  go_wp2_with fail
  refine (BLN.out _ hIA).mono ?_; rintro r3 w3 ⟨rfl, rfl⟩
  have lb0 : b0 < WA.heap.size := by have := HS.out; omega
  go_upto_region 6 with fail
  go_cut [4] (fun dv wx => (∃ bd, dv = .pointer (some ⟨bd, 0, none⟩) ∧ wx.heap[bd]? = some (.cells #[.bool ng, .slice none 0 0, .int .i64 e'] 150 (0, 0)) ∧ WA.heap.size ≤ bd) ∧ Within WA wx)
  case first =>
   refine wp_region_schG (fun W => W.cell? ⟨b0, 0, none⟩ = some (.pointer (some ⟨g', 0, none⟩)) ∧ W.cell? ⟨b0, 1, none⟩ = some (.int .i64 e') ∧ b0 < W.heap.size ∧ P64.IntB W g' n' ∧ Within WA W) 8 (.firm 0 (.firm 1 (.firm 4 (.firm 5 (.two 2 (.firm 3 (.firm 6 (.one 7 (.one 8 .nil)))) 7 (.one 2 (.firm 3 (.firm 6 (.one 8 .nil))))))))) kr kr ⟨r0, r1, lb0, hIA, Within.refl _⟩ ?_
   rintro w0 ⟨p0, p1, pl, pI, hw0⟩
   try simp only [pu]
   iterate 4
    apply sch_firm rfl rfl wi
    ·intro wq hq
     have hcq := hq.cells
     clear hq
     go_simp
     rfl
    try simp only [pu]
   refine sch_two rfl rfl rfl rfl (fun K hK => ?_) (fun K hK => ?_)
   ·go_simp
    refine (SG.out _ (pI.of (by first | exact (Within.refl _).drew | exact hv7))).mono ?_; rintro r4 w4 ⟨rfl, rfl⟩
    refine hK _ _ wi ?_
    clear hK K
    try simp only [pu]
    iterate 2
     apply sch_firm rfl rfl wi
     ·intro wq hq
      have hcq := hq.cells
      clear hq
      go_simp
      rfl
     try simp only [pu]
    refine sch_one rfl rfl (fun K hK => ?_)
    refine wp_new_dy rfl ?_
    intro bd v7 hz7 hb7 hge7 hlt7
    have hv7 : Within w0 v7 := (Within.refl w0).drew.trans hb7
    refine hK _ _ (fun _ => wi) ?_
    clear hK K
    try simp only [pu]
    exact zz41
   ·refine wp_new_dy rfl ?_
    intro bd v7 hz7 hb7 hge7 hlt7
    have hv7 : Within w0 v7 := (Within.refl w0).drew.trans hb7
    refine hK _ _ wi ?_
    clear hK K
    try simp only [pu]
    refine sch_one rfl rfl (fun K hK => ?_)
    go_simp
    refine (SG.out _ (pI.of (by first | exact (Within.refl _).drew | exact hv7))).mono ?_; rintro r4 w4 ⟨rfl, rfl⟩
    refine hK _ _ (fun _ => wi) ?_
    clear hK K
    try simp only [pu]
    iterate 2
     apply sch_firm rfl rfl wi
     ·intro wq hq
      have hcq := hq.cells
      clear hq
      go_simp
      rfl
     try simp only [pu]
    exact zz41
  case rest =>
   obtain ⟨⟨bd, rfl, hBD, hbd⟩, hwx⟩ := hcut
   have hB1c := (hwx.block (b0 + 1) (by have := HS.out; omega)).trans hB1A
   have p0 := (hwx.cells _ _ lb0).trans r0
   have hIc := hIA.of hwx
   have hwc := hWA.trans hwx
   have lbd : bd < wc.heap.size := (Array.getElem?_eq_some_iff.1 hBD).1
   have lb0c : b0 < wc.heap.size := Nat.lt_of_lt_of_le lb0 hwx.size
   clear r0 r1 hIA hB1A
   go_wp2_with fail
   refine (MK.out _).mono ?_; rintro r5 w5 ⟨gm, rfl, hIm, hgm, hb5⟩
   have p05 := (hb5.cells _ _ lb0c).trans p0
   have hI5 := hIc.of hb5
   have hTz : P64.IntTy (w5.alloc (.cells #[.bool false, .slice none 0 0] 229)) w5.heap.size := (P64.IntB.made w5).ty
   have ha6 : Within w5 (w5.alloc (.cells #[.bool false, .slice none 0 0] 229)) := (Within.refl _).alloc _
   have p06 := (ha6.cells _ _ (Nat.lt_of_lt_of_le lb0c hb5.size)).trans p05
   go_wp2_with fail
   refine (AB.out w5.heap.size _ hTz (hI5.of ha6)).mono ?_; rintro r6 w6 ⟨rfl, hIz, hGz⟩
   have hb56 : Within w5 w6 := Within.grown ha6 hGz (Nat.le_refl _)
   have hbc6 := hb5.trans hb56
   have hw6 := hwc.trans hbc6
   have hBD6 := (hbc6.block bd lbd).trans hBD
   have hB16 := (hbc6.block (b0 + 1) (by have := HS.out; have := hwx.size; omega)).trans hB1c
   have hIm6 := hIm.of hb56
   obtain ⟨z, hz⟩ : ∃ z, z = w5.heap.size := ⟨_, rfl⟩
   have lz := hIz.lt
   have lgm := hIm.lt
   have hs56 := hb56.size
   have hs5 := hb5.size
   rw [← hz] at hIz lz ⊢
   have HZ := Hh (show gm < w6.heap.size ∧ z < w6.heap.size ∧ bd < w6.heap.size ∧ b0 + 1 < w6.heap.size ∧ gm < z ∧ bd < z ∧ w.heap.size ≤ bd by have := HS.out; have := hwx.size; omega)
   clear hz hGz hTz ha6 hI5 p05 p06 p0 hIc hBD hB1c hb56 hbc6 hb5 hIm lz lgm hs56 hs5 hgm
   go_wp2
   go_loopw [] (fun wr => PutL w (b0 + 1) bd z gm N ng e' w6.heap.size wr) (fun wr => numOf wr z)
   case atStart => exact ⟨0, .slice none 0 0, Nat.zero_le _, hBD6, hB16, World.ownsRow_nil _ _ _ _, by rw [Nat.pow_zero, Nat.div_one]; exact hIz, hIm6, hw6, Nat.le_refl _⟩
   case round =>
    obtain ⟨k, Mv, hk, hBDr, hB1r, hown, hIzr, hImr, hwr, hsr⟩ := hrel
    have hqz := quo_zero_iff (n := N) (k := k)
    have hstep := step32 N k
    have hdig := dg32_digit N k
    have hvN : N / 4294967296 ^ k ≤ N := Nat.div_le_self _ _
    obtain ⟨v, hv⟩ : ∃ v, v = N / 4294967296 ^ k := ⟨_, rfl⟩
    rw [← hv] at hIzr hqz hstep hdig hvN
    have HV := Hh (And.intro hv (And.intro hstep hdig)); clear hv hstep hdig
    have hlv : (P64.dg v).length ≤ 20000 := Nat.le_trans (P64.dg_len_mono hvN) HL2.out.1
    have SGz := Hh (fun w h => P64.Psign z (v : Int) w h)
    obtain ⟨c0, c1, c2⟩ := tri_cells hBDr
    by_cases hv0 : v = 0
    ·subst hv0
     rw [show (((0 : Nat) : Int)).sign = 0 from rfl] at SGz
     have hkL : k = (dg N).length := by have := hqz.1 rfl; omega
     subst hkL
     rw [List.take_length] at hown
     obtain ⟨A, cA, hMv, hcA, hrA⟩ := rowAt_of_owns hown
     subst hMv
     have HRA := Hh (And.intro hcA hrA); clear hcA hrA hown hqz hvN hlv
     obtain ⟨m0, m1, m2, mf, mg, m3, mh, m4, hM⟩ := tri_block hB1r (.bool ng) (.slice A (dg N).length cA) (.int .i64 e')
     have mf0 := mf 0; have mf1 := mf 1; have mf2 := mf 2; have mg1 := mg 1; have mg2 := mg 2; have mh2 := mh 2
     obtain ⟨z0, z1, z2⟩ := tri_cells hM
     have hne : ∀ b m fn, wr.rowIs b 153 m fn → b ≠ b0 + 1 := fun b m fn r => row32_neq hB1r dc r
     have hRE := Hh (RowAt.of_block HRA.out.2 (w' := ((wr.setCell ⟨b0 + 1, 0, none⟩ (.bool ng)).setCell ⟨b0 + 1, 1, none⟩ (.slice A (dg N).length cA)).setCell ⟨b0 + 1, 2, none⟩ (.int .i64 e')) fun b m fn r => by rw [Below.heap_setCell _ _ _ _ (hne b m fn r), Below.heap_setCell _ _ _ _ (hne b m fn r), Below.heap_setCell _ _ _ _ (hne b m fn r)])
     have hwE := Hh (((hwr.setCell (by have := HS.out; show w.heap.size ≤ b0 + 1; omega) (p := ⟨b0 + 1, 0, none⟩) (.bool ng)).setCell (by have := HS.out; show w.heap.size ≤ b0 + 1; omega) (p := ⟨b0 + 1, 1, none⟩) (.slice A (dg N).length cA)).setCell (by have := HS.out; show w.heap.size ≤ b0 + 1; omega) (p := ⟨b0 + 1, 2, none⟩) (.int .i64 e'))
     have HIZ := Hh hIzr
     clear hM hne
     go_wp2_with fail
     refine (SGz.out _ HIZ.out).mono ?_; rintro r7 w7 ⟨rfl, rfl⟩
     go_wp2
     (try simp only [Exit.inBlock, Exit.then]); refine bodyPost_ret (v := .tuple #[.agg #[.bool ng, .slice A (dg N).length cA, .int .i64 e'], .int .i64 0]) (by simp [results, Tryz.results172, go_sem, z0, z1, z2]) rfl ?_
     refine ⟨_, n', e', rfl, ⟨A, cA, by rw [HNN.out.2, ← HNN.out.1], by rw [← HNN.out.1]; exact HRA.out.1, by rw [← HNN.out.1]; exact hRE.out⟩, .inr ⟨?_, HH.out⟩, hwE.out⟩
     rcases HH.out with ⟨_, h1, _⟩ | ⟨h1, _⟩
     ·exact absurd h1 H0.out
     ·exact h1
    ·rw [show ((v : Nat) : Int).sign = 1 from Int.sign_eq_one_of_pos om] at SGz
     have hkl : k < (dg N).length := by
      rcases Nat.lt_or_ge k (dg N).length with h | h
      ·exact h
      ·exact absurd (hqz.2 h) hv0
     have htk : ((dg N).take k).length = k := by rw [List.length_take]; omega
     have hts := take_snoc (l := dg N) hkl
     rw [HV.out.2.2] at hts
     obtain ⟨x, hx⟩ : ∃ x, x = v % 4294967296 := ⟨_, rfl⟩
     have hx32 : x < 4294967296 := by rw [hx]; exact Nat.mod_lt _ dc
     rw [← hx] at hts
     have PN := Hh (fun (t : Nat) w hz hx hy => P64.Pand t z gm v 4294967295 (min (P64.dg v).length (P64.dg 4294967295).length) rfl om (Nat.le_trans (P64.dg_len_le (k := 1) dc) dc) w hz hx hy)
     rw [and_low, ← hx] at PN
     have UI := Hh (fun (t : Nat) w h => P64.Puint64 t (x : Int) (by rw [Int.natAbs_natCast]; exact Nat.le_trans (P64.dg_len_le (k := 1) om) dc) w h)
     rw [Int.natAbs_natCast, Nat.mod_eq_of_lt (show x < 18446744073709551616 by omega)] at UI
     have RS := Hh (fun w h => P64.Prsh z z 32 (v : Int) (by rw [Int.natAbs_natCast]; omega) dc (.inl om) w (P64.IntB.ty h) h)
     rw [show (v : Int) / 2 ^ 32 = ((v / 2 ^ 32 : Nat) : Int) by rw [Int.natCast_ediv]; rfl] at RS
     have wx32 : IntKind.u32.wrap (x : Int) = (x : Int) := by rw [IntKind.wrap_u32]; omega
     have hlt2 : v / 2 ^ 32 < v := Nat.div_lt_self om dc
     have HTS := Hh hts; have HTK := Hh htk; have HKL := Hh hkl; have HLT := Hh hlt2; have HOWN := Hh hown; have HIZ := Hh hIzr; have HIM := Hh hImr
     have HL4 := Hh (show (k + 1) * 4 ≤ 140737488355328 by have := HL2.out.2; omega)
     clear hts htk hkl hlt2 hown hIzr hImr hqz hvN hlv hx hv0
     have lbb : bd < w6.heap.size := HZ.out.2.2.1
     have lbr : bd < wr.heap.size := by have := HZ.out; omega
     have hbs := hsr
     go_wp2_with fail
     refine (SGz.out _ HIZ.out).mono ?_; rintro r7 w7 ⟨rfl, rfl⟩
     go_upto_region 11 with fail
     refine wp_region_schB (w6.heap.size) (fun W => W.cell? ⟨bd, 1, none⟩ = some Mv ∧ bd < W.heap.size ∧ Within wr W) 11 (.firm 0 (.firm 1 (.firm 3 (.firm 4 (.one 2 (.one 5 (.one 6 (.firm 7 (.one 8 (.one 9 (.firm 10 (.one 11 .nil)))))))))))) kr kr ⟨c1, lbr, Within.refl _⟩ ?_
     rintro w0 ⟨p1, pb, hw0⟩
     try simp only [pu]
     iterate 4
      apply sch_firm rfl rfl bi
      ·exact zz50
      try simp only [pu]
     refine sch_one rfl rfl (fun K hK => ?_)
     refine wp_new_p64 rfl ?_
     intro t v1 hT1 hb1 hge1
     have hv1 : Within wr v1 := hw0.drew.trans hb1
     have hv1' : Within w0 v1 := (Within.refl w0).drew.trans hb1
     have hb0s : w6.heap.size ≤ w0.heap.size := Nat.le_trans hbs hw0.size
     have hbl1 : Below w6.heap.size w0 v1 := Below.mono hv1' hb0s
     refine hK _ _ (fun _ => bi) ?_
     clear hK K
     try simp only [pu]
     refine sch_one rfl rfl (fun K hK => ?_)
     go_simp
     refine (PN.out t _ hT1 (HIZ.out.of hv1) (HIM.out.of hv1)).mono ?_; rintro r8 v2 ⟨rfl, hI2, hG2⟩
     have hv2 : Within wr v2 := Within.grown hv1 hG2 (Nat.le_trans hw0.size hge1)
     have hv2' : Within w0 v2 := Within.grown hv1' hG2 hge1
     have hbl2 : Below w6.heap.size w0 v2 := Below.mono hv2' hb0s
     have hbs2 : w6.heap.size ≤ v2.heap.size := Nat.le_trans hb0s hv2'.size
     refine hK _ _ (fun _ => bi) ?_
     clear hK K
     try simp only [pu]
     refine sch_one rfl rfl (fun K hK => ?_)
     go_simp
     refine (UI.out t _ hI2).mono ?_; rintro r9 w9 ⟨rfl, rfl⟩
     refine hK _ _ (fun _ => bi) ?_
     clear hK K
     try simp only [pu]
     apply sch_firm rfl rfl bi
     ·exact zz50
     try simp only [pu]
     refine sch_one rfl rfl (fun K hK => ?_)
     go_simp
     refine hK _ _ (fun _ => bi) ?_
     clear hK K
     try simp only [pu]
     refine sch_one rfl rfl (fun K hK => ?_)
     have hv3 : Within wr (v2.alloc (.cells #[.int .u32 (x : Int)] 153)) := hv2.alloc _
     obtain ⟨v', w', hrun, hO', hG', hE'⟩ := run_app_w32 (v2.alloc (.cells #[.int .u32 (x : Int)] 153)) w6.heap.size Mv ((dg N).take k) x (by rw [HTK.out]; exact HOWN.out.kept (within_grown hv3) (by cases hv : Mv.ownBlock <;> simp)) (some ⟨v2.heap.size, 0, none⟩) 1 (SlAt.one v2 _ _) (by rw [HTK.out]; exact HL4.out) (Nat.le_trans hbs hv3.size)
     rw [HTK.out] at hO'
     obtain ⟨A5, c5, rfl, _, _, _⟩ := owns_form hO'
     have hbl3 : Below w6.heap.size w0 w' := (hbl2.alloc hbs2 _).trans (grown_below (HOWN.out.kept (within_grown hv3) (by cases hv : Mv.ownBlock <;> simp)) (Nat.le_trans hbs hv3.size) hG')
     have HO2 := Hh hO'; have HG2 := Hh hG'; have HV3 := Hh hv3; clear hO' hG' hE' hv3
     refine op_append_run (.tmp 48) (.tmp 55) 92 rfl _ _ rfl rfl hrun ?_
     clear hrun
     have nown : ∀ b, b < w6.heap.size → some b ≠ Mv.ownBlock := fun b hb e => by have := (HOWN.out.lt b e.symm).1; omega
     have hBD3 : w'.heap[bd]? = some (.cells #[.bool ng, Mv, .int .i64 e'] 150 (0, 0)) := (HG2.out.block bd (Nat.lt_of_lt_of_le lbr HV3.out.size) (nown bd HZ.out.2.2.1)).trans ((HV3.out.block bd lbr).trans hBDr)
     obtain ⟨e0, e1, e2⟩ := tri_cells hBD3
     have ef : w'.frozen? ⟨bd, 1, none⟩ = false := by simp [World.frozen?, hBD3]
     refine hK _ _ (fun _ => bi) ?_
     clear hK K
     try simp only [pu]
     apply sch_firm rfl rfl bi
     ·exact zz50
     try simp only [pu]
     refine sch_one rfl rfl (fun K hK => ?_)
     go_simp
     refine hK _ _ ab ?_
     clear hK K
     try simp only [pu]
     refine sch_nil ?_
     have hB13 : w'.heap[b0 + 1]? = some (.cells #[.bool false, .slice none 0 0, .int .i64 0] 150 (0, 0)) := (HG2.out.block (b0 + 1) (by have := HZ.out; have := HV3.out.size; omega) (nown (b0 + 1) HZ.out.2.2.2.1)).trans ((HV3.out.block (b0 + 1) (by have := HZ.out; omega)).trans hB1r)
     have hO3 : w'.ownsRow w6.heap.size 153 1 (.slice A5 (k + 1) c5) (k + 1) (uv ((dg N).take (k + 1))) := by rw [HTS.out]; exact HO2.out
     have hIz3 := P64.IntB.row (HIZ.out.of HV3.out) (HOWN.out.kept (within_grown HV3.out) (by cases hv : Mv.ownBlock <;> simp)) HG2.out
     have hIm3 := P64.IntB.row (HIM.out.of HV3.out) (HOWN.out.kept (within_grown HV3.out) (by cases hv : Mv.ownBlock <;> simp)) HG2.out
     have hw3 : Within w w' := Within.grow (hwr.trans HV3.out) HG2.out (fun b e => Nat.le_trans hw6.size (HOWN.out.lt b e).1)
     have hs3 : w6.heap.size ≤ w'.heap.size := Nat.le_trans hbs (Nat.le_trans HV3.out.size HG2.out.size)
     have hBD4 : (w'.setCell ⟨bd, 1, none⟩ (.slice A5 (k + 1) c5)).heap[bd]? = some (.cells #[.bool ng, .slice A5 (k + 1) c5, .int .i64 e'] 150 (0, 0)) := by simp [World.setCell, Array.getElem?_modify, hBD3]
     have hB14 : (w'.setCell ⟨bd, 1, none⟩ (.slice A5 (k + 1) c5)).heap[b0 + 1]? = some (.cells #[.bool false, .slice none 0 0, .int .i64 0] 150 (0, 0)) := by rw [Below.heap_setCell _ _ _ _ (show b0 + 1 ≠ bd by have := HS.out; have := hwx.size; omega)]; exact hB13
     have hO4 : (w'.setCell ⟨bd, 1, none⟩ (.slice A5 (k + 1) c5)).ownsRow w6.heap.size 153 1 (.slice A5 (k + 1) c5) (k + 1) (uv ((dg N).take (k + 1))) := ownsRow_setCell_below hO3 (show bd < w6.heap.size from HZ.out.2.2.1) _
     have hIz4 : P64.IntB (w'.setCell ⟨bd, 1, none⟩ (.slice A5 (k + 1) c5)) z (v : Int) := hIz3.kept (z := bd) (by have := HZ.out; omega) (fun b m fn r => row_ne hBD3 dc r) (fun b hb _ => Below.heap_setCell _ _ _ _ hb)
     have hIm4 : P64.IntB (w'.setCell ⟨bd, 1, none⟩ (.slice A5 (k + 1) c5)) gm ((4294967295 : Nat) : Int) := hIm3.kept (z := bd) (int_ne hIm3 hBD3 dc) (fun b m fn r => row_ne hBD3 dc r) (fun b hb _ => Below.heap_setCell _ _ _ _ hb)
     have hw4 : Within w (w'.setCell ⟨bd, 1, none⟩ (.slice A5 (k + 1) c5)) := hw3.setCell (show w.heap.size ≤ bd from HZ.out.2.2.2.2.2.2) _
     have hs4 : w6.heap.size ≤ (w'.setCell ⟨bd, 1, none⟩ (.slice A5 (k + 1) c5)).heap.size := by simpa [World.setCell] using hs3
     clear hBD3 hB13 hO3 hIz3 hIm3 hw3 hs3 e0 e1 e2 ef HO2 HG2 HV3
     have HIZ4 := Hh hIz4; have HIM4 := Hh hIm4; have HO4 := Hh hO4; clear hIz4 hIm4 hO4
     go_wp2_with fail
     generalize w'.setCell ⟨bd, 1, none⟩ (.slice A5 (k + 1) c5) = w4' at *
     refine (RS.out _ HIZ4.out).mono ?_; rintro r10 w10 ⟨rfl, hI10, hG10⟩
     have HI10 := Hh hI10; have HG10 := Hh hG10; clear hI10 hG10
     go_wp2
     go_roundw
     case rel => exact ⟨k + 1, .slice A5 (k + 1) c5, HKL.out, (HG10.out.block bd (by have := HZ.out; omega) (fun q => by injection q with q; have := HZ.out; omega)).trans hBD4, (HG10.out.block (b0 + 1) (by have := HZ.out; omega) (fun q => by injection q with q; have := HZ.out; have := HS.out; have := hwx.size; omega)).trans hB14, HO4.out.kept HG10.out (.inr (fun q => by have := (HO4.out.lt z q).1; have := HZ.out; omega)), by rw [← HV.out.2.1]; exact HI10.out, P64.IntB.grown HIM4.out HIZ4.out.ty (by have := HZ.out; omega) HG10.out, Within.grown hw4 HG10.out (by have := HZ.out; omega), Nat.le_trans hs4 HG10.out.size⟩
     case measure => rw [numOf_eq HI10.out, numOf_eq HIZ.out, Int.natAbs_natCast, Int.natAbs_natCast]; exact HLT.out
def ExQ (W : World) (n e : Int) (r : Ending) (w' : World) : Prop := ∃ g, r = .returned (.agg #[.pointer (some ⟨g, 0, none⟩), .int .i64 e]) ∧ P64.IntB w' g n ∧ Within W w'
def ExV (W : World) (q : Rat) (K E : Nat) (r : Ending) (w' : World) : Prop := ∃ n e, ExQ W n e r w' ∧ dyR n e = q ∧ n.natAbs < 2 ^ K ∧ -(E : Int) ≤ e ∧ e ≤ E
theorem zz104 {p : Prop} (h : p := by
 rw [Int.natAbs_mul, Int.natAbs_pow, Nat.pow_add]
 exact Nat.mul_lt_mul_of_lt_of_le h1 (Nat.pow_le_pow_right dc ha) (Nat.two_pow_pos _)) : p := h
theorem sum_lt {n1 n2 : Int} {a b K D : Nat} (h1 : n1.natAbs < 2 ^ K) (h2 : n2.natAbs < 2 ^ K) (ha : a ≤ D) (hb : b ≤ D) : (n1 * 2 ^ a + n2 * 2 ^ b).natAbs < 2 ^ (K + D + 1) := by
 have e1 : (n1 * 2 ^ a).natAbs < 2 ^ (K + D) := by
  exact zz104
 have e2 : (n2 * 2 ^ b).natAbs < 2 ^ (K + D) := by
  rw [Int.natAbs_mul, Int.natAbs_pow, Nat.pow_add]
  exact Nat.mul_lt_mul_of_lt_of_le h2 (Nat.pow_le_pow_right dc hb) (Nat.two_pow_pos _)
 rw [Nat.pow_succ]
 omega
theorem shl_lt {n1 : Int} {a K D : Nat} (h1 : n1.natAbs < 2 ^ K) (ha : a ≤ D) : (n1 * 2 ^ a).natAbs < 2 ^ (K + D) := by
 exact zz104
theorem len64 {n : Int} {K J : Nat} (h : n.natAbs < 2 ^ K) (hJ : K ≤ 64 * J) : (P64.dg n.natAbs).length ≤ J := dg64_small (Nat.lt_of_lt_of_le h (Nat.pow_le_pow_right dc hJ))
theorem Dat (n e f : Int) (g k K : Nat) (hk : e - f = (k : Int)) (hk2 : k ≤ 100000) (hK : n.natAbs < 2 ^ K) (hK2 : K ≤ 100000) (w : World) (hI : P64.IntB w g n) : Calls Tryz.prog 256 #[.agg #[.pointer (some ⟨g, 0, none⟩), .int .i64 e], .int .i64 f] w (fun r w' => ∃ z, r = .returned (.pointer (some ⟨z, 0, none⟩)) ∧ P64.IntB w' z (n * 2 ^ k) ∧ w.heap.size ≤ z ∧ Within w w') := by
 have SH := Hh (fun (z : Nat) w hz hx => P64.Plsh z g k n (Nat.le_trans (len64 hK (J := 100000) om) om) om w hz hx)
 have hwB : Within w ((w.alloc (.cells #[.pointer (some ⟨g, 0, none⟩), .int .i64 e] 231)).alloc (.cells #[.bool false, .slice none 0 0] 229)) := ((Within.refl w).alloc _).alloc _
 have hT : P64.IntTy ((w.alloc (.cells #[.pointer (some ⟨g, 0, none⟩), .int .i64 e] 231)).alloc (.cells #[.bool false, .slice none 0 0] 229)) (w.heap.size + 1) := by
  have := (P64.IntB.made (w.alloc (.cells #[.pointer (some ⟨g, 0, none⟩), .int .i64 e] 231))).ty
  simpa using this
 have HI := Hh (hI.of hwB)
 have w1 : IntKind.i64.wrap (e - f) = (k : Int) := by rw [hk]; exact IntWalk.i64_in _ ⟨by omega, by omega⟩
 have w2 : IntKind.u64.wrap (k : Int) = (k : Int) := IntWalk.u64_in _ ⟨by omega, by omega⟩
 clear hk hk2 hK hK2 hI
 generalize hv : n * 2 ^ k = v at *
 clear hv
 go_enter Tryz.func256, Tryz.ntmps256
 go_wp2_with fail
 refine (SH.out (w.heap.size + 1) _ hT HI.out).mono ?_; rintro e1 w3 ⟨rfl, hI3, hG3⟩
 go_wp2
 go_ret
 exact ⟨_, rfl, hI3, by omega, Within.grown hwB hG3 om⟩
theorem zz19 {p : Prop} (h : p := by
 have := heap_alloc_new (w.alloc (.cells #[.pointer (some ⟨g1, 0, none⟩), .int .i64 e1] 231)) (.cells #[.pointer (some ⟨g2, 0, none⟩), .int .i64 e2] 231)
 have k1 : Within ((w.alloc (.cells #[.pointer (some ⟨g1, 0, none⟩), .int .i64 e1] 231)).alloc (.cells #[.pointer (some ⟨g2, 0, none⟩), .int .i64 e2] 231)) (((w.alloc (.cells #[.pointer (some ⟨g1, 0, none⟩), .int .i64 e1] 231)).alloc (.cells #[.pointer (some ⟨g2, 0, none⟩), .int .i64 e2] 231)).alloc (.cells #[.pointer none, .int .i64 0] 231)) := (Within.refl _).alloc _
 have h2 : (w.alloc (.cells #[.pointer (some ⟨g1, 0, none⟩), .int .i64 e1] 231)).heap.size = w.heap.size + 1 := by simp
 rw [h2] at this
 exact (k1.block _ (by simp)).trans this) : p := h
theorem zz24 {p : Prop} (h : p := by
 have := heap_alloc_new w (.cells #[.pointer (some ⟨g1, 0, none⟩), .int .i64 e1] 231)
 have k1 : Within (w.alloc (.cells #[.pointer (some ⟨g1, 0, none⟩), .int .i64 e1] 231)) (((w.alloc (.cells #[.pointer (some ⟨g1, 0, none⟩), .int .i64 e1] 231)).alloc (.cells #[.pointer (some ⟨g2, 0, none⟩), .int .i64 e2] 231)).alloc (.cells #[.pointer none, .int .i64 0] 231)) := ((Within.refl _).alloc _).alloc _
 exact (k1.block _ (by simp)).trans this) : p := h
theorem zz26 {p : Prop} (h : p := by
 have := heap_alloc_new ((w.alloc (.cells #[.pointer (some ⟨g1, 0, none⟩), .int .i64 e1] 231)).alloc (.cells #[.pointer (some ⟨g2, 0, none⟩), .int .i64 e2] 231)) (.cells #[.pointer none, .int .i64 0] 231)
 have h2 : ((w.alloc (.cells #[.pointer (some ⟨g1, 0, none⟩), .int .i64 e1] 231)).alloc (.cells #[.pointer (some ⟨g2, 0, none⟩), .int .i64 e2] 231)).heap.size = w.heap.size + 2 := by simp
 rwa [h2] at this) : p := h
theorem Dtimes (n1 e1 n2 e2 : Int) (g1 g2 K : Nat) (h1 : n1.natAbs < 2 ^ K) (h2 : n2.natAbs < 2 ^ K) (hK : K ≤ 20000) (he1 : -20000 ≤ e1 ∧ e1 ≤ 20000) (he2 : -20000 ≤ e2 ∧ e2 ≤ 20000) (w : World) (hI1 : P64.IntB w g1 n1) (hI2 : P64.IntB w g2 n2) : Calls Tryz.prog 171 #[.agg #[.pointer (some ⟨g1, 0, none⟩), .int .i64 e1], .agg #[.pointer (some ⟨g2, 0, none⟩), .int .i64 e2]] w (ExQ w (n1 * n2) (e1 + e2)) := by
 have ML := Hh (fun (z : Nat) w hz hx hy => P64.Pmul z g1 g2 n1 n2 (Nat.le_trans (len64 h1 (J := 20000) om) om) (Nat.le_trans (len64 h2 (J := 20000) om) om) w hz hx hy)
 have we : IntKind.i64.wrap (e1 + e2) = e1 + e2 := IntWalk.i64_in _ ⟨by omega, by omega⟩
 clear h1 h2 hK he1 he2
 generalize hm : n1 * n2 = m at *
 clear hm
 have hwN : Within w (((w.alloc (.cells #[.pointer (some ⟨g1, 0, none⟩), .int .i64 e1] 231)).alloc (.cells #[.pointer (some ⟨g2, 0, none⟩), .int .i64 e2] 231)).alloc (.cells #[.pointer none, .int .i64 0] 231)) := (((Within.refl w).alloc _).alloc _).alloc _
 have hJ1 := hI1.of hwN; have hJ2 := hI2.of hwN
 have hB0 : (((w.alloc (.cells #[.pointer (some ⟨g1, 0, none⟩), .int .i64 e1] 231)).alloc (.cells #[.pointer (some ⟨g2, 0, none⟩), .int .i64 e2] 231)).alloc (.cells #[.pointer none, .int .i64 0] 231)).heap[w.heap.size]? = some (.cells #[.pointer (some ⟨g1, 0, none⟩), .int .i64 e1] 231 (0, 0)) := by
  exact zz24
 have hB1 : (((w.alloc (.cells #[.pointer (some ⟨g1, 0, none⟩), .int .i64 e1] 231)).alloc (.cells #[.pointer (some ⟨g2, 0, none⟩), .int .i64 e2] 231)).alloc (.cells #[.pointer none, .int .i64 0] 231)).heap[w.heap.size + 1]? = some (.cells #[.pointer (some ⟨g2, 0, none⟩), .int .i64 e2] 231 (0, 0)) := by
  exact zz19
 have hB2 : (((w.alloc (.cells #[.pointer (some ⟨g1, 0, none⟩), .int .i64 e1] 231)).alloc (.cells #[.pointer (some ⟨g2, 0, none⟩), .int .i64 e2] 231)).alloc (.cells #[.pointer none, .int .i64 0] 231)).heap[w.heap.size + 2]? = some (.cells #[.pointer none, .int .i64 0] 231 (0, 0)) := by
  exact zz26
 clear hI1 hI2
 go_enter Tryz.func171, Tryz.ntmps171
 go_upto_region 1 with fail
 obtain ⟨W3, hW3⟩ : ∃ W3, W3 = (((w.alloc (.cells #[.pointer (some ⟨g1, 0, none⟩), .int .i64 e1] 231)).alloc (.cells #[.pointer (some ⟨g2, 0, none⟩), .int .i64 e2] 231)).alloc (.cells #[.pointer none, .int .i64 0] 231)) := ⟨_, rfl⟩
 have hs3 : W3.heap.size = w.heap.size + 3 := by rw [hW3]; simp
 rw [← hW3] at hwN hB0 hB1 hB2 hJ1 hJ2 ⊢
 clear hW3
 obtain ⟨b0, hb0⟩ : ∃ b, b = w.heap.size := ⟨_, rfl⟩
 have HS := Hh (And.intro hs3 hb0)
 rw [← hb0] at hB0 hB1 hB2 ⊢
 clear hb0 hs3
 obtain ⟨x0, x1⟩ := pair_cells hB0
 obtain ⟨y0, y1⟩ := pair_cells hB1
 refine wp_region_schG (fun W => W.cell? ⟨b0, 0, none⟩ = some (.pointer (some ⟨g1, 0, none⟩)) ∧ W.cell? ⟨b0, 1, none⟩ = some (.int .i64 e1) ∧ W.cell? ⟨b0 + 1, 0, none⟩ = some (.pointer (some ⟨g2, 0, none⟩)) ∧ W.cell? ⟨b0 + 1, 1, none⟩ = some (.int .i64 e2) ∧ b0 < W.heap.size ∧ b0 + 1 < W.heap.size ∧ W = W3) 12 (.firm 1 (.firm 2 (.firm 3 (.firm 4 (.firm 6 (.firm 7 (.firm 8 (.firm 9 (.firm 10 (.one 0 (.one 5 (.firm 11 (.one 12 .nil))))))))))))) kr kr ⟨x0, x1, y0, y1, by have := HS.out; omega, by have := HS.out; omega, rfl⟩ ?_
 rintro w0 ⟨p0, p1, s0, s1, pl, sl, hwr⟩
 subst hwr
 try simp only [pu]
 iterate 9
  apply sch_firm rfl rfl wi
  ·intro wq hq
   have hcq := hq.cells
   clear hq
   go_simp
   rfl
  try simp only [pu]
 refine sch_one rfl rfl (fun K hK => ?_)
 refine wp_new_p64 rfl ?_
 intro z v1 hT1 hb1 hge1
 have hv1 : Within w0 v1 := (Within.refl _).drew.trans hb1
 refine hK _ _ (fun _ => wi) ?_
 clear hK K
 try simp only [pu]
 refine sch_one rfl rfl (fun K hK => ?_)
 go_simp
 refine (ML.out z _ hT1 (hJ1.of hv1) (hJ2.of hv1)).mono ?_; rintro r2 v2 ⟨rfl, hI2, hG2⟩
 have hv2 : Within w0 v2 := Within.grown hv1 hG2 hge1
 have hBr := (hv2.block (b0 + 2) (by have := HS.out; omega)).trans hB2
 have hww := hwN.trans hv2
 obtain ⟨k0, k1, kf, kg, k2, r0, r1⟩ := pair_block hBr (.pointer (some ⟨z, 0, none⟩)) (.int .i64 (e1 + e2))
 have kf0 := kf 0; have kf1 := kf 1; have kg1 := kg 1
 have HF := Hh (P64.IntB.pair hI2 hBr dc dc (.pointer (some ⟨z, 0, none⟩)) (.int .i64 (e1 + e2)))
 refine hK _ _ (fun _ => wi) ?_
 clear hK K
 try simp only [pu]
 apply sch_firm rfl rfl wi
 ·intro wq hq
  have hcq := hq.cells
  clear hq
  go_simp
  rfl
 try simp only [pu]
 refine sch_one rfl rfl (fun K hK => ?_)
 go_simp
 refine hK _ _ ab ?_
 clear hK K
 try simp only [pu]
 refine sch_nil ?_
 go_wp2
 (try simp only [Exit.inBlock, Exit.then]); refine bodyPost_ret (v := .agg #[.pointer (some ⟨z, 0, none⟩), .int .i64 (e1 + e2)]) (by simp [results, Tryz.results171, go_sem, r0, r1]) rfl ?_
 exact ⟨z, rfl, HF.out, (hww.setCell (by have := HS.out; show w.heap.size ≤ b0 + 2; omega) _).setCell (by have := HS.out; show w.heap.size ≤ b0 + 2; omega) _⟩
theorem Dplus_zl (n1 e1 n2 e2 : Int) (g1 g2 : Nat) (h0 : n1 = 0) (w : World) (hI1 : P64.IntB w g1 n1) (hI2 : P64.IntB w g2 n2) : Calls Tryz.prog 169 #[.agg #[.pointer (some ⟨g1, 0, none⟩), .int .i64 e1], .agg #[.pointer (some ⟨g2, 0, none⟩), .int .i64 e2]] w (ExQ w n2 e2) := by
 have S1 := Hh (fun w h => P64.Psign g1 n1 w h); have S2 := Hh (fun w h => P64.Psign g2 n2 w h)
 obtain ⟨s1, hs1⟩ : ∃ s, s = n1.sign := ⟨_, rfl⟩; obtain ⟨s2, hs2⟩ : ∃ s, s = n2.sign := ⟨_, rfl⟩
 rw [← hs1] at S1; rw [← hs2] at S2
 have d1 : (s1 == 0) = true := by rw [hs1, h0]; rfl
 clear hs1 hs2 h0
 have hwN : Within w (((w.alloc (.cells #[.pointer (some ⟨g1, 0, none⟩), .int .i64 e1] 231)).alloc (.cells #[.pointer (some ⟨g2, 0, none⟩), .int .i64 e2] 231)).alloc (.cells #[.pointer none, .int .i64 0] 231)) := (((Within.refl w).alloc _).alloc _).alloc _
 have hJ1 := hI1.of hwN; have hJ2 := hI2.of hwN
 have hB0 : (((w.alloc (.cells #[.pointer (some ⟨g1, 0, none⟩), .int .i64 e1] 231)).alloc (.cells #[.pointer (some ⟨g2, 0, none⟩), .int .i64 e2] 231)).alloc (.cells #[.pointer none, .int .i64 0] 231)).heap[w.heap.size]? = some (.cells #[.pointer (some ⟨g1, 0, none⟩), .int .i64 e1] 231 (0, 0)) := by
  exact zz24
 have hB1 : (((w.alloc (.cells #[.pointer (some ⟨g1, 0, none⟩), .int .i64 e1] 231)).alloc (.cells #[.pointer (some ⟨g2, 0, none⟩), .int .i64 e2] 231)).alloc (.cells #[.pointer none, .int .i64 0] 231)).heap[w.heap.size + 1]? = some (.cells #[.pointer (some ⟨g2, 0, none⟩), .int .i64 e2] 231 (0, 0)) := by
  exact zz19
 have hB2 : (((w.alloc (.cells #[.pointer (some ⟨g1, 0, none⟩), .int .i64 e1] 231)).alloc (.cells #[.pointer (some ⟨g2, 0, none⟩), .int .i64 e2] 231)).alloc (.cells #[.pointer none, .int .i64 0] 231)).heap[w.heap.size + 2]? = some (.cells #[.pointer none, .int .i64 0] 231 (0, 0)) := by
  exact zz26
 clear hI1 hI2
 go_enter Tryz.func169, Tryz.ntmps169
 go_upto_region 1 with fail
 obtain ⟨W3, hW3⟩ : ∃ W3, W3 = (((w.alloc (.cells #[.pointer (some ⟨g1, 0, none⟩), .int .i64 e1] 231)).alloc (.cells #[.pointer (some ⟨g2, 0, none⟩), .int .i64 e2] 231)).alloc (.cells #[.pointer none, .int .i64 0] 231)) := ⟨_, rfl⟩
 have hs3 : W3.heap.size = w.heap.size + 3 := by rw [hW3]; simp
 rw [← hW3] at hwN hB0 hB1 hB2 hJ1 hJ2 ⊢
 clear hW3
 obtain ⟨b0, hb0⟩ : ∃ b, b = w.heap.size := ⟨_, rfl⟩
 have HS := Hh (And.intro hs3 hb0)
 rw [← hb0] at hB0 hB1 hB2 ⊢
 clear hb0 hs3
 obtain ⟨x0, x1⟩ := pair_cells hB0
 obtain ⟨y0, y1⟩ := pair_cells hB1
 have hww := hwN
 obtain ⟨k0, k1, kf, kg, k2, r0, r1⟩ := pair_block hB2 (.pointer (some ⟨g2, 0, none⟩)) (.int .i64 e2)
 have kf0 := kf 0; have kf1 := kf 1; have kg1 := kg 1
 have HF := Hh (P64.IntB.pair hJ2 hB2 dc dc (.pointer (some ⟨g2, 0, none⟩)) (.int .i64 e2))
 go_wp2_with fail
 refine (S1.out _ hJ1).mono ?_; rintro q1 u1 ⟨rfl, rfl⟩
 go_wp2
 (try simp only [Exit.inBlock, Exit.then]); refine bodyPost_ret (v := .agg #[.pointer (some ⟨g2, 0, none⟩), .int .i64 e2]) (by simp [results, Tryz.results169, go_sem, r0, r1]) rfl ?_
 exact ⟨g2, rfl, HF.out, (hww.setCell (by have := HS.out; show w.heap.size ≤ b0 + 2; omega) _).setCell (by have := HS.out; show w.heap.size ≤ b0 + 2; omega) _⟩
theorem Dplus_zr (n1 e1 n2 e2 : Int) (g1 g2 : Nat) (h0 : n1 ≠ 0) (h00 : n2 = 0) (w : World) (hI1 : P64.IntB w g1 n1) (hI2 : P64.IntB w g2 n2) : Calls Tryz.prog 169 #[.agg #[.pointer (some ⟨g1, 0, none⟩), .int .i64 e1], .agg #[.pointer (some ⟨g2, 0, none⟩), .int .i64 e2]] w (ExQ w n1 e1) := by
 have S1 := Hh (fun w h => P64.Psign g1 n1 w h); have S2 := Hh (fun w h => P64.Psign g2 n2 w h)
 obtain ⟨s1, hs1⟩ : ∃ s, s = n1.sign := ⟨_, rfl⟩; obtain ⟨s2, hs2⟩ : ∃ s, s = n2.sign := ⟨_, rfl⟩
 rw [← hs1] at S1; rw [← hs2] at S2
 have d1 : (s1 == 0) = false := by rw [hs1, beq_eq_false_iff_ne]; intro h; exact h0 (Int.sign_eq_zero_iff_zero.1 h)
 have d2 : (s2 == 0) = true := by rw [hs2, h00]; rfl
 clear hs1 hs2 h0 h00
 have hwN : Within w (((w.alloc (.cells #[.pointer (some ⟨g1, 0, none⟩), .int .i64 e1] 231)).alloc (.cells #[.pointer (some ⟨g2, 0, none⟩), .int .i64 e2] 231)).alloc (.cells #[.pointer none, .int .i64 0] 231)) := (((Within.refl w).alloc _).alloc _).alloc _
 have hJ1 := hI1.of hwN; have hJ2 := hI2.of hwN
 have hB0 : (((w.alloc (.cells #[.pointer (some ⟨g1, 0, none⟩), .int .i64 e1] 231)).alloc (.cells #[.pointer (some ⟨g2, 0, none⟩), .int .i64 e2] 231)).alloc (.cells #[.pointer none, .int .i64 0] 231)).heap[w.heap.size]? = some (.cells #[.pointer (some ⟨g1, 0, none⟩), .int .i64 e1] 231 (0, 0)) := by
  exact zz24
 have hB1 : (((w.alloc (.cells #[.pointer (some ⟨g1, 0, none⟩), .int .i64 e1] 231)).alloc (.cells #[.pointer (some ⟨g2, 0, none⟩), .int .i64 e2] 231)).alloc (.cells #[.pointer none, .int .i64 0] 231)).heap[w.heap.size + 1]? = some (.cells #[.pointer (some ⟨g2, 0, none⟩), .int .i64 e2] 231 (0, 0)) := by
  exact zz19
 have hB2 : (((w.alloc (.cells #[.pointer (some ⟨g1, 0, none⟩), .int .i64 e1] 231)).alloc (.cells #[.pointer (some ⟨g2, 0, none⟩), .int .i64 e2] 231)).alloc (.cells #[.pointer none, .int .i64 0] 231)).heap[w.heap.size + 2]? = some (.cells #[.pointer none, .int .i64 0] 231 (0, 0)) := by
  exact zz26
 clear hI1 hI2
 go_enter Tryz.func169, Tryz.ntmps169
 go_upto_region 1 with fail
 obtain ⟨W3, hW3⟩ : ∃ W3, W3 = (((w.alloc (.cells #[.pointer (some ⟨g1, 0, none⟩), .int .i64 e1] 231)).alloc (.cells #[.pointer (some ⟨g2, 0, none⟩), .int .i64 e2] 231)).alloc (.cells #[.pointer none, .int .i64 0] 231)) := ⟨_, rfl⟩
 have hs3 : W3.heap.size = w.heap.size + 3 := by rw [hW3]; simp
 rw [← hW3] at hwN hB0 hB1 hB2 hJ1 hJ2 ⊢
 clear hW3
 obtain ⟨b0, hb0⟩ : ∃ b, b = w.heap.size := ⟨_, rfl⟩
 have HS := Hh (And.intro hs3 hb0)
 rw [← hb0] at hB0 hB1 hB2 ⊢
 clear hb0 hs3
 obtain ⟨x0, x1⟩ := pair_cells hB0
 obtain ⟨y0, y1⟩ := pair_cells hB1
 have hww := hwN
 obtain ⟨k0, k1, kf, kg, k2, r0, r1⟩ := pair_block hB2 (.pointer (some ⟨g1, 0, none⟩)) (.int .i64 e1)
 have kf0 := kf 0; have kf1 := kf 1; have kg1 := kg 1
 have HF := Hh (P64.IntB.pair hJ1 hB2 dc dc (.pointer (some ⟨g1, 0, none⟩)) (.int .i64 e1))
 go_wp2_with fail
 refine (S1.out _ hJ1).mono ?_; rintro q1 u1 ⟨rfl, rfl⟩
 go_wp2_with fail
 refine (S2.out _ hJ2).mono ?_; rintro q2 u2 ⟨rfl, rfl⟩
 go_wp2
 (try simp only [Exit.inBlock, Exit.then]); refine bodyPost_ret (v := .agg #[.pointer (some ⟨g1, 0, none⟩), .int .i64 e1]) (by simp [results, Tryz.results169, go_sem, r0, r1]) rfl ?_
 exact ⟨g1, rfl, HF.out, (hww.setCell (by have := HS.out; show w.heap.size ≤ b0 + 2; omega) _).setCell (by have := HS.out; show w.heap.size ≤ b0 + 2; omega) _⟩
theorem zz14 {p : Prop} (h : p := by
 refine hK _ _ (fun _ => wi) ?_
 clear hK K
 try simp only [pu]
 refine sch_one rfl rfl (fun K hK => ?_)
 go_simp
 refine (AD.out z za zb _ (by first | exact hT0 | exact hT0.of hb6 | exact hT0.of (hb3.trans hb6)) (by first | exact hA3.of hb6 | exact hA3.of (hb0.trans hb6) | exact hA3.of (hb6.trans hb0)) (by first | exact hA6 | exact hA6.of hb0)).mono ?_; rintro q7 c7 ⟨rfl, hI7, hG7⟩
 have hc7 : Within w0 c7 := Within.grown (by first | exact hc6 | exact hc6.trans hb0) hG7 hz0
 have hBr := (hc7.block (b0 + 2) (by have := HS.out; omega)).trans hB2
 have hww := hwN.trans hc7
 obtain ⟨k0, k1, kf, kg, k2, r0, r1⟩ := pair_block hBr (.pointer (some ⟨z, 0, none⟩)) (.int .i64 f)
 have kf0 := kf 0; have kf1 := kf 1; have kg1 := kg 1
 have HF := Hh (P64.IntB.pair hI7 hBr dc dc (.pointer (some ⟨z, 0, none⟩)) (.int .i64 f))
 refine hK _ _ (fun _ => wi) ?_
 clear hK K
 try simp only [pu]
 apply sch_firm rfl rfl wi
 ·intro wq hq
  have hcq := hq.cells
  clear hq
  go_simp
  rfl
 try simp only [pu]
 refine sch_one rfl rfl (fun K hK => ?_)
 go_simp
 refine hK _ _ ab ?_
 clear hK K
 try simp only [pu]
 refine sch_nil ?_
 go_wp2_with fail
 go_meet
 exact ⟨z, r0, r1, HF.out, (hww.setCell (by have := HS.out; show w.heap.size ≤ b0 + 2; omega) _).setCell (by have := HS.out; show w.heap.size ≤ b0 + 2; omega) _⟩) : p := h
theorem zz124 {p : Prop} (h : p := by
 clear hK K
 try simp only [pu]
 refine sch_one rfl rfl (fun K hK => ?_)
 go_simp
 refine (A2.out _ (hJ2.of (by first | exact hc0.trans hb3 | exact hc3.trans hb0 | exact hc3))).mono ?_; rintro q6 c6 ⟨zb, rfl, hA6, _, hb6⟩
 have hc6 : Within w0 c6 := by first | exact (hc0.trans hb3).trans hb6 | exact (hc3.trans hb0).trans hb6 | exact hc3.trans hb6
 exact zz14) : p := h
theorem Dplus_nz (n1 e1 n2 e2 f : Int) (g1 g2 K k1 k2 : Nat) (h01 : n1 ≠ 0) (h02 : n2 ≠ 0) (hf : min e1 e2 = f) (hk1 : e1 - f = (k1 : Int)) (hk2 : e2 - f = (k2 : Int)) (hb1 : k1 ≤ 50000) (hb2 : k2 ≤ 50000) (h1 : n1.natAbs < 2 ^ K) (h2 : n2.natAbs < 2 ^ K) (hK : K ≤ 20000) (w : World) (hI1 : P64.IntB w g1 n1) (hI2 : P64.IntB w g2 n2) : Calls Tryz.prog 169 #[.agg #[.pointer (some ⟨g1, 0, none⟩), .int .i64 e1], .agg #[.pointer (some ⟨g2, 0, none⟩), .int .i64 e2]] w (ExQ w (n1 * 2 ^ k1 + n2 * 2 ^ k2) f) := by
 have S1 := Hh (fun w h => P64.Psign g1 n1 w h); have S2 := Hh (fun w h => P64.Psign g2 n2 w h)
 obtain ⟨s1, hs1⟩ : ∃ s, s = n1.sign := ⟨_, rfl⟩; obtain ⟨s2, hs2⟩ : ∃ s, s = n2.sign := ⟨_, rfl⟩
 rw [← hs1] at S1; rw [← hs2] at S2
 have d1 : (s1 == 0) = false := by rw [hs1, beq_eq_false_iff_ne]; intro h; exact h01 (Int.sign_eq_zero_iff_zero.1 h)
 have d2 : (s2 == 0) = false := by rw [hs2, beq_eq_false_iff_ne]; intro h; exact h02 (Int.sign_eq_zero_iff_zero.1 h)
 have A1 := Hh (fun w h => Dat n1 e1 f g1 k1 K hk1 om h1 om w h)
 have A2 := Hh (fun w h => Dat n2 e2 f g2 k2 K hk2 om h2 om w h)
 have AD := Hh (fun (z a b : Nat) w hz hx hy => P64.Padd z a b (n1 * 2 ^ k1) (n2 * 2 ^ k2) (Nat.le_trans (len64 (shl_lt h1 hb1) (J := 20000) om) om) (Nat.le_trans (len64 (shl_lt h2 hb2) (J := 20000) om) om) w hz hx hy)
 clear hs1 hs2 h01 h02 hk1 hk2 hb1 hb2 h1 h2 hK
 generalize n1 * 2 ^ k1 = v1 at *; generalize n2 * 2 ^ k2 = v2 at *
 have hwN : Within w (((w.alloc (.cells #[.pointer (some ⟨g1, 0, none⟩), .int .i64 e1] 231)).alloc (.cells #[.pointer (some ⟨g2, 0, none⟩), .int .i64 e2] 231)).alloc (.cells #[.pointer none, .int .i64 0] 231)) := (((Within.refl w).alloc _).alloc _).alloc _
 have hJ1 := hI1.of hwN; have hJ2 := hI2.of hwN
 have hB0 : (((w.alloc (.cells #[.pointer (some ⟨g1, 0, none⟩), .int .i64 e1] 231)).alloc (.cells #[.pointer (some ⟨g2, 0, none⟩), .int .i64 e2] 231)).alloc (.cells #[.pointer none, .int .i64 0] 231)).heap[w.heap.size]? = some (.cells #[.pointer (some ⟨g1, 0, none⟩), .int .i64 e1] 231 (0, 0)) := by
  exact zz24
 have hB1 : (((w.alloc (.cells #[.pointer (some ⟨g1, 0, none⟩), .int .i64 e1] 231)).alloc (.cells #[.pointer (some ⟨g2, 0, none⟩), .int .i64 e2] 231)).alloc (.cells #[.pointer none, .int .i64 0] 231)).heap[w.heap.size + 1]? = some (.cells #[.pointer (some ⟨g2, 0, none⟩), .int .i64 e2] 231 (0, 0)) := by
  exact zz19
 have hB2 : (((w.alloc (.cells #[.pointer (some ⟨g1, 0, none⟩), .int .i64 e1] 231)).alloc (.cells #[.pointer (some ⟨g2, 0, none⟩), .int .i64 e2] 231)).alloc (.cells #[.pointer none, .int .i64 0] 231)).heap[w.heap.size + 2]? = some (.cells #[.pointer none, .int .i64 0] 231 (0, 0)) := by
  exact zz26
 clear hI1 hI2
 go_enter Tryz.func169, Tryz.ntmps169
 go_upto_region 1 with fail
 obtain ⟨W3, hW3⟩ : ∃ W3, W3 = (((w.alloc (.cells #[.pointer (some ⟨g1, 0, none⟩), .int .i64 e1] 231)).alloc (.cells #[.pointer (some ⟨g2, 0, none⟩), .int .i64 e2] 231)).alloc (.cells #[.pointer none, .int .i64 0] 231)) := ⟨_, rfl⟩
 have hs3 : W3.heap.size = w.heap.size + 3 := by rw [hW3]; simp
 rw [← hW3] at hwN hB0 hB1 hB2 hJ1 hJ2 ⊢
 clear hW3
 obtain ⟨b0, hb0⟩ : ∃ b, b = w.heap.size := ⟨_, rfl⟩
 have HS := Hh (And.intro hs3 hb0)
 rw [← hb0] at hB0 hB1 hB2 ⊢
 clear hb0 hs3
 obtain ⟨x0, x1⟩ := pair_cells hB0
 obtain ⟨y0, y1⟩ := pair_cells hB1
 go_wp2_with fail
 refine (S1.out _ hJ1).mono ?_; rintro q1 u1 ⟨rfl, rfl⟩
 go_wp2_with fail
 refine (S2.out _ hJ2).mono ?_; rintro q2 u2 ⟨rfl, rfl⟩
 go_upto_region 6 with fail
 go_cut [] (fun wx => ∃ z, wx.cell? ⟨b0 + 2, 0, none⟩ = some (.pointer (some ⟨z, 0, none⟩)) ∧ wx.cell? ⟨b0 + 2, 1, none⟩ = some (.int .i64 f) ∧ P64.IntB wx z (v1 + v2) ∧ Within w wx)
 case first =>
  refine wp_region_schG (fun W => W.cell? ⟨b0, 0, none⟩ = some (.pointer (some ⟨g1, 0, none⟩)) ∧ W.cell? ⟨b0, 1, none⟩ = some (.int .i64 e1) ∧ W.cell? ⟨b0 + 1, 0, none⟩ = some (.pointer (some ⟨g2, 0, none⟩)) ∧ W.cell? ⟨b0 + 1, 1, none⟩ = some (.int .i64 e2) ∧ b0 < W.heap.size ∧ b0 + 1 < W.heap.size ∧ W = W3) 10 (.firm 1 (.firm 2 (.firm 4 (.firm 5 (.firm 8 (.two 0 (.one 3 (.one 6 (.one 7 (.firm 9 (.one 10 .nil))))) 3 (.two 0 (.one 6 (.one 7 (.firm 9 (.one 10 .nil)))) 6 (.one 0 (.one 7 (.firm 9 (.one 10 .nil))))))))))) kr kr ⟨x0, x1, y0, y1, by have := HS.out; omega, by have := HS.out; omega, rfl⟩ ?_
  rintro w0 ⟨p0, p1, s0, s1_, pl, sl, hwr⟩
  subst hwr
  try simp only [pu]
  iterate 5
   apply sch_firm rfl rfl wi
   ·intro wq hq
    have hcq := hq.cells
    clear hq
    go_simp
    rfl
   try simp only [pu]
  refine sch_two rfl rfl rfl rfl (fun K hK => ?_) (fun K hK => ?_)
  ·refine wp_new_p64 rfl ?_
   intro z c0 hT0 hb0 hge0
   have hc0 : Within w0 c0 := by first | exact (Within.refl _).drew.trans hb0 | exact hc6.trans hb0 | exact hc3.trans hb0
   have hz0 : w0.heap.size ≤ z := by first | exact hge0 | exact Nat.le_trans hc6.size hge0 | exact Nat.le_trans hc3.size hge0
   refine hK _ _ wi ?_
   clear hK K
   try simp only [pu]
   refine sch_one rfl rfl (fun K hK => ?_)
   go_simp
   refine (A1.out _ (hJ1.of (by first | exact hc0 | exact (Within.refl _).drew))).mono ?_; rintro q3 c3 ⟨za, rfl, hA3, _, hb3⟩
   have hc3 : Within w0 c3 := by first | exact hc0.trans hb3 | exact (Within.refl _).drew.trans hb3
   refine hK _ _ (fun _ => wi) ?_
   exact zz124
  ·go_simp
   refine (A1.out _ (hJ1.of (by first | exact hc0 | exact (Within.refl _).drew))).mono ?_; rintro q3 c3 ⟨za, rfl, hA3, _, hb3⟩
   have hc3 : Within w0 c3 := by first | exact hc0.trans hb3 | exact (Within.refl _).drew.trans hb3
   refine hK _ _ wi ?_
   clear hK K
   try simp only [pu]
   refine sch_two rfl rfl rfl rfl (fun K hK => ?_) (fun K hK => ?_)
   ·refine wp_new_p64 rfl ?_
    intro z c0 hT0 hb0 hge0
    have hc0 : Within w0 c0 := by first | exact (Within.refl _).drew.trans hb0 | exact hc6.trans hb0 | exact hc3.trans hb0
    have hz0 : w0.heap.size ≤ z := by first | exact hge0 | exact Nat.le_trans hc6.size hge0 | exact Nat.le_trans hc3.size hge0
    refine hK _ _ wi ?_
    exact zz124
   ·go_simp
    refine (A2.out _ (hJ2.of (by first | exact hc0.trans hb3 | exact hc3.trans hb0 | exact hc3))).mono ?_; rintro q6 c6 ⟨zb, rfl, hA6, _, hb6⟩
    have hc6 : Within w0 c6 := by first | exact (hc0.trans hb3).trans hb6 | exact (hc3.trans hb0).trans hb6 | exact hc3.trans hb6
    refine hK _ _ wi ?_
    clear hK K
    try simp only [pu]
    refine sch_one rfl rfl (fun K hK => ?_)
    refine wp_new_p64 rfl ?_
    intro z c0 hT0 hb0 hge0
    have hc0 : Within w0 c0 := by first | exact (Within.refl _).drew.trans hb0 | exact hc6.trans hb0 | exact hc3.trans hb0
    have hz0 : w0.heap.size ≤ z := by first | exact hge0 | exact Nat.le_trans hc6.size hge0 | exact Nat.le_trans hc3.size hge0
    exact zz14
 case rest =>
  obtain ⟨z, r0, r1, hIz, hwz⟩ := hcut
  go_wp2
  (try simp only [Exit.inBlock, Exit.then]); refine bodyPost_ret (v := .agg #[.pointer (some ⟨z, 0, none⟩), .int .i64 f]) (by simp [results, Tryz.results169, go_sem, r0, r1]) rfl ?_
  exact ⟨z, rfl, hIz, hwz⟩
theorem Dplus (n1 e1 n2 e2 : Int) (g1 g2 K E : Nat) (h1 : n1.natAbs < 2 ^ K) (h2 : n2.natAbs < 2 ^ K) (hK : K ≤ 20000) (he1 : -(E : Int) ≤ e1 ∧ e1 ≤ E) (he2 : -(E : Int) ≤ e2 ∧ e2 ≤ E) (hE : E ≤ 20000) (w : World) (hI1 : P64.IntB w g1 n1) (hI2 : P64.IntB w g2 n2) :
 Calls Tryz.prog 169 #[.agg #[.pointer (some ⟨g1, 0, none⟩), .int .i64 e1], .agg #[.pointer (some ⟨g2, 0, none⟩), .int .i64 e2]] w (ExV w (dyR n1 e1 + dyR n2 e2) (K + 2 * E + 1) E) := by
 have hKK : 2 ^ K ≤ 2 ^ (K + 2 * E + 1) := Nat.pow_le_pow_right dc om
 by_cases h01 : n1 = 0
 ·refine (Dplus_zl n1 e1 n2 e2 g1 g2 h01 w hI1 hI2).mono fun r w' h => ⟨n2, e2, h, by rw [h01, dyR_zero]; grind, by omega, by omega, by omega⟩
 by_cases h02 : n2 = 0
 ·refine (Dplus_zr n1 e1 n2 e2 g1 g2 h01 h02 w hI1 hI2).mono fun r w' h => ⟨n1, e1, h, by rw [h02, dyR_zero]; grind, by omega, by omega, by omega⟩
 refine (Dplus_nz n1 e1 n2 e2 (min e1 e2) g1 g2 K (e1 - min e1 e2).toNat (e2 - min e1 e2).toNat h01 h02 rfl om om om om h1 h2 hK w hI1 hI2).mono fun r w' h => ⟨_, _, h, ?_, ?_, by omega, by omega⟩
 ·rw [dyR_add, dyR_at _ _ _ om, dyR_at _ _ _ om]
 ·exact sum_lt (D := 2 * E) h1 h2 om om
def fv (x : Nat) : Option Nat := if 9218868437227405312 < x % 9223372036854775808 then none else some x
def fop (op : BinOp) (a b : Option Nat) : Option Nat := a.bind fun x => b.bind fun y => floatBits op .f64 x y
def arF (op : BinOp) (x y : Nat) (w : World) : Nat := match floatBits op .f64 x y with | some r => r | none => (Question.nanBits .f64 x y).cut (w.tape w.drawn (.nanBits .f64 x y))
def arW (op : BinOp) (x y : Nat) (w : World) : World := match floatBits op .f64 x y with | some _ => w | none => w.drew
theorem run_nan (op : BinOp) (t : TypeId) (k : FloatKind) (x y : Nat) (P : Program) (w : World) (ho : op = .sub ∨ op = .add ∨ op = .mul ∨ op = .quo) (h : floatBits op k x y = none) :
 (binOp op t (.float k x) (.float k y)).run P w = .ok (.float k ((Question.nanBits k x y).cut (w.tape w.drawn (.nanBits k x y)))) w.drew := by
 unfold floatBits at h
 rcases ho with rfl | rfl | rfl | rfl <;> simp only at h <;> simp [binOp, Op.floatArith, h, Question.forced]
theorem run_ar (op : BinOp) (ho : op = .sub ∨ op = .add ∨ op = .mul ∨ op = .quo) (t : TypeId) (x y : Nat) (P : Program) (w : World) :
 (binOp op t (.float .f64 x) (.float .f64 y)).run P w = .ok (.float .f64 (arF op x y w)) (arW op x y w) := by
 unfold arF arW
 cases h : floatBits op .f64 x y with
 | some r => exact run_float_arith (P := P) w op t .f64 x y r h
 | none => exact run_nan op t .f64 x y P w ho h
theorem arW_within {W w : World} (h : Within W w) (op : BinOp) (x y : Nat) : Within W (arW op x y w) := by
 unfold arW
 split
 ·exact h
 ·exact h.drew
theorem cut_nan (x y t : Nat) : 9218868437227405312 < (Question.nanBits .f64 x y).cut t % 9223372036854775808 ∧ (Question.nanBits .f64 x y).cut t < 18446744073709551616 := by
 have e : (Question.nanBits .f64 x y).cut t = (t % 2) * 2 ^ 63 + 0x7ff0000000000000 + 1 + (t / 2) % (2 ^ 52 - 1) := rfl
 rw [e]
 have h1 : t % 2 < 2 := Nat.mod_lt _ dc
 have h2 : (t / 2) % (2 ^ 52 - 1) < 4503599627370495 := Nat.mod_lt _ dc
 have e63 : (2 : Nat) ^ 63 = 9223372036854775808 := by decide
 rw [e63]
 generalize t % 2 = a at *
 generalize (t / 2) % (2 ^ 52 - 1) = b at *
 omega
/-! what is written is no NaN, unless it is one -/
theorem write_sane (d : Ieee.Datum) (h : d.isNaN = false) : Ieee.double.write d < 18446744073709551616 ∧ Ieee.double.write d % 9223372036854775808 ≤ 9218868437227405312 := by
 have key : ∀ (b : Bool) (r : Nat), r ≤ 9218868437227405312 → Ieee.double.word b r < 18446744073709551616 ∧ Ieee.double.word b r % 9223372036854775808 ≤ 9218868437227405312 := by
  intro b r hr
  unfold Ieee.Format.word
  rw [Fp.dS]
  split <;> omega
 cases d with
 | nan s t => simp [Ieee.Datum.isNaN] at h
 | infinity s => exact key s _ (by rw [Fp.dI]; exact Nat.le_refl _)
 | number s m e =>
  show Ieee.double.nearest s m e < _ ∧ Ieee.double.nearest s m e % _ ≤ _
  unfold Ieee.Format.nearest
  split
  ·exact key s 0 dc
  ·exact key s _ (by rw [Fp.dI]; exact Nat.min_le_right _ _)
theorem sum_sane {d e r : Ieee.Datum} (h : d.sum e = some r) : r.isNaN = false := by
 cases d <;> cases e <;> simp only [Ieee.Datum.sum] at h <;> first | (cases h; done) | skip
 all_goals first | (split at h <;> first | (cases h; done) | (obtain rfl := Option.some.inj h; rfl)) | (obtain rfl := Option.some.inj h; rfl)
theorem prod_sane {d e r : Ieee.Datum} (h : d.product e = some r) : r.isNaN = false := by
 cases d <;> cases e <;> simp only [Ieee.Datum.product] at h <;> first | (cases h; done) | skip
 all_goals first | (split at h <;> first | (cases h; done) | (obtain rfl := Option.some.inj h; rfl)) | (obtain rfl := Option.some.inj h; rfl)
theorem quot_sane {k : Nat} {d e r : Ieee.Datum} (h : d.quotient k e = some r) : r.isNaN = false := by
 cases d <;> cases e <;> simp only [Ieee.Datum.quotient] at h <;> first | (cases h; done) | skip
 all_goals first | (split at h <;> first | (split at h <;> first | (cases h; done) | (obtain rfl := Option.some.inj h; rfl)) | (cases h; done) | (obtain rfl := Option.some.inj h; rfl)) | (obtain rfl := Option.some.inj h; rfl)
theorem floatBits_sane {op : BinOp} {x y r : Nat} (h : floatBits op .f64 x y = some r) : r < 18446744073709551616 ∧ r % 9223372036854775808 ≤ 9218868437227405312 := by
 have key : ∀ o : Option Ieee.Datum, (∀ d, o = some d → d.isNaN = false) → o.map Ieee.double.write = some r → r < 18446744073709551616 ∧ r % 9223372036854775808 ≤ 9218868437227405312 := by
  intro o ho hr
  cases o with
  | none => cases hr
  | some d => obtain rfl := Option.some.inj hr; exact write_sane d (ho d rfl)
 unfold floatBits at h
 split at h
 ·exact key _ (fun d hd => sum_sane hd) h
 ·exact key _ (fun d hd => sum_sane hd) h
 ·exact key _ (fun d hd => prod_sane hd) h
 ·exact key _ (fun d hd => quot_sane hd) h
 ·cases h
theorem read_nan {a : Nat} (h : 9218868437227405312 < a % 9223372036854775808) : ∃ s t, Ieee.double.read a = .nan s t := ⟨_, _, Fp.read_nan Ieee.double a (by rw [Fp.rg64, Fp.dI]; exact h) Fp.dBI⟩
theorem floatBits_nan {op : BinOp} {x y : Nat} (h : fv x = none ∨ fv y = none) : floatBits op .f64 x y = none := by
 have e : ∀ z, fv z = none → 9218868437227405312 < z % 9223372036854775808 := fun z hz => by
  unfold fv at hz
  split at hz
  ·assumption
  ·cases hz
 have k1 : ∀ s t d, (Ieee.Datum.nan s t).sum d = none := fun s t d => by cases d <;> rfl
 have k2 : ∀ s t d, Ieee.Datum.sum d (.nan s t) = none := fun s t d => by cases d <;> rfl
 have k3 : ∀ s t d, (Ieee.Datum.nan s t).product d = none := fun s t d => by cases d <;> rfl
 have k4 : ∀ s t d, Ieee.Datum.product d (.nan s t) = none := fun s t d => by cases d <;> rfl
 have k5 : ∀ k s t d, (Ieee.Datum.nan s t).quotient k d = none := fun k s t d => by cases d <;> rfl
 have k6 : ∀ k s t d, Ieee.Datum.quotient k d (.nan s t) = none := fun k s t d => by cases d <;> rfl
 rcases h with h | h <;> obtain ⟨s, t, hr⟩ := read_nan (e _ h)
 ·unfold floatBits
  split
  ·show (((Ieee.double.read x).sum _).map _) = none; rw [hr, k1]; rfl
  ·show (((Ieee.double.read x).sum _).map _) = none; rw [hr, k1]; rfl
  ·show (((Ieee.double.read x).product _).map _) = none; rw [hr, k3]; rfl
  ·show (((Ieee.double.read x).quotient _ _).map _) = none; rw [hr, k5]; rfl
  ·rfl
 ·unfold floatBits
  split
  ·show ((Ieee.Datum.sum _ (Ieee.double.read y)).map _) = none; rw [hr, k2]; rfl
  ·show ((Ieee.Datum.sum _ (Ieee.double.read y).opposite).map _) = none; rw [hr, show (Ieee.Datum.nan s t).opposite = .nan (!s) t from rfl, k2]; rfl
  ·show ((Ieee.Datum.product _ (Ieee.double.read y)).map _) = none; rw [hr, k4]; rfl
  ·show ((Ieee.Datum.quotient _ _ (Ieee.double.read y)).map _) = none; rw [hr, k6]; rfl
  ·rfl
theorem fv_ar (op : BinOp) (x y : Nat) (w : World) : fv (arF op x y w) = fop op (fv x) (fv y) ∧ arF op x y w < 18446744073709551616 := by
 have hn : ∀ t, fv ((Question.nanBits .f64 x y).cut t) = none := fun t => if_pos (cut_nan x y t).1
 unfold arF fop
 cases h : floatBits op .f64 x y with
 | none =>
  refine ⟨?_, (cut_nan x y _).2⟩
  rw [hn]
  cases h1 : fv x with
  | none => rfl
  | some x' =>
   cases h2 : fv y with
   | none => rfl
   | some y' =>
    have e1 : x' = x := by unfold fv at h1; split at h1; cases h1; exact (Option.some.inj h1).symm
    have e2 : y' = y := by unfold fv at h2; split at h2; cases h2; exact (Option.some.inj h2).symm
    subst e1 e2
    exact h.symm
 | some r =>
  obtain ⟨r1, r2⟩ := floatBits_sane h
  refine ⟨?_, r1⟩
  have hr : fv r = some r := if_neg om
  have h1 : fv x = some x := by
   cases h1 : fv x with
   | none => rw [floatBits_nan (.inl h1)] at h; cases h
   | some x' => unfold fv at h1; split at h1; cases h1; rw [Option.some.inj h1]
  have h2 : fv y = some y := by
   cases h2 : fv y with
   | none => rw [floatBits_nan (.inr h2)] at h; cases h
   | some y' => unfold fv at h2; split at h2; cases h2; rw [Option.some.inj h2]
  rw [hr, h1, h2]
  exact h.symm
theorem c_nn {c : Nat} (h : c % 9223372036854775808 ≤ 9218868437227405312) : Fp.isNaN64 c = false := decide_eq_false om
theorem c_lt {x y : Nat} (hx : x % 9223372036854775808 ≤ 9218868437227405312) (hy : y % 9223372036854775808 ≤ 9218868437227405312) : (FloatKind.f64.format.order x y == some .lt) = decide (Fp.un Ieee.double x < Fp.un Ieee.double y) := by
 show (Ieee.double.order x y == some .lt) = _
 rw [Fp.lt64 x y (c_nn hx) (c_nn hy), ← Fp.key_double, ← Fp.key_double]
 exact decide_eq_decide.2 (Fp.un_lt_iff Ieee.double x y).symm
theorem c_gt {x y : Nat} (hx : x % 9223372036854775808 ≤ 9218868437227405312) (hy : y % 9223372036854775808 ≤ 9218868437227405312) : (FloatKind.f64.format.order x y == some .gt) = decide (Fp.un Ieee.double y < Fp.un Ieee.double x) := by
 show (Ieee.double.order x y == some .gt) = _
 rw [Fp.gt64 x y (c_nn hx) (c_nn hy), ← Fp.key_double, ← Fp.key_double]
 exact decide_eq_decide.2 (Fp.un_lt_iff Ieee.double y x).symm
theorem c_eq {x y : Nat} (hx : x % 9223372036854775808 ≤ 9218868437227405312) (hy : y % 9223372036854775808 ≤ 9218868437227405312) : (FloatKind.f64.format.order x y == some .eq) = decide (Fp.un Ieee.double x = Fp.un Ieee.double y) := by
 show (Ieee.double.order x y == some .eq) = _
 rw [Fp.eq64 x y (c_nn hx) (c_nn hy), ← Fp.key_double, ← Fp.key_double]
 exact decide_eq_decide.2 (Fp.un_eq_iff Ieee.double x y).symm
theorem c_ge {x y : Nat} (hx : x % 9223372036854775808 ≤ 9218868437227405312) (hy : y % 9223372036854775808 ≤ 9218868437227405312) : (FloatKind.f64.format.order x y == some .gt || FloatKind.f64.format.order x y == some .eq) = decide (Fp.un Ieee.double y ≤ Fp.un Ieee.double x) := by
 rw [c_gt hx hy, c_eq hx hy, Bool.eq_iff_iff, Bool.or_eq_true, decide_eq_true_iff, decide_eq_true_iff, decide_eq_true_iff]; omega
theorem c_le {x y : Nat} (hx : x % 9223372036854775808 ≤ 9218868437227405312) (hy : y % 9223372036854775808 ≤ 9218868437227405312) : (FloatKind.f64.format.order x y == some .lt || FloatKind.f64.format.order x y == some .eq) = decide (Fp.un Ieee.double x ≤ Fp.un Ieee.double y) := by
 rw [c_lt hx hy, c_eq hx hy, Bool.eq_iff_iff, Bool.or_eq_true, decide_eq_true_iff, decide_eq_true_iff, decide_eq_true_iff]; omega
theorem c_nan {x y : Nat} (h : 9218868437227405312 < x % 9223372036854775808 ∨ 9218868437227405312 < y % 9223372036854775808) (o : Ordering) : (FloatKind.f64.format.order x y == some o) = false := by
 show (Ieee.double.order x y == some o) = false
 rw [Fp.order64_nan x y (h.imp (fun h => decide_eq_true h) (fun h => decide_eq_true h))]
 rfl
theorem sub_self_zero (x : Nat) :
 (x % 9223372036854775808 < 9218868437227405312 → floatBits .sub .f64 x x = some 0) ∧ (¬ x % 9223372036854775808 < 9218868437227405312 → floatBits .sub .f64 x x = none) := by
 constructor
 ·intro hf
  have := Fp.sub_fin Ieee.double x x (by rw [Fp.rg64, Fp.dI]; exact hf) (by rw [Fp.rg64, Fp.dI]; exact hf)
  show Ieee.double.sub x x = some 0
  rw [this, Int.sub_self, if_pos rfl, Bool.and_not_self]
  rfl
 ·intro hf
  show ((Ieee.double.read x).sum (Ieee.double.read x).opposite).map Ieee.double.write = none
  rcases Nat.lt_or_ge 9218868437227405312 (x % 9223372036854775808) with g | g
  ·obtain ⟨s, k, hr⟩ := read_nan g
   rw [hr]; rfl
  ·rw [Fp.read_inf Ieee.double x (by rw [Fp.rg64, Fp.dI]; omega) Fp.dBI]
   cases Fp.sg Ieee.double x <;> rfl
end Go.Proofs.YtgkcpnidmfejeaaGreatDoor
section
namespace Go.Proofs.YtgkcpnidmfejeaaGreatDoor
theorem fin_canon {b : Nat} (h : b % 9223372036854775808 < 9218868437227405312) : canonD b = b := by
 unfold canonD
 rw [if_neg]
 unfold nanD
 simp; omega
theorem fin_exp {b : Nat} (h : b % 9223372036854775808 < 9218868437227405312) : expD b = b % 9223372036854775808 / 4503599627370496 ∧ fracD b = b % 4503599627370496 ∧ expD b < 2047 := by
 unfold expD fracD
 rw [fin_canon h]
 omega
theorem mag_parts {b : Nat} (h : b % 9223372036854775808 < 9218868437227405312) : Fp.mag Ieee.double (b % 9223372036854775808) = mantD b * 2 ^ (lowD b + 1074).toNat := by
 obtain ⟨h1, h2, h3⟩ := fin_exp h
 unfold Fp.mag mantD lowD
 rw [Fp.dB, h2, h1]
 by_cases h0 : b % 9223372036854775808 < 4503599627370496
 ·rw [if_pos h0, if_pos om, if_pos om, show (((1 : Nat) : Int) - 1075 + 1074).toNat = 0 from rfl, Nat.pow_zero, Nat.mul_one]
  omega
 ·rw [if_neg h0, if_neg om, if_neg om, show (((b % 9223372036854775808 / 4503599627370496 : Nat) : Int) - 1075 + 1074).toNat = b % 9223372036854775808 / 4503599627370496 - 1 by omega]
  congr 1
  omega
theorem lowD_ge (b : Nat) : -1074 ≤ lowD b := by unfold lowD; split <;> omega
theorem mag_odd {b : Nat} (h : b % 9223372036854775808 < 9218868437227405312) : Fp.mag Ieee.double (b % 9223372036854775808) = pMantD b * 2 ^ (pExpD b + 1074).toNat := by
 rw [mag_parts h]
 obtain ⟨_, _, h3⟩ := fin_exp h
 unfold pMantD pExpD
 rw [if_neg om]
 by_cases h0 : mantD b = 0
 ·rw [if_pos (.inr h0), h0, Nat.zero_mul, Nat.zero_div, Nat.zero_mul]
 ·rw [if_neg om]
  obtain ⟨m, e1, e2, e3⟩ := odd_split h0 (by have := mantD_lt b; omega)
  have hl := lowD_ge b
  generalize Lib.ctz 64 (mantD b) = k at *
  rw [show (lowD b + (k : Int) + 1074).toNat = k + (lowD b + 1074).toNat by omega, Nat.pow_add, ← Nat.mul_assoc]
  congr 1
  rw [e2, Nat.mul_div_cancel_left _ (Nat.two_pow_pos k), Nat.mul_comm]
theorem sg_is {b : Nat} (hb : b < 18446744073709551616) : Fp.sg Ieee.double b = decide (9223372036854775808 ≤ b) := by
 unfold Fp.sg
 rw [show Ieee.double.signWeight = 9223372036854775808 by decide +kernel]
 exact decide_eq_decide.2 om
theorem whole_un {b : Nat} (hb : b < 18446744073709551616) (h : b % 9223372036854775808 < 9218868437227405312) : P64.wholeI b = Fp.un Ieee.double b := by
 obtain ⟨_, _, h3⟩ := fin_exp h
 have hn0 : pNegD b = decide (9223372036854775808 ≤ b) := by
  unfold pNegD negD
  rw [if_neg om, fin_canon h]
 unfold P64.wholeI Fp.un P64.sgv
 rw [hn0, Fp.rg64, mag_odd h]
 have hs := sg_is hb
 rw [hs]
 by_cases hn : 9223372036854775808 ≤ b
 ·rw [if_pos (decide_eq_true hn), if_pos (decide_eq_true hn), Int.neg_mul]; simp
 ·rw [if_neg (by simpa using hn), if_neg (by simpa using hn)]; simp
theorem len_bounds {x : Nat} (h : x ≠ 0) (hx : x < 18446744073709551616) : 2 ^ (Lib.bitLen x - 1) ≤ x ∧ x < 2 ^ Lib.bitLen x ∧ 1 ≤ Lib.bitLen x := by
 rw [bitLen_log2 x h hx]
 exact ⟨Nat.log2_self_le h, Nat.lt_log2_self, by omega⟩
theorem join_fields (neg : Bool) (q fr : Nat) (hq : q < 2047) (hf : fr < 4503599627370496) :
 joinD neg q fr = bitsOfD neg q fr ∧ joinED q fr = 0 ∧ bitsOfD neg q fr < 18446744073709551616 ∧ nanD (bitsOfD neg q fr) = false ∧ expD (bitsOfD neg q fr) = q ∧ fracD (bitsOfD neg q fr) = fr ∧ negD (bitsOfD neg q fr) = neg := by
 have hn : nanD (bitsOfD neg q fr) = false := by
  unfold bitsOfD; cases neg
  ·exact decide_eq_false (by simp; omega)
  ·exact decide_eq_false (by simp; omega)
 have hc := canonD_id hn
 refine ⟨?_, ?_, ?_, hn, ?_, ?_, ?_⟩
 ·unfold joinD; rw [if_neg om, Int.toNat_natCast, hc]
 ·unfold joinED; rw [if_neg om]
 ·unfold bitsOfD; cases neg
  ·simp; omega
  ·simp; omega
 ·unfold expD; rw [hc]; unfold bitsOfD; cases neg
  ·simp; omega
  ·simp; omega
 ·unfold fracD; rw [hc]; unfold bitsOfD; cases neg
  ·simp; omega
  ·simp; omega
 ·unfold negD; rw [hc]; unfold bitsOfD; cases neg
  ·exact decide_eq_false (by simp; omega)
  ·exact decide_eq_true (by simp)
theorem parts_of {n M : Nat} {m d : Nat} (he : expD n < 2047) (hM : mantD n = M) (hs : M = 2 ^ d * (2 * m + 1)) (hx : M < 18446744073709551616) :
 pMantD n = 2 * m + 1 ∧ pExpD n = lowD n + d ∧ pNegD n = negD n ∧ pErrD n = 0 := by
 have hk : Lib.ctz 64 M = d := ctz_eq hs hx
 have hp := Nat.two_pow_pos d
 have h0 : mantD n ≠ 0 := by
  rw [hM, hs]
  exact Nat.mul_ne_zero om om
 refine ⟨?_, ?_, ?_, ?_⟩
 ·unfold pMantD; rw [if_neg om, hM, hk, hs, Nat.mul_div_cancel_left _ hp]
 ·unfold pExpD; rw [if_neg om, hM, hk]
 ·unfold pNegD; rw [if_neg om]
 ·unfold pErrD; rw [if_neg om]
theorem zz92 {p : Prop} (h : p := by
 obtain ⟨p1, p2, p3, p4⟩ := parts_of (n := n) om hM hTs om
 exact ⟨j3, j4, p4, by rw [p3, j7], p1, by rw [p2, hlw]; omega, by omega, by omega⟩) : p := h
theorem made_parts (neg : Bool) (mant : Nat) (e : Int) (h0 : mant ≠ 0) (hm : mant < 18446744073709551616) (he : madeED mant e = 0) :
 madeD neg mant e < 18446744073709551616 ∧ nanD (madeD neg mant e) = false ∧ pErrD (madeD neg mant e) = 0 ∧ pNegD (madeD neg mant e) = neg ∧
 pMantD (madeD neg mant e) = oddM mant ∧ pExpD (madeD neg mant e) = oddE mant e ∧ -2150 ≤ e ∧ e ≤ 2150 := by
 unfold madeED at he
 rw [if_neg h0] at he
 cases hb : badD mant e
 ·rw [hb, if_neg (by simp)] at he
  by_cases hf : 2047 ≤ fieldD mant e
  ·rw [if_pos hf] at he; omega
  unfold madeD
  rw [if_neg h0, hb, if_neg (by simp), if_neg hf]
  obtain ⟨m, ho, hs, hk⟩ := odd_split h0 hm
  unfold badD at hb
  simp only [Bool.or_eq_false_iff, decide_eq_false_iff_not] at hb
  obtain ⟨⟨⟨b1, b2⟩, b3⟩, b4⟩ := hb
  have hoM : oddM mant < 18446744073709551616 := by unfold oddM; exact Nat.lt_of_le_of_lt (Nat.div_le_self _ _) hm
  have hL := len_bounds (x := oddM mant) om hoM
  have hd : downD mant e = min (53 - Lib.bitLen (oddM mant)) (oddE mant e - -1074).toNat := rfl
  have ht : topD mant e = oddM mant * 2 ^ downD mant e := rfl
  have hfd : fieldD mant e = if topD mant e < 4503599627370496 then 0 else oddE mant e - downD mant e + 1075 := rfl
  generalize Lib.bitLen (oddM mant) = L at *
  generalize oddE mant e = E at *
  generalize downD mant e = d at *
  generalize topD mant e = T at *
  generalize fieldD mant e = f at *
  rw [ho] at ht hL
  rw [ho]
  have hT : T < 9007199254740992 := by
   have h1 : (2 * m + 1) * 2 ^ d < 2 ^ L * 2 ^ d := Nat.mul_lt_mul_of_pos_right hL.2.1 (Nat.two_pow_pos d)
   rw [← Nat.pow_add] at h1
   have h2 : 2 ^ (L + d) ≤ 2 ^ 53 := Nat.pow_le_pow_right dc om
   have h3 : (2:Nat) ^ 53 = 9007199254740992 := rfl
   omega
  have hTs : T = 2 ^ d * (2 * m + 1) := by rw [ht, Nat.mul_comm]
  by_cases hlow : T < 4503599627370496
  ·rw [if_pos hlow] at hfd
   have hdE : (d : Int) = E + 1074 := by
    by_cases h : 53 - L ≤ (E - -1074).toNat
    ·have hd' : d = 53 - L := by omega
     have h1 : 2 ^ (L - 1) * 2 ^ d ≤ (2 * m + 1) * 2 ^ d := Nat.mul_le_mul_right _ hL.1
     rw [← Nat.pow_add, show L - 1 + d = 52 by omega, ← ht] at h1
     have h3 : (2:Nat) ^ 52 = 4503599627370496 := rfl
     omega
    ·omega
   have J := join_fields neg 0 T om hlow
   rw [hfd, Nat.mod_eq_of_lt hlow]
   have J0 : joinD neg 0 T = bitsOfD neg 0 T := J.1
   rw [J0]
   generalize bitsOfD neg 0 T = n at *
   obtain ⟨_, _, j3, j4, j5, j6, j7⟩ := J
   have hM : mantD n = T := by unfold mantD; rw [if_pos j5, j6]
   have hlw : lowD n = -1074 := by unfold lowD; rw [if_pos j5]; rfl
   exact zz92
  ·rw [if_neg hlow] at hfd
   obtain ⟨q, hq⟩ : ∃ q : Nat, f = q := ⟨f.toNat, by omega⟩
   subst hq
   have J := join_fields neg q (T % 4503599627370496) om om
   rw [J.1]
   generalize bitsOfD neg q (T % 4503599627370496) = n at *
   obtain ⟨_, _, j3, j4, j5, j6, j7⟩ := J
   have hM : mantD n = T := by unfold mantD; rw [if_neg om, j6]; omega
   have hlw : lowD n = (q : Int) - 1075 := by unfold lowD; rw [if_neg om, j5]
   exact zz92
 ·rw [hb, if_pos rfl] at he; omega
theorem blen_le {q : Nat} {L : Nat} (h : q < 2 ^ L) (hx : q < 18446744073709551616) : Lib.bitLen q ≤ L := by
 rcases Nat.eq_zero_or_pos q with h0 | h0
 ·rw [h0, bitLen_zero]; exact Nat.zero_le _
 ·have k := len_bounds (x := q) om hx
  rcases Nat.lt_or_ge L (Lib.bitLen q) with g | g
  ·have := Nat.pow_le_pow_right (n := 2) dc (show L ≤ Lib.bitLen q - 1 by omega)
   omega
  ·exact g
theorem pow53 : (2 : Nat) ^ 53 = 9007199254740992 := by decide
theorem made_ok {q L : Nat} {last : Int} (h0 : q ≠ 0) (hq : q ≤ 9007199254740992) (hl : -1074 ≤ last) (hL : q < 2 ^ L) (ht : last + L ≤ 1024) : madeED q last = 0 := by
 have hx : q < 18446744073709551616 := by omega
 obtain ⟨m, ho, hs, hk⟩ := odd_split h0 hx
 have hoM : oddM q < 9007199254740992 := by
  rw [ho]
  rcases Nat.eq_zero_or_pos (Lib.ctz 64 q) with g | g
  ·rw [g, Nat.pow_zero, Nat.one_mul] at hs
   omega
  ·have k : 2 * (2 * m + 1) ≤ 2 ^ Lib.ctz 64 q * (2 * m + 1) := Nat.mul_le_mul_right _ (by
    have := Nat.pow_le_pow_right (n := 2) dc g
    omega)
   omega
 have hb := blen_le (q := oddM q) (L := 53) (by rw [pow53]; exact hoM) om
 have hL0 : 0 < L := by
  rcases Nat.eq_zero_or_pos L with g | g
  ·rw [g] at hL; omega
  ·exact g
 have hE : oddE q last = last + Lib.ctz 64 q := rfl
 have bad : badD q last = false := by
  unfold badD
  rw [decide_eq_false om, decide_eq_false om, decide_eq_false om, decide_eq_false om]; rfl
 unfold madeED
 rw [if_neg h0, bad, if_neg Bool.false_ne_true]
 have hlen := len_bounds (x := oddM q) om om
 have ht2 : topD q last = oddM q * 2 ^ downD q last := rfl
 have hd : downD q last = min (53 - Lib.bitLen (oddM q)) (oddE q last - -1074).toNat := rfl
 have hf : fieldD q last = if topD q last < 4503599627370496 then 0 else oddE q last - downD q last + 1075 := rfl
 have hT : topD q last < 9007199254740992 := by
  rw [ht2, ← pow53]
  refine Nat.lt_of_lt_of_le (Nat.mul_lt_mul_of_pos_right hlen.2.1 (Nat.two_pow_pos _)) ?_
  rw [← Nat.pow_add]
  exact Nat.pow_le_pow_right dc om
 have hfl : 0 ≤ fieldD q last ∧ fieldD q last < 2047 := by
  rw [hf]
  split
  ·omega
  ·rename_i g
   refine ⟨by omega, ?_⟩
   rcases Int.lt_or_le (oddE q last - downD q last + 1075) 2047 with k | k
   ·exact k
   ·exfalso
    have p52 : (2 : Nat) ^ 52 = 4503599627370496 := by decide
    -- topD * 2^(oddE - down) = q * 2^last
    have e1 : 2 ^ 52 ≤ topD q last := by rw [p52]; omega
    have e2 : 2 ^ 52 * 2 ^ (last - -1074 + Lib.ctz 64 q - downD q last).toNat ≤ topD q last * 2 ^ (last - -1074 + Lib.ctz 64 q - downD q last).toNat := Nat.mul_le_mul_right _ e1
    have e3 : topD q last * 2 ^ (last - -1074 + Lib.ctz 64 q - downD q last).toNat = q * 2 ^ (last - -1074).toNat := by
     rw [ht2, ho]
     conv => rhs; rw [hs]
     rw [Nat.mul_assoc, ← Nat.pow_add, Nat.mul_comm (2 ^ Lib.ctz 64 q), Nat.mul_assoc, ← Nat.pow_add]
     congr 2
     omega
    rw [e3, ← Nat.pow_add] at e2
    have e4 : q * 2 ^ (last - -1074).toNat < 2 ^ L * 2 ^ (last - -1074).toNat := Nat.mul_lt_mul_of_pos_right hL (Nat.two_pow_pos _)
    rw [← Nat.pow_add] at e4
    have e5 := (Nat.pow_lt_pow_iff_right (a := 2) dc).1 (Nat.lt_of_le_of_lt e2 e4)
    omega
 rw [if_neg om]
 obtain ⟨f, hf2⟩ : ∃ f : Nat, fieldD q last = f := ⟨(fieldD q last).toNat, by omega⟩
 rw [hf2]
 exact (join_fields false f (topD q last % 4503599627370496) om om).2.1
theorem made_un {neg : Bool} {q L : Nat} {last : Int} (hq : q ≤ 9007199254740992) (hl : -1074 ≤ last) (hL : q < 2 ^ L) (ht : last + L ≤ 1024) :
 Fi (madeD neg q last) ∧ Fp.un Ieee.double (madeD neg q last) = sgI neg q * 2 ^ (last + 1074).toNat := by
 rcases Nat.eq_zero_or_pos q with h0 | h0
 ·subst h0
  have e : madeD neg 0 last = if neg then 9223372036854775808 else 0 := by
   unfold madeD
   rw [if_pos rfl]
   cases neg <;> decide
  rw [e]
  cases neg
  ·refine ⟨by unfold Fi; decide, ?_⟩
   show Fp.un Ieee.double 0 = ((0 : Nat) : Int) * _
   rw [un_zero]; simp
  ·refine ⟨by unfold Fi; decide, ?_⟩
   show Fp.un Ieee.double 9223372036854775808 = -((0 : Nat) : Int) * _
   rw [show Fp.un Ieee.double 9223372036854775808 = 0 by decide +kernel]; simp
 ·have hx : q < 18446744073709551616 := by omega
  have herr := made_ok om hq hl hL ht
  obtain ⟨p1, p2, p3, p4, p5, p6, _⟩ := made_parts neg q last om hx herr
  have hfi : Fi (madeD neg q last) := by
   refine ⟨p1, ?_⟩
   rcases Nat.lt_or_ge (madeD neg q last % 9223372036854775808) 9218868437227405312 with g | g
   ·exact g
   ·exfalso
    have : pErrD (madeD neg q last) = 4 := by
     unfold pErrD
     rw [if_pos]
     unfold expD
     rw [canonD_id p2]
     unfold nanD at p2
     have := of_decide_eq_false p2
     omega
    omega
  refine ⟨hfi, ?_⟩
  have hw := whole_un (b := madeD neg q last) hfi.1 hfi.2
  rw [← hw]
  unfold P64.wholeI
  rw [p4, p5, p6]
  obtain ⟨m, ho, hs, hk⟩ := odd_split (x := q) om hx
  have e1 : (oddE q last + 1074).toNat = Lib.ctz 64 q + (last + 1074).toNat := by
   show (last + (Lib.ctz 64 q : Nat) + 1074).toNat = _
   omega
  rw [e1, ho]
  have e2 : (sgI neg q : Int) = P64.sgv neg (2 * m + 1) * 2 ^ Lib.ctz 64 q := by
   have : (q : Int) = (2 * m + 1 : Nat) * 2 ^ Lib.ctz 64 q := by
    conv => lhs; rw [hs]
    push_cast
    exact Int.mul_comm _ _
   unfold sgI P64.sgv
   split
   ·rw [this, Int.neg_mul]
   ·exact this
  rw [e2, Int.pow_add, Int.mul_assoc]
end Go.Proofs.YtgkcpnidmfejeaaGreatDoor
end
namespace Go.Proofs.YtgkcpnidmfejeaaGreatDoor
open Go.RowKit
def ofP (b : Nat) : Int := P64.sgv (pNegD b) (pMantD b)
theorem ofP_val {x : Nat} (h : Fi x) : dyR (ofP x) (pExpD x) = rvD x := by
 refine (rvD_of (P64.pExpD_range x).1 ?_).symm
 rw [← whole_un h.1 h.2]
 rfl
theorem len32 {n K J : Nat} (h : n < 2 ^ K) (hJ : K ≤ 32 * J) : (dg n).length ≤ J := dg32_small (Nat.lt_of_lt_of_le h (Nat.pow_le_pow_right dc hJ))
theorem mul_lim {K : Nat} (h : K ≤ 60000) : K ≤ 32 * 2048 := by omega
theorem pMant_small (b : Nat) : pMantD b < 2 ^ 53 := by
 rw [pow53]
 unfold pMantD
 split
 ·decide
 ·exact Nat.lt_of_le_of_lt (Nat.div_le_self _ _) (by have := mantD_lt b; omega)
theorem ofP_small (b : Nat) : (ofP b).natAbs < 2 ^ 53 := by
 unfold ofP
 rw [P64.sgv_abs]
 exact pMant_small b
theorem zz57 {p : Prop} (h : p := by
 go_wp2
 (try simp only [Exit.inBlock, Exit.then]); refine bodyPost_ret (v := .agg #[.pointer (some ⟨z, 0, none⟩), .int .i64 p]) (by simp [results, Tryz.results170, go_sem, r0, r1]) rfl ?_
 exact ⟨z, rfl, HF.out, by have := HZ.out; omega, (hww.setCell (p := ⟨w.heap.size, 0, none⟩) (Nat.le_refl _) _).setCell (p := ⟨w.heap.size, 1, none⟩) (Nat.le_refl _) _⟩) : p := h
theorem Dof (x : Nat) (h : Fi x) (w : World) (hT : Tab w) : Calls Tryz.prog 170 #[.float .f64 x] w (ExP w (ofP x) (pExpD x)) := by
 have hm := P64.pMantD_lt x
 have hx0 := h.1
 have PT := Hh (fun w hT => Parts_D x hx0 w hT)
 have SU := Hh (fun (z : Nat) w hz => P64.PsetUint64 z (pMantD x) hm w hz)
 have hl := Nat.le_trans (P64.dg_len_le (n := pMantD x) (k := 1) om) (show 1 ≤ 400000 by decide)
 have NG := Hh (fun (z : Nat) w hz hx => P64.Pneg z z (pMantD x : Int) (by rw [Int.natAbs_natCast]; exact hl) w hz hx)
 have hof : ofP x = P64.sgv (pNegD x) (pMantD x) := rfl
 rw [hof]
 clear hof hm hl
 generalize pNegD x = ng at *; generalize pMantD x = m at *; generalize pExpD x = p at *; generalize pErrD x = er at *
 have HT := Hh hT; clear hT
 have hB0 := heap_alloc_new w (.cells #[.pointer none, .int .i64 0] 231)
 have hw0 : Within w (w.alloc (.cells #[.pointer none, .int .i64 0] 231)) := (Within.refl w).alloc _
 go_enter Tryz.func170, Tryz.ntmps170
 go_wp2_with fail
 refine (PT.out _ (HT.out.of hw0)).mono ?_; rintro r1 w1 ⟨rfl, hb1⟩
 have hB01 := (hb1.block w.heap.size (by simp)).trans hB0
 have hw1 := hw0.trans hb1
 have hM := heap_alloc_new w1 (.cells #[.bool ng, .int .u64 (m : Int), .int .i64 p] 279)
 have hs1 := hw1.size
 have hw2 : Within w1 (w1.alloc (.cells #[.bool ng, .int .u64 (m : Int), .int .i64 p] 279)) := (Within.refl _).alloc _
 have hs2 : (w1.alloc (.cells #[.bool ng, .int .u64 (m : Int), .int .i64 p] 279)).heap.size = w1.heap.size + 1 := by simp
 go_upto_region 2 with fail
 generalize hW2 : w1.alloc (.cells #[.bool ng, .int .u64 (m : Int), .int .i64 p] 279) = W2 at *
 clear hW2
 have hB02 := (hw2.block w.heap.size (by have := hb1.size; simp at this; omega)).trans hB01
 obtain ⟨bp, hbp⟩ : ∃ b, b = w1.heap.size := ⟨_, rfl⟩
 rw [← hbp] at hM hs2 ⊢
 obtain ⟨q0, q1, q2⟩ := tri_cells hM
 have lb0 : w.heap.size < bp := by have := hb1.size; simp at this; omega
 have hwW := hw1.trans hw2
 have HS := Hh (show W2.heap.size = bp + 1 ∧ w.heap.size < bp from ⟨hs2, lb0⟩)
 clear hB0 hB01 hw0 hb1 hbp hs1 hs2 lb0 hw2
 have hTz : P64.IntTy (W2.alloc (.cells #[.bool false, .slice none 0 0] 229)) W2.heap.size := (P64.IntB.made W2).ty
 have ha3 : Within W2 (W2.alloc (.cells #[.bool false, .slice none 0 0] 229)) := (Within.refl _).alloc _
 have q13 := (ha3.cells _ _ (by have := HS.out; show bp < W2.heap.size; omega)).trans q1
 go_wp2_with fail
 refine (SU.out W2.heap.size _ hTz).mono ?_; rintro r3 w3 ⟨rfl, hI3, hG3⟩
 have hb3 : Within W2 w3 := Within.grown ha3 hG3 (Nat.le_refl _)
 have q03 := (hb3.cells _ _ (by have := HS.out; show bp < W2.heap.size; omega)).trans q0; have q23 := (hb3.cells _ _ (by have := HS.out; show bp < W2.heap.size; omega)).trans q2
 have hB03 := (hb3.block w.heap.size (by have := HS.out; omega)).trans hB02
 obtain ⟨z, hz⟩ : ∃ z, z = W2.heap.size := ⟨_, rfl⟩
 rw [← hz] at hI3 ⊢
 have HZ := Hh (show w.heap.size < z ∧ bp < z from by have := HS.out; omega)
 clear hz hG3 hTz ha3 q13
 cases ng
 ·obtain ⟨k0, k1, kf, kg, k2, r0, r1⟩ := pair_block hB03 (.pointer (some ⟨z, 0, none⟩)) (.int .i64 p)
  have kf0 := kf 0; have kf1 := kf 1; have kg1 := kg 1
  have HF := Hh (P64.IntB.pair hI3 hB03 dc dc (.pointer (some ⟨z, 0, none⟩)) (.int .i64 p))
  have hww := hwW.trans hb3
  clear hB03
  exact zz57
 ·go_wp2_with fail
  refine (NG.out z _ hI3.ty hI3).mono ?_; rintro r4 w4 ⟨rfl, hI4, hG4⟩
  have q24 := hG4.cell q23 (show (some bp : Option Nat) ≠ some z from fun q => by injection q with q; have := HZ.out; omega)
  have hB04 := (hG4.block w.heap.size (by have := hb3.size; have := HS.out; omega) (fun q => by injection q with q; have := HZ.out; omega)).trans hB03
  have hw4 := Within.grown (hwW.trans hb3) hG4 (by have := HZ.out; omega)
  obtain ⟨k0, k1, kf, kg, k2, r0, r1⟩ := pair_block hB04 (.pointer (some ⟨z, 0, none⟩)) (.int .i64 p)
  have kf0 := kf 0; have kf1 := kf 1; have kg1 := kg 1
  have HF := Hh (P64.IntB.pair hI4 hB04 dc dc (.pointer (some ⟨z, 0, none⟩)) (.int .i64 p))
  have hww := hw4
  clear hB04
  exact zz57
theorem Dmay_zero (A : Option Addr) (c : Nat) (w : World) : Calls Tryz.prog 176 #[.agg #[.bool false, .slice A 0 c, .int .i64 0]] w (fun r w' => r = .returned (.bool true) ∧ Within w w') := by
 go_enter Tryz.func176, Tryz.ntmps176
 go_wp2
 go_ret
 exact ⟨rfl, (Within.refl w).alloc _⟩
theorem Dmay_pos (ng : Bool) (L c g t0 t1 : Nat) (e : Int) (h0 : 0 < L) (hL : L ≤ 2048) (h1 : t0 % 2 = 1) (h2 : t1 ≠ 0) (h4 : t0 < 4294967296) (he : -100000 ≤ e ∧ e ≤ 100000) (w : World) (c0 : w.cell? ⟨g, 0, none⟩ = some (.int .u32 (t0 : Int))) (c1 : w.cell? ⟨g, L - 1, none⟩ = some (.int .u32 (t1 : Int))) : Calls Tryz.prog 176 #[.agg #[.bool ng, .slice (some ⟨g, 0, none⟩) L c, .int .i64 e]] w (fun r w' => r = .returned (.bool true) ∧ Within w w') := by
 have lg := World.block_lt_of_cell? _ _ c0
 have hwB : Within w (w.alloc (.cells #[.bool ng, .slice (some ⟨g, 0, none⟩) L c, .int .i64 e] 150)) := (Within.refl w).alloc _
 have c0' := (hwB.cells _ _ lg).trans c0; have c1' := (hwB.cells _ _ lg).trans c1
 obtain ⟨k, rfl⟩ : ∃ k, L = k + 1 := ⟨L - 1, by omega⟩
 rw [Nat.add_sub_cancel] at c1'
 have d0 : (((k + 1 : Nat) : Int) == 0) = false := beq_eq_false_iff_ne.2 om
 have d1 : decide (((k + 1 : Nat) : Int) ≤ 2048) = true := decide_eq_true om
 have d2 : ((t1 : Int) != 0) = true := bne_iff_ne.2 om
 have d3 : (((t0 : Int) % 2) == 1) = true := by rw [beq_iff_eq]; omega
 have d4 : decide (e ≥ -100000) = true := decide_eq_true om
 have d5 : decide (e ≤ 100000) = true := decide_eq_true om
 have w1 : IntKind.i64.wrap (((k + 1 : Nat) : Int) - 1) = (k : Int) := by rw [IntKind.wrap_i64]; omega
 have n1 : ¬ t1 = 0 := h2
 have n2 : t0 % 2 = 1 := h1
 have n3 : k ≤ 2047 := by omega
 have n4 : -100000 ≤ e := he.1
 have n5 : e ≤ 100000 := he.2
 go_enter Tryz.func176, Tryz.ntmps176
 go_wp2
 go_ret
 exact ⟨rfl, (Within.refl w).alloc _⟩
theorem Dmay (v : Value) (n e : Int) (K E : Nat) (hO : (n = 0 ∧ e = 0) ∨ n.natAbs % 2 = 1) (hK : n.natAbs < 2 ^ K) (hK2 : K ≤ 60000) (hE : -(E : Int) ≤ e ∧ e ≤ E) (hE2 : E ≤ 100000) (w : World) (hv : DyV w v n e) : Calls Tryz.prog 176 #[v] w (fun r w' => r = .returned (.bool true) ∧ Within w w') := by
 obtain ⟨A, c, rfl, hc, hr⟩ := hv
 rcases hO with ⟨rfl, rfl⟩ | ho
 ·rw [show (dg (0 : Int).natAbs) = [] from dg_zero]
  exact Dmay_zero A c w
 ·have hp := dg_len_pos (n := n.natAbs) om
  have hl : (dg n.natAbs).length ≤ 2048 := len32 hK (mul_lim hK2)
  obtain ⟨g, rfl, _, c0⟩ := hr.cell (i := 0) hp
  obtain ⟨g', e1, _, c1⟩ := hr.cell (i := (dg n.natAbs).length - 1) om
  injection e1 with e1; injection e1 with e1; subst e1
  have hd := dg_last (n := n.natAbs) om
  have hd0 := dg_at0 n.natAbs
  rw [hd0] at c0
  exact Dmay_pos _ _ c g _ _ e hp hl om hd om om w c0 c1
def DyR (W : World) (q : Rat) (K E : Nat) (r : Ending) (w' : World) : Prop := ∃ v n e, r = .returned (.tuple #[v, .int .i64 0]) ∧ DyV w' v n e ∧ ((n = 0 ∧ e = 0) ∨ n.natAbs % 2 = 1) ∧ dyR n e = q ∧ n.natAbs < 2 ^ K ∧ -(E : Int) ≤ e ∧ e ≤ E ∧ Within W w'
theorem row_tri {w : World} {z : Nat} {x y u : Value} {T : TypeId} {A : Option Addr} {l : List Nat} (hz : w.heap[z]? = some (.cells #[x, y, u] T (0, 0))) (hT : T ≠ 153) (h : RowAt w A l) (a b c : Value) :
 RowAt (((w.setCell ⟨z, 0, none⟩ a).setCell ⟨z, 1, none⟩ b).setCell ⟨z, 2, none⟩ c) A l :=
 h.of_block fun k m fn r => by
  have hne : k ≠ z := row32_neq hz hT r
  rw [Below.heap_setCell _ _ _ _ hne, Below.heap_setCell _ _ _ _ hne, Below.heap_setCell _ _ _ _ hne]
theorem put_bounds {n e n' e' : Int} {K E : Nat} (h : (n' = 0 ∧ e' = 0 ∧ n = 0) ∨ (n'.natAbs % 2 = 1 ∧ Halved n e n' e')) (hK : n.natAbs < 2 ^ K) (hE : -(E : Int) ≤ e ∧ e ≤ E) :
 ((n' = 0 ∧ e' = 0) ∨ n'.natAbs % 2 = 1) ∧ dyR n' e' = dyR n e ∧ n'.natAbs < 2 ^ K ∧ -((E + K : Nat) : Int) ≤ e' ∧ e' ≤ ((E + K : Nat) : Int) := by
 rcases h with ⟨rfl, rfl, rfl⟩ | ⟨h1, h2⟩
 ·exact ⟨.inl ⟨rfl, rfl⟩, by rw [dyR_zero, dyR_zero], hK, by omega, by omega⟩
 ·have := halved_bound h2 (fun g => by rw [g] at h1; simp at h1) hK
  have := h2.le
  exact ⟨.inr h1, h2.val, by omega, by omega, by omega⟩
theorem mul_lt2 {a b : Int} {K L : Nat} (h1 : a.natAbs < 2 ^ K) (h2 : b.natAbs < 2 ^ L) : (a * b).natAbs < 2 ^ (K + L) := by
 rw [Int.natAbs_mul, Nat.pow_add]
 exact Nat.mul_lt_mul_of_lt_of_le h1 (Nat.le_of_lt h2) (Nat.two_pow_pos _)
theorem classD_fi {x : Nat} (h : Fi x) : finD x = true := by
 unfold finD
 have h2 := h.2
 obtain ⟨h1, _, h3⟩ := fin_exp (b := x) h2
 unfold classD classOf
 rw [if_neg om, if_neg om]
 split <;> (try split) <;> rfl
theorem DOf (x : Nat) (h : Fi x) (w : World) (hT : Tab w) : Calls Tryz.prog 333 #[.float .f64 x] w (DyR w (rvD x) 53 (1100 + 53)) := by
 have hx := h.1
 have hfd : [x].all finD = true := by rw [List.all_cons, classD_fi h]; rfl
 have FI := Hh (fun wF hr => Finite_any (some ⟨w.heap.size + 1, 0, none⟩) 1 [x] (fun y hy => by rcases List.mem_singleton.1 hy with rfl; exact hx) (by simp) wF hr)
 rw [hfd] at FI
 have OF := Hh (fun w hT => Dof x h w hT)
 have PT := Hh (fun (g : Nat) w hT hI => Dput (ofP x) (pExpD x) g 53 (ofP_small x) dc (by have := P64.pExpD_range x; omega) w hT hI)
 have PB := Hh (fun (n' e' : Int) hp => put_bounds (n := ofP x) (e := pExpD x) (n' := n') (e' := e') (K := 53) (E := 1100) hp (ofP_small x) (by have := P64.pExpD_range x; omega))
 rw [ofP_val h] at PB
 have HT := Hh hT; clear hT hfd
 have hB0 := heap_alloc_new w (.cells #[.bool false, .slice none 0 0, .int .i64 0] 150)
 have hw1 : Within w (w.alloc (.cells #[.bool false, .slice none 0 0, .int .i64 0] 150)) := (Within.refl w).alloc _
 have hw2 : Within w ((w.alloc (.cells #[.bool false, .slice none 0 0, .int .i64 0] 150)).alloc (.cells #[.float .f64 x] 28)) := hw1.alloc _
 have hB2 : ((w.alloc (.cells #[.bool false, .slice none 0 0, .int .i64 0] 150)).alloc (.cells #[.float .f64 x] 28)).heap[w.heap.size]? = some (.cells #[.bool false, .slice none 0 0, .int .i64 0] 150 (0, 0)) := (((Within.refl _).alloc _ : Within (w.alloc (.cells #[.bool false, .slice none 0 0, .int .i64 0] 150)) ((w.alloc (.cells #[.bool false, .slice none 0 0, .int .i64 0] 150)).alloc (.cells #[.float .f64 x] 28))).block w.heap.size (by simp)).trans hB0
 have hsl : SlAt ((w.alloc (.cells #[.bool false, .slice none 0 0, .int .i64 0] 150)).alloc (.cells #[.float .f64 x] 28)) (some ⟨w.heap.size + 1, 0, none⟩) (f64v [x]) := by
  have := SlAt.one (w.alloc (.cells #[.bool false, .slice none 0 0, .int .i64 0] 150)) (.float .f64 x) 28
  simpa [f64v] using this
 go_enter Tryz.func333, Tryz.ntmps333
 go_wp2_with fail
 refine (FI.out _ hsl).mono ?_; rintro r3 w3 ⟨rfl, hb3⟩
 have hB3 := (hb3.block w.heap.size (by simp; omega)).trans hB2
 have hw3 := hw2.trans hb3
 go_wp2_with fail
 refine (OF.out _ (HT.out.of hw3)).mono ?_; rintro r4 w4 ⟨g, rfl, hI4, hg4, hb4⟩
 have hw4 := hw3.trans hb4
 have hB4 := (hb4.block w.heap.size (by have := hb3.size; simp at this; omega)).trans hB3
 go_wp2_with fail
 refine (PT.out g _ (HT.out.of hw4) hI4).mono ?_; rintro r5 w5 ⟨v, n, e, rfl, ⟨A, c, rfl, hc, hr⟩, hp, hb5⟩
 have hB5 := (hb5.block w.heap.size (by have := hb3.size; have := hb4.size; simp at *; omega)).trans hB4
 have HPB := Hh (PB.out n e hp); clear hp
 obtain ⟨m0, m1, m2, mf, mg, m3, mh, m4, hM⟩ := tri_block hB5 (.bool (decide (n < 0))) (.slice A (dg n.natAbs).length c) (.int .i64 e)
 have mf0 := mf 0; have mf1 := mf 1; have mf2 := mf 2; have mg1 := mg 1; have mg2 := mg 2; have mh2 := mh 2
 obtain ⟨z0, z1, z2⟩ := tri_cells hM
 have HRT := Hh (row_tri hB5 dc hr (.bool (decide (n < 0))) (.slice A (dg n.natAbs).length c) (.int .i64 e))
 have hww := hw4.trans hb5
 have HC := Hh hc
 clear hM hr hc
 go_wp2
 (try simp only [Exit.inBlock, Exit.then]); refine bodyPost_ret (v := .tuple #[.agg #[.bool (decide (n < 0)), .slice A (dg n.natAbs).length c, .int .i64 e], .int .i64 0]) (by simp [results, Tryz.results333, go_sem, z0, z1, z2]) rfl ?_
 exact ⟨_, n, e, rfl, ⟨A, c, rfl, HC.out, HRT.out⟩, HPB.out.1, HPB.out.2.1, HPB.out.2.2.1, HPB.out.2.2.2.1, HPB.out.2.2.2.2, ((hww.setCell (p := ⟨w.heap.size, 0, none⟩) (by show w.heap.size ≤ w.heap.size; omega) _).setCell (p := ⟨w.heap.size, 1, none⟩) (by show w.heap.size ≤ w.heap.size; omega) _).setCell (p := ⟨w.heap.size, 2, none⟩) (by show w.heap.size ≤ w.heap.size; omega) _⟩
theorem zz7 {p : Prop} (h : p := by
 have HT := Hh hT; clear hT hr1 hr2 hk1 hk2 he1 he2 hK hE ho1 ho2 hKK hEE
 go_enter Tryz.func173, Tryz.ntmps173
 go_upto_region 1 with fail
 obtain ⟨W3, hW3⟩ : ∃ W3, W3 = (((w.alloc (.cells #[.bool (decide (n1 < 0)), .slice A1 (dg n1.natAbs).length c1, .int .i64 e1] 150)).alloc (.cells #[.bool (decide (n2 < 0)), .slice A2 (dg n2.natAbs).length c2, .int .i64 e2] 150)).alloc (.cells #[.bool false, .slice none 0 0, .int .i64 0] 150)) := ⟨_, rfl⟩
 have hs3 : W3.heap.size = w.heap.size + 3 := by rw [hW3]; simp
 rw [← hW3] at hwN hB0 hB1 hB2 V1 V2 hR1 hR2 ⊢
 clear hW3
 obtain ⟨b0, hb0⟩ : ∃ b, b = w.heap.size := ⟨_, rfl⟩
 have HS := Hh (And.intro hs3 hb0)
 rw [← hb0] at hB0 hB1 hB2 ⊢
 clear hb0 hs3
 obtain ⟨x0, x1, x2⟩ := tri_cells hB0
 obtain ⟨y0, y1, y2⟩ := tri_cells hB1
 go_wp2_with fail
 refine (M1.out _ V1).mono ?_; rintro r4 w4 ⟨rfl, hb4⟩
 have y04 := (hb4.cells _ _ (show b0 + 1 < W3.heap.size by have := HS.out; omega)).trans y0; have y14 := (hb4.cells _ _ (show b0 + 1 < W3.heap.size by have := HS.out; omega)).trans y1; have y24 := (hb4.cells _ _ (show b0 + 1 < W3.heap.size by have := HS.out; omega)).trans y2
 go_wp2_with fail
 refine (M2.out _ (V2.of hb4)).mono ?_; rintro r5 w5 ⟨rfl, hb5⟩
 have hb35 := hb4.trans hb5
 have hs5 := hb35.size
 have x05 := (hb35.cells _ _ (show b0 < W3.heap.size by have := HS.out; omega)).trans x0; have x15 := (hb35.cells _ _ (show b0 < W3.heap.size by have := HS.out; omega)).trans x1; have x25 := (hb35.cells _ _ (show b0 < W3.heap.size by have := HS.out; omega)).trans x2
 have y05 := (hb5.cells _ _ (Nat.lt_of_lt_of_le (show b0 + 1 < W3.heap.size by have := HS.out; omega) hb4.size)).trans y04; have y15 := (hb5.cells _ _ (Nat.lt_of_lt_of_le (show b0 + 1 < W3.heap.size by have := HS.out; omega) hb4.size)).trans y14; have y25 := (hb5.cells _ _ (Nat.lt_of_lt_of_le (show b0 + 1 < W3.heap.size by have := HS.out; omega) hb4.size)).trans y24
 have hB25 := (hb35.block (b0 + 2) (by have := HS.out; omega)).trans hB2
 have hR15 := hR1.of hb35; have hR25 := hR2.of hb35
 have hw5 := hwN.trans hb35
 clear x0 x1 x2 y0 y1 y2 y04 y14 y24 V1 V2
 go_upto_region 3 with fail
 refine wp_region_schG (fun W => W.cell? ⟨b0, 0, none⟩ = some (.bool (decide (n1 < 0))) ∧ W.cell? ⟨b0, 1, none⟩ = some (.slice A1 (dg n1.natAbs).length c1) ∧ W.cell? ⟨b0, 2, none⟩ = some (.int .i64 e1) ∧ W.cell? ⟨b0 + 1, 0, none⟩ = some (.bool (decide (n2 < 0))) ∧ W.cell? ⟨b0 + 1, 1, none⟩ = some (.slice A2 (dg n2.natAbs).length c2) ∧ W.cell? ⟨b0 + 1, 2, none⟩ = some (.int .i64 e2) ∧ b0 < W.heap.size ∧ b0 + 1 < W.heap.size ∧ W = w5) 9 (.firm 0 (.firm 1 (.firm 3 (.one 2 (.one 4 (.one 5 (.one 6 (.firm 7 (.firm 8 (.one 9 (.one 10 .nil))))))))))) kr kr ⟨x05, x15, x25, y05, y15, y25, by have := HS.out; omega, by have := HS.out; omega, rfl⟩ ?_
 rintro w0 ⟨p0, p1, p2_, s0, s1, s2, pl, sl, hwr⟩
 subst hwr
 try simp only [pu]
 iterate 3
  apply sch_firm rfl rfl wi
  ·intro wq hq
   have hcq := hq.cells
   clear hq
   go_simp
   rfl
  try simp only [pu]
 refine sch_one rfl rfl (fun K hK => ?_)
 go_simp
 refine (T1.out _ (hR15.of (Within.refl _).drew)).mono ?_; rintro r6 w6 ⟨g1, rfl, hI6, _, hb6⟩
 have hv6 : Within w0 w6 := (Within.refl _).drew.trans hb6
 refine hK _ _ (fun _ => wi) ?_
 clear hK K
 try simp only [pu]
 refine sch_one rfl rfl (fun K hK => ?_)
 go_simp
 refine (T2.out _ (hR25.of hv6)).mono ?_; rintro r7 w7 ⟨g2, rfl, hI7, _, hb7⟩
 have hv7 : Within w0 w7 := hv6.trans hb7
 refine hK _ _ (fun _ => wi) ?_
 clear hK K
 try simp only [pu]
 refine sch_one rfl rfl (fun K hK => ?_)
 go_simp
 refine (DO.out g1 g2 _ (hI6.of hb7) hI7).mono ?_; rintro r8 w8 ⟨n, e, ⟨g, rfl, hI8, hb8⟩, hval, hn, he1, he2⟩
 have hv8 : Within w0 w8 := hv7.trans hb8
 refine hK _ _ (fun _ => wi) ?_
 clear hK K
 try simp only [pu]
 refine sch_one rfl rfl (fun K hK => ?_)
 go_simp
 refine (PT.out n e g hn ⟨he1, he2⟩ _ (HT.out.of (hw5.trans hv8)) hI8).mono ?_; rintro r9 w9 ⟨v, n', e', rfl, ⟨A, c, rfl, hc, hr⟩, hp, hb9⟩
 have hv9 : Within w0 w9 := hv8.trans hb9
 have hB29 := (hv9.block (b0 + 2) (by have := HS.out; omega)).trans hB25
 have HPB := Hh (PB.out n e n' e' hn ⟨he1, he2⟩ hp); have HVL := Hh hval; clear hp hval
 obtain ⟨m0, m1, m2, mf, mg, m3, mh, m4, hM⟩ := tri_block hB29 (.bool (decide (n' < 0))) (.slice A (dg n'.natAbs).length c) (.int .i64 e')
 have mf0 := mf 0; have mf1 := mf 1; have mf2 := mf 2; have mg1 := mg 1; have mg2 := mg 2; have mh2 := mh 2
 obtain ⟨z0, z1, z2⟩ := tri_cells hM
 have HRT := Hh (row_tri hB29 dc hr (.bool (decide (n' < 0))) (.slice A (dg n'.natAbs).length c) (.int .i64 e'))
 have hww := hw5.trans hv9
 have HC := Hh hc
 clear hM hr hc
 refine hK _ _ (fun _ => wi) ?_
 clear hK K
 try simp only [pu]
 iterate 2
  apply sch_firm rfl rfl wi
  ·intro wq hq
   have hcq := hq.cells
   clear hq
   go_simp
   rfl
  try simp only [pu]
 refine sch_one rfl rfl (fun K hK => ?_)
 go_simp
 refine hK _ _ ab ?_
 clear hK K
 try simp only [pu]
 refine sch_one rfl rfl (fun K hK => ?_)
 go_simp
 refine hK _ _ ab ?_
 clear hK K
 try simp only [pu]
 refine sch_nil ?_
 go_wp2
 (try simp only [Exit.inBlock, Exit.then]); refine bodyPost_ret (v := .tuple #[.agg #[.bool (decide (n' < 0)), .slice A (dg n'.natAbs).length c, .int .i64 e'], .int .i64 0]) (by simp [results, Tryz.results173, go_sem, z0, z1, z2]) rfl ?_
 exact ⟨_, n', e', rfl, ⟨A, c, rfl, HC.out, HRT.out⟩, HPB.out.1, by rw [← HVL.out]; exact HPB.out.2.1, HPB.out.2.2.1, HPB.out.2.2.2.1, HPB.out.2.2.2.2, ((hww.setCell (p := ⟨b0 + 2, 0, none⟩) (by have := HS.out; show w.heap.size ≤ b0 + 2; omega) _).setCell (p := ⟨b0 + 2, 1, none⟩) (by have := HS.out; show w.heap.size ≤ b0 + 2; omega) _).setCell (p := ⟨b0 + 2, 2, none⟩) (by have := HS.out; show w.heap.size ≤ b0 + 2; omega) _⟩) : p := h
theorem zz34 {p : Prop} (h : p := by
 have := heap_alloc_new (w.alloc (.cells #[.bool (decide (n1 < 0)), .slice A1 (dg n1.natAbs).length c1, .int .i64 e1] 150)) (.cells #[.bool (decide (n2 < 0)), .slice A2 (dg n2.natAbs).length c2, .int .i64 e2] 150)
 have k1 : Within ((w.alloc (.cells #[.bool (decide (n1 < 0)), .slice A1 (dg n1.natAbs).length c1, .int .i64 e1] 150)).alloc (.cells #[.bool (decide (n2 < 0)), .slice A2 (dg n2.natAbs).length c2, .int .i64 e2] 150)) (((w.alloc (.cells #[.bool (decide (n1 < 0)), .slice A1 (dg n1.natAbs).length c1, .int .i64 e1] 150)).alloc (.cells #[.bool (decide (n2 < 0)), .slice A2 (dg n2.natAbs).length c2, .int .i64 e2] 150)).alloc (.cells #[.bool false, .slice none 0 0, .int .i64 0] 150)) := (Within.refl _).alloc _
 have h2 : (w.alloc (.cells #[.bool (decide (n1 < 0)), .slice A1 (dg n1.natAbs).length c1, .int .i64 e1] 150)).heap.size = w.heap.size + 1 := by simp
 rw [h2] at this
 exact (k1.block _ (by simp)).trans this) : p := h
theorem zz43 {p : Prop} (h : p := by
 have := heap_alloc_new w (.cells #[.bool (decide (n1 < 0)), .slice A1 (dg n1.natAbs).length c1, .int .i64 e1] 150)
 have k1 : Within (w.alloc (.cells #[.bool (decide (n1 < 0)), .slice A1 (dg n1.natAbs).length c1, .int .i64 e1] 150)) (((w.alloc (.cells #[.bool (decide (n1 < 0)), .slice A1 (dg n1.natAbs).length c1, .int .i64 e1] 150)).alloc (.cells #[.bool (decide (n2 < 0)), .slice A2 (dg n2.natAbs).length c2, .int .i64 e2] 150)).alloc (.cells #[.bool false, .slice none 0 0, .int .i64 0] 150)) := ((Within.refl _).alloc _).alloc _
 exact (k1.block _ (by simp)).trans this) : p := h
theorem zz47 {p : Prop} (h : p := by
 have := heap_alloc_new ((w.alloc (.cells #[.bool (decide (n1 < 0)), .slice A1 (dg n1.natAbs).length c1, .int .i64 e1] 150)).alloc (.cells #[.bool (decide (n2 < 0)), .slice A2 (dg n2.natAbs).length c2, .int .i64 e2] 150)) (.cells #[.bool false, .slice none 0 0, .int .i64 0] 150)
 have h2 : ((w.alloc (.cells #[.bool (decide (n1 < 0)), .slice A1 (dg n1.natAbs).length c1, .int .i64 e1] 150)).alloc (.cells #[.bool (decide (n2 < 0)), .slice A2 (dg n2.natAbs).length c2, .int .i64 e2] 150)).heap.size = w.heap.size + 2 := by simp
 rwa [h2] at this) : p := h
theorem Dboth_plus (n1 e1 n2 e2 : Int) (A1 A2 : Option Addr) (c1 c2 K E : Nat) (hc1 : (dg n1.natAbs).length ≤ c1) (hc2 : (dg n2.natAbs).length ≤ c2) (ho1 : (n1 = 0 ∧ e1 = 0) ∨ n1.natAbs % 2 = 1) (ho2 : (n2 = 0 ∧ e2 = 0) ∨ n2.natAbs % 2 = 1) (hk1 : n1.natAbs < 2 ^ K) (hk2 : n2.natAbs < 2 ^ K) (hK : K ≤ 6000) (he1 : -(E : Int) ≤ e1 ∧ e1 ≤ E) (he2 : -(E : Int) ≤ e2 ∧ e2 ≤ E) (hE : E ≤ 6000) (w : World) (hT : Tab w) (hr1 : RowAt w A1 (dg n1.natAbs)) (hr2 : RowAt w A2 (dg n2.natAbs)) : Calls Tryz.prog 173 #[.agg #[.bool (decide (n1 < 0)), .slice A1 (dg n1.natAbs).length c1, .int .i64 e1], .agg #[.bool (decide (n2 < 0)), .slice A2 (dg n2.natAbs).length c2, .int .i64 e2], .func (.func 169) #[] #[]] w (DyR w (dyR n1 e1 + dyR n2 e2) (K + 2 * E + 1) (E + (K + 2 * E + 1))) := by
 have hwN : Within w (((w.alloc (.cells #[.bool (decide (n1 < 0)), .slice A1 (dg n1.natAbs).length c1, .int .i64 e1] 150)).alloc (.cells #[.bool (decide (n2 < 0)), .slice A2 (dg n2.natAbs).length c2, .int .i64 e2] 150)).alloc (.cells #[.bool false, .slice none 0 0, .int .i64 0] 150)) := (((Within.refl w).alloc _).alloc _).alloc _
 have V1 := DyV.of (⟨A1, c1, rfl, hc1, hr1⟩ : DyV w _ n1 e1) hwN; have V2 := DyV.of (⟨A2, c2, rfl, hc2, hr2⟩ : DyV w _ n2 e2) hwN
 have hR1 := hr1.of hwN; have hR2 := hr2.of hwN
 have hB0 : (((w.alloc (.cells #[.bool (decide (n1 < 0)), .slice A1 (dg n1.natAbs).length c1, .int .i64 e1] 150)).alloc (.cells #[.bool (decide (n2 < 0)), .slice A2 (dg n2.natAbs).length c2, .int .i64 e2] 150)).alloc (.cells #[.bool false, .slice none 0 0, .int .i64 0] 150)).heap[w.heap.size]? = some (.cells #[.bool (decide (n1 < 0)), .slice A1 (dg n1.natAbs).length c1, .int .i64 e1] 150 (0, 0)) := by
  exact zz43
 have hB1 : (((w.alloc (.cells #[.bool (decide (n1 < 0)), .slice A1 (dg n1.natAbs).length c1, .int .i64 e1] 150)).alloc (.cells #[.bool (decide (n2 < 0)), .slice A2 (dg n2.natAbs).length c2, .int .i64 e2] 150)).alloc (.cells #[.bool false, .slice none 0 0, .int .i64 0] 150)).heap[w.heap.size + 1]? = some (.cells #[.bool (decide (n2 < 0)), .slice A2 (dg n2.natAbs).length c2, .int .i64 e2] 150 (0, 0)) := by
  exact zz34
 have hB2 : (((w.alloc (.cells #[.bool (decide (n1 < 0)), .slice A1 (dg n1.natAbs).length c1, .int .i64 e1] 150)).alloc (.cells #[.bool (decide (n2 < 0)), .slice A2 (dg n2.natAbs).length c2, .int .i64 e2] 150)).alloc (.cells #[.bool false, .slice none 0 0, .int .i64 0] 150)).heap[w.heap.size + 2]? = some (.cells #[.bool false, .slice none 0 0, .int .i64 0] 150 (0, 0)) := by
  exact zz47
 have M1 := Hh (fun w hv => Dmay (.agg #[.bool (decide (n1 < 0)), .slice A1 (dg n1.natAbs).length c1, .int .i64 e1]) n1 e1 K E ho1 hk1 om he1 om w hv)
 have M2 := Hh (fun w hv => Dmay (.agg #[.bool (decide (n2 < 0)), .slice A2 (dg n2.natAbs).length c2, .int .i64 e2]) n2 e2 K E ho2 hk2 om he2 om w hv)
 have T1 := Hh (fun w hr => Dtake0 n1 e1 A1 c1 K hk1 om (Nat.le_trans (len32 hk1 (J := 20000) om) dc) w hr)
 have T2 := Hh (fun w hr => Dtake0 n2 e2 A2 c2 K hk2 om (Nat.le_trans (len32 hk2 (J := 20000) om) dc) w hr)
 have DO := Hh (fun (g1 g2 : Nat) w h1 h2 => Dplus n1 e1 n2 e2 g1 g2 K E hk1 hk2 om he1 he2 om w h1 h2)
 have PT := Hh (fun (n e : Int) (g : Nat) (hn : n.natAbs < 2 ^ (K + 2 * E + 1)) (he : -((E : Nat) : Int) ≤ e ∧ e ≤ ((E : Nat) : Int)) w hT hI => Dput n e g (K + 2 * E + 1) hn om om w hT hI)
 have PB := Hh (fun (n e n' e' : Int) (hn : n.natAbs < 2 ^ (K + 2 * E + 1)) (he : -((E : Nat) : Int) ≤ e ∧ e ≤ ((E : Nat) : Int)) hp => put_bounds (n := n) (e := e) (n' := n') (e' := e') (K := K + 2 * E + 1) (E := E) hp hn he)
 obtain ⟨KK, hKK⟩ : ∃ k, k = K + 2 * E + 1 := ⟨_, rfl⟩
 obtain ⟨EE, hEE⟩ : ∃ k, k = E := ⟨_, rfl⟩
 rw [← hKK] at DO PT PB ⊢
 exact zz7
theorem Dboth_times (n1 e1 n2 e2 : Int) (A1 A2 : Option Addr) (c1 c2 K E : Nat) (hc1 : (dg n1.natAbs).length ≤ c1) (hc2 : (dg n2.natAbs).length ≤ c2) (ho1 : (n1 = 0 ∧ e1 = 0) ∨ n1.natAbs % 2 = 1) (ho2 : (n2 = 0 ∧ e2 = 0) ∨ n2.natAbs % 2 = 1) (hk1 : n1.natAbs < 2 ^ K) (hk2 : n2.natAbs < 2 ^ K) (hK : K ≤ 6000) (he1 : -(E : Int) ≤ e1 ∧ e1 ≤ E) (he2 : -(E : Int) ≤ e2 ∧ e2 ≤ E) (hE : E ≤ 6000) (w : World) (hT : Tab w) (hr1 : RowAt w A1 (dg n1.natAbs)) (hr2 : RowAt w A2 (dg n2.natAbs)) : Calls Tryz.prog 173 #[.agg #[.bool (decide (n1 < 0)), .slice A1 (dg n1.natAbs).length c1, .int .i64 e1], .agg #[.bool (decide (n2 < 0)), .slice A2 (dg n2.natAbs).length c2, .int .i64 e2], .func (.func 171) #[] #[]] w (DyR w (dyR n1 e1 * dyR n2 e2) (K + K) (E + E + (K + K))) := by
 have hwN : Within w (((w.alloc (.cells #[.bool (decide (n1 < 0)), .slice A1 (dg n1.natAbs).length c1, .int .i64 e1] 150)).alloc (.cells #[.bool (decide (n2 < 0)), .slice A2 (dg n2.natAbs).length c2, .int .i64 e2] 150)).alloc (.cells #[.bool false, .slice none 0 0, .int .i64 0] 150)) := (((Within.refl w).alloc _).alloc _).alloc _
 have V1 := DyV.of (⟨A1, c1, rfl, hc1, hr1⟩ : DyV w _ n1 e1) hwN; have V2 := DyV.of (⟨A2, c2, rfl, hc2, hr2⟩ : DyV w _ n2 e2) hwN
 have hR1 := hr1.of hwN; have hR2 := hr2.of hwN
 have hB0 : (((w.alloc (.cells #[.bool (decide (n1 < 0)), .slice A1 (dg n1.natAbs).length c1, .int .i64 e1] 150)).alloc (.cells #[.bool (decide (n2 < 0)), .slice A2 (dg n2.natAbs).length c2, .int .i64 e2] 150)).alloc (.cells #[.bool false, .slice none 0 0, .int .i64 0] 150)).heap[w.heap.size]? = some (.cells #[.bool (decide (n1 < 0)), .slice A1 (dg n1.natAbs).length c1, .int .i64 e1] 150 (0, 0)) := by
  exact zz43
 have hB1 : (((w.alloc (.cells #[.bool (decide (n1 < 0)), .slice A1 (dg n1.natAbs).length c1, .int .i64 e1] 150)).alloc (.cells #[.bool (decide (n2 < 0)), .slice A2 (dg n2.natAbs).length c2, .int .i64 e2] 150)).alloc (.cells #[.bool false, .slice none 0 0, .int .i64 0] 150)).heap[w.heap.size + 1]? = some (.cells #[.bool (decide (n2 < 0)), .slice A2 (dg n2.natAbs).length c2, .int .i64 e2] 150 (0, 0)) := by
  exact zz34
 have hB2 : (((w.alloc (.cells #[.bool (decide (n1 < 0)), .slice A1 (dg n1.natAbs).length c1, .int .i64 e1] 150)).alloc (.cells #[.bool (decide (n2 < 0)), .slice A2 (dg n2.natAbs).length c2, .int .i64 e2] 150)).alloc (.cells #[.bool false, .slice none 0 0, .int .i64 0] 150)).heap[w.heap.size + 2]? = some (.cells #[.bool false, .slice none 0 0, .int .i64 0] 150 (0, 0)) := by
  exact zz47
 have M1 := Hh (fun w hv => Dmay (.agg #[.bool (decide (n1 < 0)), .slice A1 (dg n1.natAbs).length c1, .int .i64 e1]) n1 e1 K E ho1 hk1 om he1 om w hv)
 have M2 := Hh (fun w hv => Dmay (.agg #[.bool (decide (n2 < 0)), .slice A2 (dg n2.natAbs).length c2, .int .i64 e2]) n2 e2 K E ho2 hk2 om he2 om w hv)
 have T1 := Hh (fun w hr => Dtake0 n1 e1 A1 c1 K hk1 om (Nat.le_trans (len32 hk1 (J := 20000) om) dc) w hr)
 have T2 := Hh (fun w hr => Dtake0 n2 e2 A2 c2 K hk2 om (Nat.le_trans (len32 hk2 (J := 20000) om) dc) w hr)
 have DO := Hh (fun (g1 g2 : Nat) w h1 h2 => (Dtimes n1 e1 n2 e2 g1 g2 K hk1 hk2 om om om w h1 h2).mono fun r w' h => (show ExV w (dyR n1 e1 * dyR n2 e2) (K + K) (E + E) r w' from ⟨_, _, h, dyR_mul _ _ _ _, mul_lt2 hk1 hk2, by omega, by omega⟩))
 have PT := Hh (fun (n e : Int) (g : Nat) (hn : n.natAbs < 2 ^ (K + K)) (he : -((E + E : Nat) : Int) ≤ e ∧ e ≤ ((E + E : Nat) : Int)) w hT hI => Dput n e g (K + K) hn om om w hT hI)
 have PB := Hh (fun (n e n' e' : Int) (hn : n.natAbs < 2 ^ (K + K)) (he : -((E + E : Nat) : Int) ≤ e ∧ e ≤ ((E + E : Nat) : Int)) hp => put_bounds (n := n) (e := e) (n' := n') (e' := e') (K := K + K) (E := E + E) hp hn he)
 obtain ⟨KK, hKK⟩ : ∃ k, k = K + K := ⟨_, rfl⟩
 obtain ⟨EE, hEE⟩ : ∃ k, k = E + E := ⟨_, rfl⟩
 rw [← hKK] at DO PT PB ⊢
 rw [← hEE] at DO PT PB ⊢
 exact zz7
end Go.Proofs.YtgkcpnidmfejeaaGreatDoor
section
namespace Go.Proofs.YtgkcpnidmfejeaaGreatDoor
section
variable {P : Program} {ops : Array Oper} {Q : Exit → Act → World → Prop} {md : Region.Mode} {S : World → Prop}
variable {p k : Nat} {r : List (Nat × Bool)} {a : Act} {w : World}
/-! schedules with branches: two operations that may come up in either order -/
inductive Sct where
 | nil : Sct
 | firm (k : Nat) (r : Sct) : Sct
 | one (k : Nat) (r : Sct) : Sct
 | two (i : Nat) (r : Sct) (j : Nat) (s : Sct) : Sct
 | three (i : Nat) (r : Sct) (j : Nat) (s : Sct) (l : Nat) (t : Sct) : Sct
def Sct.late : Sct → Bool
 | .nil => true
 | .one _ r => r.late
 | _ => false
def Sct.long : Sct → Nat → Bool
 | .nil, n => decide (n = 0)
 | .firm _ r, n => decide (0 < n) && r.long (n - 1)
 | .one _ r, n => decide (0 < n) && r.long (n - 1)
 | .two _ r _ s, n => decide (0 < n) && r.long (n - 1) && s.long (n - 1)
 | .three _ r _ s _ t, n => decide (0 < n) && r.long (n - 1) && s.long (n - 1) && t.long (n - 1)
def Sct.ok (md : Region.Mode) (ops : Array Oper) (p : Nat) : Sct → Array Bool → Bool
 | .nil, listed => (Region.ready md ops listed).isEmpty
 | .firm k r, listed => (Region.ready md ops listed).contains k && Region.free md ops listed k && decide (k < p) && r.ok md ops p (listed.setIfInBounds k true)
 | .one k r, listed => decide (Region.ready md ops listed = [k]) && (decide (k < p) || r.late) && r.ok md ops p (listed.setIfInBounds k true)
 | .two i r j s, listed => decide (Region.ready md ops listed = [i, j]) && decide (i < p) && decide (j < p) && r.ok md ops p (listed.setIfInBounds i true) && s.ok md ops p (listed.setIfInBounds j true)
 | .three i r j s l t, listed => decide (Region.ready md ops listed = [i, j, l]) && decide (i < p) && decide (j < p) && decide (l < p) && r.ok md ops p (listed.setIfInBounds i true) && s.ok md ops p (listed.setIfInBounds j true) && t.ok md ops p (listed.setIfInBounds l true)
def wpSct (P : Program) (ops : Array Oper) (Q : Exit → Act → World → Prop) (S : World → Prop) (p : Nat) : Sct → Act → World → Prop
 | .nil, a, w => Q .normal a w
 | .firm k r, a, w => S w ∧ ∃ o v, ops[k]? = some o ∧ YieldsIf P ops S o v a ∧ wpSct P ops Q S p r (a.put o.dst v) w
 | .one k r, a, w => wpOp P ops Q k (fun a' w' => (k < p → S w') ∧ wpSct P ops Q S p r a' w') a w
 | .two i r j s, a, w => wpOp P ops Q i (fun a' w' => S w' ∧ wpSct P ops Q S p r a' w') a w ∧ wpOp P ops Q j (fun a' w' => S w' ∧ wpSct P ops Q S p s a' w') a w
 | .three i r j s l t, a, w => wpOp P ops Q i (fun a' w' => S w' ∧ wpSct P ops Q S p r a' w') a w ∧ wpOp P ops Q j (fun a' w' => S w' ∧ wpSct P ops Q S p s a' w') a w ∧ wpOp P ops Q l (fun a' w' => S w' ∧ wpSct P ops Q S p t a' w') a w
theorem wpAnyG_sct {p : Nat} (hsel : Region.noSelect ops = true) (hQ : ∀ c a d v w, Q (.panic c) (a.put d v) w → Q (.panic c) a w) (hs : Region.sinkB md ops p = true) (hc : Region.chainB md ops p = true) (hn : p < ops.size) :
 ∀ (t : Sct) (n : Nat) (listed : Array Bool) (a : Act) (w : World), t.long n = true → (HeadInv md ops p listed ∨ t.late = true) → t.ok md ops p listed = true → wpSct P ops Q S p t a w → wpAnyG P md ops Q S p n listed a w := by
 intro t
 induction t with
 | nil =>
  intro n listed a w hl _ hB h
  simp only [Sct.long, decide_eq_true_eq] at hl
  subst hl
  exact ⟨by simpa [Sct.ok] using hB, h⟩
 | firm k r ih =>
  intro n listed a w hl inv hB h
  simp only [Sct.long, Bool.and_eq_true, decide_eq_true_eq] at hl
  obtain ⟨m, rfl⟩ : ∃ m, n = m + 1 := ⟨n - 1, by omega⟩
  simp only [Sct.ok, Bool.and_eq_true, decide_eq_true_eq] at hB
  obtain ⟨⟨⟨hr, hf⟩, hkp⟩, hB'⟩ := hB
  obtain ⟨hS, o, v, ho, hy, hK⟩ := h
  have inv' : HeadInv md ops p listed := by
   rcases inv with h | h
   ·exact h
   ·simp [Sct.late] at h
  exact zz67
 | one k r ih =>
  intro n listed a w hl inv hB h
  simp only [Sct.long, Bool.and_eq_true, decide_eq_true_eq] at hl
  obtain ⟨m, rfl⟩ : ∃ m, n = m + 1 := ⟨n - 1, by omega⟩
  simp only [Sct.ok, Bool.and_eq_true, decide_eq_true_eq, Bool.or_eq_true] at hB
  exact zz51
 | two i r j s ih1 ih2 =>
  intro n listed a w hl inv hB h
  simp only [Sct.long, Bool.and_eq_true, decide_eq_true_eq] at hl
  obtain ⟨m, rfl⟩ : ∃ m, n = m + 1 := ⟨n - 1, by omega⟩
  simp only [Sct.ok, Bool.and_eq_true, decide_eq_true_eq] at hB
  obtain ⟨⟨⟨⟨hr, hip⟩, hjp⟩, hB1⟩, hB2⟩ := hB
  have inv' : HeadInv md ops p listed := by
   rcases inv with h | h
   ·exact h
   ·simp [Sct.late] at h
  exact zz45
 | three i r j s l t ih1 ih2 ih3 =>
  intro n listed a w hl inv hB h
  simp only [Sct.long, Bool.and_eq_true, decide_eq_true_eq] at hl
  obtain ⟨m, rfl⟩ : ∃ m, n = m + 1 := ⟨n - 1, by omega⟩
  simp only [Sct.ok, Bool.and_eq_true, decide_eq_true_eq] at hB
  obtain ⟨⟨⟨⟨⟨⟨hr, hip⟩, hjp⟩, hlp⟩, hB1⟩, hB2⟩, hB3⟩ := hB
  have inv' : HeadInv md ops p listed := by
   rcases inv with h | h
   ·exact h
   ·simp [Sct.late] at h
  refine ⟨fun h0 => (by rw [hr] at h0; cases h0), fun q hq => ?_⟩
  have hi' : i ∈ Region.ready md ops listed := by rw [hr]; simp
  have hj' : j ∈ Region.ready md ops listed := by rw [hr]; simp
  have hl' : l ∈ Region.ready md ops listed := by rw [hr]; simp
  rw [hr] at hq
  rcases List.mem_cons.1 hq with e | e
  ·subst e
   exact wpOp_mono (fun a' w' h' => ⟨fun _ => h'.1, ih1 m _ _ _ hl.1.1.2 (.inl (inv'.set hi' hip)) hB1 h'.2⟩) h.1
  rcases List.mem_cons.1 e with e | e
  ·subst e
   exact wpOp_mono (fun a' w' h' => ⟨fun _ => h'.1, ih2 m _ _ _ hl.1.2 (.inl (inv'.set hj' hjp)) hB2 h'.2⟩) h.2.1
  ·have e' : q = l := by simpa using e
   subst e'
   exact wpOp_mono (fun a' w' h' => ⟨fun _ => h'.1, ih3 m _ _ _ hl.2 (.inl (inv'.set hl' hlp)) hB3 h'.2⟩) h.2.2
def Sct.okAll (ops : Array Oper) (p : Nat) (t : Sct) : Bool :=
 Region.noSelect ops && decide (p < ops.size) && Region.sinkB .any ops p && Region.chainB .any ops p && t.long ops.size && t.ok .any ops p (Array.replicate ops.size false)
theorem wp_region_sct {id : Nat} {a : Act} {w : World} (S : World → Prop) (p : Nat) (t : Sct) (hm : P.follows .mixedOrders = true) (hB : t.okAll ops p = true) (hS : S w.drew)
 (h : S w.drew → wpSct P ops (OnlyN Q) S p t a w.drew) : (Code.region id ops true).wp P Q a w := by
 simp only [Sct.okAll, Bool.and_eq_true, decide_eq_true_eq] at hB
 obtain ⟨⟨⟨⟨⟨hsel, hn⟩, hs⟩, hc⟩, hlen⟩, hsc⟩ := hB
 have inv0 : HeadInv .any ops p (Array.replicate ops.size false) :=
  ⟨by simp, fun j oj _ hl => (by rw [getD_replicate_false] at hl; cases hl), fun t _ ht => getD_in (by simpa using ht) (getD_replicate_false _ _)⟩
 exact Code.wp_mono OnlyN.imp (wp_region_any hm (wpAny_of_G _ _ _ _ (wpAnyG_sct (md := .any) (S := S) hsel (Q := OnlyN Q) (fun c a d v w h => h) hs hc hn t _ _ a w.drew hlen (.inl inv0) hsc (h hS))))
variable {t u v : Sct} {i j l : Nat}
theorem sct_nil (h : Q .normal a w) : wpSct P ops (OnlyN Q) S p .nil a w := h
theorem sct_firm {o : Oper} {v : Value} (ho : ops.toList[k]? = some o) (hg : o.guard = none) (hS : S w) (h1 : ∀ w, S w → firmAt P o a w v) (h2 : wpSct P ops (OnlyN Q) S p t (a.put o.dst v) w) : wpSct P ops (OnlyN Q) S p (.firm k t) a w :=
 ⟨hS, o, v, (Array.getElem?_toList ▸ ho), .inl ⟨by simp [Region.wanted, hg], fun w hw => (h1 w hw).run⟩, h2⟩
theorem sct_op {o : Oper} {R : Act → World → Prop} (ho : ops.toList[k]? = some o) (hg : o.guard = none) (h : ∀ K : Act → World → Prop, (∀ a' w', R a' w' → K a' w') → o.wp P a w K (OnlyN Q)) : wpOp P ops (OnlyN Q) k R a w := by
 exact zz103
theorem sct_one {o : Oper} (ho : ops.toList[k]? = some o) (hg : o.guard = none) (h : ∀ K : Act → World → Prop, (∀ a' w', (k < p → S w') → wpSct P ops (OnlyN Q) S p t a' w' → K a' w') → o.wp P a w K (OnlyN Q)) : wpSct P ops (OnlyN Q) S p (.one k t) a w :=
 sct_op ho hg fun K hK => h K fun a' w' hS hr => hK a' w' ⟨hS, hr⟩
theorem sct_two {o o' : Oper} (ho : ops.toList[i]? = some o) (hg : o.guard = none) (ho' : ops.toList[j]? = some o') (hg' : o'.guard = none)
 (h : ∀ K : Act → World → Prop, (∀ a' w', S w' → wpSct P ops (OnlyN Q) S p t a' w' → K a' w') → o.wp P a w K (OnlyN Q))
 (h' : ∀ K : Act → World → Prop, (∀ a' w', S w' → wpSct P ops (OnlyN Q) S p u a' w' → K a' w') → o'.wp P a w K (OnlyN Q)) : wpSct P ops (OnlyN Q) S p (.two i t j u) a w :=
 ⟨sct_op ho hg fun K hK => h K fun a' w' hS hr => hK a' w' ⟨hS, hr⟩, sct_op ho' hg' fun K hK => h' K fun a' w' hS hr => hK a' w' ⟨hS, hr⟩⟩
theorem sct_three {o o' o'' : Oper} (ho : ops.toList[i]? = some o) (hg : o.guard = none) (ho' : ops.toList[j]? = some o') (hg' : o'.guard = none) (ho'' : ops.toList[l]? = some o'') (hg'' : o''.guard = none)
 (h : ∀ K : Act → World → Prop, (∀ a' w', S w' → wpSct P ops (OnlyN Q) S p t a' w' → K a' w') → o.wp P a w K (OnlyN Q))
 (h' : ∀ K : Act → World → Prop, (∀ a' w', S w' → wpSct P ops (OnlyN Q) S p u a' w' → K a' w') → o'.wp P a w K (OnlyN Q))
 (h'' : ∀ K : Act → World → Prop, (∀ a' w', S w' → wpSct P ops (OnlyN Q) S p v a' w' → K a' w') → o''.wp P a w K (OnlyN Q)) : wpSct P ops (OnlyN Q) S p (.three i t j u l v) a w :=
 ⟨sct_op ho hg fun K hK => h K fun a' w' hS hr => hK a' w' ⟨hS, hr⟩, sct_op ho' hg' fun K hK => h' K fun a' w' hS hr => hK a' w' ⟨hS, hr⟩, sct_op ho'' hg'' fun K hK => h'' K fun a' w' hS hr => hK a' w' ⟨hS, hr⟩⟩
theorem wp_region_sctW {id : Nat} {a : Act} {w : World} (p : Nat) (t : Sct) (hm : P.follows .mixedOrders = true) (hB : t.okAll ops p = true)
 (h : wpSct P ops (OnlyN Q) (Within w) p t a w.drew) : (Code.region id ops true).wp P Q a w :=
 wp_region_sct (Within w) p t hm hB (Within.refl w).drew fun _ => h
theorem wp_region_sctG {id : Nat} {a : Act} {w : World} (F : World → Prop) (p : Nat) (t : Sct) (hm : P.follows .mixedOrders = true) (hB : t.okAll ops p = true) (hF : F w)
 (h : ∀ w0, F w0 → wpSct P ops (OnlyN Q) (Within w0) p t a w0.drew) : (Code.region id ops true).wp P Q a w := wp_region_sctW p t hm hB (h w hF)
end
end Go.Proofs.YtgkcpnidmfejeaaGreatDoor
end
namespace Go.Proofs.YtgkcpnidmfejeaaGreatDoor
open Go.RowKit
theorem zz55 {p : Prop} (h : p := by
 exact ⟨_, n, e, rfl, ⟨A, c, rfl, HC.out, HRT.out⟩, HPB.out.1, HPB.out.2.1, HPB.out.2.2.1, HPB.out.2.2.2.1, HPB.out.2.2.2.2, ((hww.setCell (p := ⟨b0 + 2, 0, none⟩) (by have := HS.out; show w.heap.size ≤ b0 + 2; omega) _).setCell (p := ⟨b0 + 2, 1, none⟩) (by have := HS.out; show w.heap.size ≤ b0 + 2; omega) _).setCell (p := ⟨b0 + 2, 2, none⟩) (by have := HS.out; show w.heap.size ≤ b0 + 2; omega) _⟩) : p := h
theorem Dadd (n1 e1 n2 e2 : Int) (v1 v2 : Value) (K E : Nat) (ho1 : (n1 = 0 ∧ e1 = 0) ∨ n1.natAbs % 2 = 1) (ho2 : (n2 = 0 ∧ e2 = 0) ∨ n2.natAbs % 2 = 1) (hk1 : n1.natAbs < 2 ^ K) (hk2 : n2.natAbs < 2 ^ K) (hK : K ≤ 6000) (he1 : -(E : Int) ≤ e1 ∧ e1 ≤ E) (he2 : -(E : Int) ≤ e2 ∧ e2 ≤ E) (hE : E ≤ 6000) (w : World) (hT : Tab w) (hv1 : DyV w v1 n1 e1) (hv2 : DyV w v2 n2 e2) : Calls Tryz.prog 280 #[v1, v2] w (DyR w (dyR n1 e1 + dyR n2 e2) (K + 2 * E + 1) (E + (K + 2 * E + 1))) := by
 obtain ⟨A1, c1, rfl, hc1, hr1⟩ := hv1; obtain ⟨A2, c2, rfl, hc2, hr2⟩ := hv2
 have BO := Hh (fun w hT h1 h2 => Dboth_plus n1 e1 n2 e2 A1 A2 c1 c2 K E hc1 hc2 ho1 ho2 hk1 hk2 hK he1 he2 hE w hT h1 h2)
 obtain ⟨hwN, hB0, hB1, hB2⟩ := box3 w #[.bool (decide (n1 < 0)), .slice A1 (dg n1.natAbs).length c1, .int .i64 e1] #[.bool (decide (n2 < 0)), .slice A2 (dg n2.natAbs).length c2, .int .i64 e2] #[.bool false, .slice none 0 0, .int .i64 0] 150 150 150
 have hR1 := Hh (hr1.of hwN); have hR2 := Hh (hr2.of hwN)
 have HT := Hh (hT.of hwN)
 clear hT hr1 hr2 hc1 hc2 hk1 hk2 he1 he2 hK hE ho1 ho2
 obtain ⟨KK, hKK⟩ : ∃ k, k = K + 2 * E + 1 := ⟨_, rfl⟩
 obtain ⟨EE, hEE⟩ : ∃ k, k = E + KK := ⟨_, rfl⟩
 rw [← hKK, ← hEE] at BO ⊢
 clear hKK hEE
 go_enter Tryz.func280, Tryz.ntmps280
 go_upto_region 1 with fail
 obtain ⟨W3, hW3⟩ : ∃ W3, W3 = (((w.alloc (.cells #[.bool (decide (n1 < 0)), .slice A1 (dg n1.natAbs).length c1, .int .i64 e1] 150)).alloc (.cells #[.bool (decide (n2 < 0)), .slice A2 (dg n2.natAbs).length c2, .int .i64 e2] 150)).alloc (.cells #[.bool false, .slice none 0 0, .int .i64 0] 150)) := ⟨_, rfl⟩
 have hs3 : W3.heap.size = w.heap.size + 3 := by rw [hW3]; simp
 rw [← hW3] at hwN hB0 hB1 hB2 hR1 hR2 HT ⊢
 clear hW3
 obtain ⟨b0, hb0⟩ : ∃ b, b = w.heap.size := ⟨_, rfl⟩
 have HS := Hh (And.intro hs3 hb0)
 rw [← hb0] at hB0 hB1 hB2 ⊢
 clear hb0 hs3
 obtain ⟨x0, x1, x2⟩ := tri_cells hB0
 obtain ⟨y0, y1, y2⟩ := tri_cells hB1
 go_wp2_with fail
 refine (BO.out W3 HT.out hR1.out hR2.out).mono ?_; rintro r4 w4 ⟨v, n, e, rfl, ⟨A, c, rfl, hc, hr⟩, ho, hval, hn, he1, he2, hb4⟩
 have hB24 := (hb4.block (b0 + 2) (by have := HS.out; omega)).trans hB2
 have HPB := Hh (And.intro ho (And.intro hval (And.intro hn (And.intro he1 he2))))
 clear ho hval hn he1 he2
 obtain ⟨m0, m1, m2, mf, mg, m3, mh, m4, hM⟩ := tri_block hB24 (.bool (decide (n < 0))) (.slice A (dg n.natAbs).length c) (.int .i64 e)
 have mf0 := mf 0; have mf1 := mf 1; have mf2 := mf 2; have mg1 := mg 1; have mg2 := mg 2; have mh2 := mh 2
 obtain ⟨z0, z1, z2⟩ := tri_cells hM
 have HRT := Hh (row_tri hB24 dc hr (.bool (decide (n < 0))) (.slice A (dg n.natAbs).length c) (.int .i64 e))
 have hww := hwN.trans hb4
 have HC := Hh hc
 clear hM hr hc
 go_wp2
 (try simp only [Exit.inBlock, Exit.then]); refine bodyPost_ret (v := .tuple #[.agg #[.bool (decide (n < 0)), .slice A (dg n.natAbs).length c, .int .i64 e], .int .i64 0]) (by simp [results, Tryz.results280, go_sem, z0, z1, z2]) rfl ?_
 exact zz55
theorem Dmul (n1 e1 n2 e2 : Int) (v1 v2 : Value) (K E : Nat) (ho1 : (n1 = 0 ∧ e1 = 0) ∨ n1.natAbs % 2 = 1) (ho2 : (n2 = 0 ∧ e2 = 0) ∨ n2.natAbs % 2 = 1) (hk1 : n1.natAbs < 2 ^ K) (hk2 : n2.natAbs < 2 ^ K) (hK : K ≤ 6000) (he1 : -(E : Int) ≤ e1 ∧ e1 ≤ E) (he2 : -(E : Int) ≤ e2 ∧ e2 ≤ E) (hE : E ≤ 6000) (w : World) (hT : Tab w) (hv1 : DyV w v1 n1 e1) (hv2 : DyV w v2 n2 e2) : Calls Tryz.prog 297 #[v1, v2] w (DyR w (dyR n1 e1 * dyR n2 e2) (K + K) (E + E + (K + K))) := by
 obtain ⟨A1, c1, rfl, hc1, hr1⟩ := hv1; obtain ⟨A2, c2, rfl, hc2, hr2⟩ := hv2
 have BO := Hh (fun w hT h1 h2 => Dboth_times n1 e1 n2 e2 A1 A2 c1 c2 K E hc1 hc2 ho1 ho2 hk1 hk2 hK he1 he2 hE w hT h1 h2)
 obtain ⟨hwN, hB0, hB1, hB2⟩ := box3 w #[.bool (decide (n1 < 0)), .slice A1 (dg n1.natAbs).length c1, .int .i64 e1] #[.bool (decide (n2 < 0)), .slice A2 (dg n2.natAbs).length c2, .int .i64 e2] #[.bool false, .slice none 0 0, .int .i64 0] 150 150 150
 have hR1 := Hh (hr1.of hwN); have hR2 := Hh (hr2.of hwN)
 have HT := Hh (hT.of hwN)
 clear hT hr1 hr2 hc1 hc2 hk1 hk2 he1 he2 hK hE ho1 ho2
 obtain ⟨KK, hKK⟩ : ∃ k, k = K + K := ⟨_, rfl⟩
 obtain ⟨EE, hEE⟩ : ∃ k, k = E + E + KK := ⟨_, rfl⟩
 rw [← hKK, ← hEE] at BO ⊢
 clear hKK hEE
 go_enter Tryz.func297, Tryz.ntmps297
 go_upto_region 1 with fail
 obtain ⟨W3, hW3⟩ : ∃ W3, W3 = (((w.alloc (.cells #[.bool (decide (n1 < 0)), .slice A1 (dg n1.natAbs).length c1, .int .i64 e1] 150)).alloc (.cells #[.bool (decide (n2 < 0)), .slice A2 (dg n2.natAbs).length c2, .int .i64 e2] 150)).alloc (.cells #[.bool false, .slice none 0 0, .int .i64 0] 150)) := ⟨_, rfl⟩
 have hs3 : W3.heap.size = w.heap.size + 3 := by rw [hW3]; simp
 rw [← hW3] at hwN hB0 hB1 hB2 hR1 hR2 HT ⊢
 clear hW3
 obtain ⟨b0, hb0⟩ : ∃ b, b = w.heap.size := ⟨_, rfl⟩
 have HS := Hh (And.intro hs3 hb0)
 rw [← hb0] at hB0 hB1 hB2 ⊢
 clear hb0 hs3
 obtain ⟨x0, x1, x2⟩ := tri_cells hB0
 obtain ⟨y0, y1, y2⟩ := tri_cells hB1
 go_wp2_with fail
 refine (BO.out W3 HT.out hR1.out hR2.out).mono ?_; rintro r4 w4 ⟨v, n, e, rfl, ⟨A, c, rfl, hc, hr⟩, ho, hval, hn, he1, he2, hb4⟩
 have hB24 := (hb4.block (b0 + 2) (by have := HS.out; omega)).trans hB2
 have HPB := Hh (And.intro ho (And.intro hval (And.intro hn (And.intro he1 he2))))
 clear ho hval hn he1 he2
 obtain ⟨m0, m1, m2, mf, mg, m3, mh, m4, hM⟩ := tri_block hB24 (.bool (decide (n < 0))) (.slice A (dg n.natAbs).length c) (.int .i64 e)
 have mf0 := mf 0; have mf1 := mf 1; have mf2 := mf 2; have mg1 := mg 1; have mg2 := mg 2; have mh2 := mh 2
 obtain ⟨z0, z1, z2⟩ := tri_cells hM
 have HRT := Hh (row_tri hB24 dc hr (.bool (decide (n < 0))) (.slice A (dg n.natAbs).length c) (.int .i64 e))
 have hww := hwN.trans hb4
 have HC := Hh hc
 clear hM hr hc
 go_wp2
 (try simp only [Exit.inBlock, Exit.then]); refine bodyPost_ret (v := .tuple #[.agg #[.bool (decide (n < 0)), .slice A (dg n.natAbs).length c, .int .i64 e], .int .i64 0]) (by simp [results, Tryz.results297, go_sem, z0, z1, z2]) rfl ?_
 exact zz55
theorem heap_lt_of_some {w : World} {z : Nat} {b : Obj} (h : w.heap[z]? = some b) : z < w.heap.size := by
 rcases Nat.lt_or_ge z w.heap.size with g | g
 ·exact g
 ·rw [Array.getElem?_eq_none g] at h; cases h
def cmpQ (a b : Rat) : Int := if a < b then -1 else if a = b then 0 else 1
theorem sign_cmp {n e : Int} {a b : Rat} (h : dyR n e = a - b) : n.sign = cmpQ a b := by
 have h1 := dyR_pos n e; have h2 := dyR_neg_iff n e
 rw [h] at h1 h2
 unfold cmpQ
 by_cases g : a < b
 ·rw [if_pos g]; exact Int.sign_eq_neg_one_of_neg (h2.1 (by grind))
 ·rw [if_neg g]
  by_cases g2 : a = b
  ·rw [if_pos g2]
   have k1 : ¬ 0 < n := fun q => by have := h1.2 q; grind
   have k2 : ¬ n < 0 := fun q => by have := h2.2 q; grind
   rw [show n = 0 by omega]; rfl
  ·rw [if_neg g2]; exact Int.sign_eq_one_of_pos (h1.1 (by grind))
@[go_sem] theorem run_field_dex (a b : Value) (w : World) : (Instr.field 231 (.agg #[a, b]) 0).run Tryz.prog w = .ok a w := by
 kernel_rfl
def ExT (w : World) (z : Nat) : Prop := w.heap[z]? = some (.cells #[.pointer none, .int .i64 0] 231 (0, 0))
theorem ExT.of {w w' : World} {z : Nat} (h : ExT w z) (k : Within w w') : ExT w' z := (k.block z (heap_lt_of_some h)).trans h
theorem wp_new_ex {o : Oper} {a : Act} {w : World} {K : Act → World → Prop} {Q : Exit → Act → World → Prop} (ho : o.op = .alloc 231)
 (h : ∀ z w', ExT w' z → Within w w' → w.heap.size ≤ z → K (a.put o.dst (.pointer (some ⟨z, 0, none⟩))) w') : o.wp Tryz.prog a w K Q := by
 have h1 := h w.heap.size (w.alloc (.cells #[.pointer none, .int .i64 0] 231)) (heap_alloc_new w _) ((Within.refl w).alloc _) (Nat.le_refl _)
 unfold Oper.wp execOp
 rw [ho]
 go_simp
 exact h1
def TwoEx (z4 z5 g1 g2 : Nat) (n1 e1 n2 e2 : Int) (w : World) : Prop := w.cell? ⟨z4, 0, none⟩ = some (.pointer (some ⟨g1, 0, none⟩)) ∧ w.cell? ⟨z4, 1, none⟩ = some (.int .i64 e1) ∧ w.cell? ⟨z5, 0, none⟩ = some (.pointer (some ⟨g2, 0, none⟩)) ∧ w.cell? ⟨z5, 1, none⟩ = some (.int .i64 e2) ∧ z4 < w.heap.size ∧ z5 < w.heap.size ∧ P64.IntB w g1 n1 ∧ P64.IntB w g2 n2
theorem two_ex {w : World} {z4 z5 g1 g2 : Nat} {n1 e1 n2 e2 : Int} (hne : z4 ≠ z5) (h4 : ExT w z4) (h5 : ExT w z5) (hI1 : P64.IntB w g1 n1) (hI2 : P64.IntB w g2 n2) :
 TwoEx z4 z5 g1 g2 n1 e1 n2 e2 ((((w.setCell ⟨z4, 0, none⟩ (.pointer (some ⟨g1, 0, none⟩))).setCell ⟨z4, 1, none⟩ (.int .i64 e1)).setCell ⟨z5, 0, none⟩ (.pointer (some ⟨g2, 0, none⟩))).setCell ⟨z5, 1, none⟩ (.int .i64 e2)) := by
 have l4 := heap_lt_of_some h4; have l5 := heap_lt_of_some h5
 obtain ⟨_, _, _, _, _, a0, a1⟩ := pair_block h4 (.pointer (some ⟨g1, 0, none⟩)) (.int .i64 e1)
 have J1 := hI1.pair h4 dc dc (.pointer (some ⟨g1, 0, none⟩)) (.int .i64 e1); have J2 := hI2.pair h4 dc dc (.pointer (some ⟨g1, 0, none⟩)) (.int .i64 e1)
 have h5' : ((w.setCell ⟨z4, 0, none⟩ (.pointer (some ⟨g1, 0, none⟩))).setCell ⟨z4, 1, none⟩ (.int .i64 e1)).heap[z5]? = some (.cells #[.pointer none, .int .i64 0] 231 (0, 0)) := by
  rw [Below.heap_setCell _ _ _ _ (Ne.symm hne), Below.heap_setCell _ _ _ _ (Ne.symm hne)]; exact h5
 obtain ⟨_, _, _, _, _, b0, b1⟩ := pair_block h5' (.pointer (some ⟨g2, 0, none⟩)) (.int .i64 e2)
 have kk : ∀ (v : World) (o : Nat) (u : Value) (p : Nat), (v.setCell ⟨z5, o, none⟩ u).cell? ⟨z4, p, none⟩ = v.cell? ⟨z4, p, none⟩ := fun v o u p => by unfold World.cell?; rw [Below.heap_setCell _ _ _ _ hne]
 exact ⟨by rw [kk, kk]; exact a0, by rw [kk, kk]; exact a1, b0, b1, by simpa [World.setCell] using l4, by simpa [World.setCell] using l5, J1.pair h5' dc dc _ _, J2.pair h5' dc dc _ _⟩
theorem ExT.size {w : World} {z : Nat} (h : ExT w z) : z < w.heap.size := heap_lt_of_some h
theorem ExT.ne {w : World} {z z' : Nat} (h : ExT w z) (h' : w.heap.size ≤ z') : z ≠ z' := fun e => by have := h.size; omega
theorem zz1 {p : Prop} (h : p := by
 refine hK _ _ (fun _ => hv4) ?_
 clear hK K
 try simp only [pu]
 obtain ⟨k0, k1, kf, kg, _, _, _⟩ := pair_block i4_4 (.pointer (some ⟨g1, 0, none⟩)) (.int .i64 e1)
 have kf0 := kf 0; have kf1 := kf 1; have kg1 := kg 1
 have i5' : ((v4.setCell ⟨z4, 0, none⟩ (.pointer (some ⟨g1, 0, none⟩))).setCell ⟨z4, 1, none⟩ (.int .i64 e1)).heap[z5]? = some (.cells #[.pointer none, .int .i64 0] 231 (0, 0)) := by rw [Below.heap_setCell _ _ _ _ (Ne.symm hne), Below.heap_setCell _ _ _ _ (Ne.symm hne)]; exact i5_4
 obtain ⟨_, _, nf, ng, _, _, _⟩ := pair_block i5' (.pointer (some ⟨g2, 0, none⟩)) (.int .i64 e2)
 have nf0 := nf 0; have nf1 := nf 1; have ng1 := ng 1
 have HTW := Hh (two_ex (e1 := e1) (e2 := e2) hne i4_4 i5_4 i1_4 i3_4)
 clear i4_4 i5_4 i5' hne kf kg nf ng
 refine sct_one rfl rfl (fun K hK => ?_)
 go_simp
 refine hK _ _ ab ?_
 clear hK K
 try simp only [pu]
 refine sct_one rfl rfl (fun K hK => ?_)
 go_simp
 refine hK _ _ ab ?_
 clear hK K
 try simp only [pu]
 refine sct_nil ?_
 go_wp2_with fail
 go_meet
 refine ⟨z4, z5, g1, g2, rfl, rfl, HTW.out, ?_⟩
 exact (((((hw0.trans hv4).setCell (p := ⟨z4, 0, none⟩) (Nat.le_trans hw0.size k4) _).setCell (p := ⟨z4, 1, none⟩) (Nat.le_trans hw0.size k4) _).setCell (p := ⟨z5, 0, none⟩) (Nat.le_trans hw0.size k5) _).setCell (p := ⟨z5, 1, none⟩) (Nat.le_trans hw0.size k5) _)) : p := h
theorem Dcompare (n1 e1 n2 e2 : Int) (v1 v2 : Value) (K E : Nat) (ho1 : (n1 = 0 ∧ e1 = 0) ∨ n1.natAbs % 2 = 1) (ho2 : (n2 = 0 ∧ e2 = 0) ∨ n2.natAbs % 2 = 1) (hk1 : n1.natAbs < 2 ^ K) (hk2 : n2.natAbs < 2 ^ K) (hK : K ≤ 6000) (he1 : -(E : Int) ≤ e1 ∧ e1 ≤ E) (he2 : -(E : Int) ≤ e2 ∧ e2 ≤ E) (hE : E ≤ 6000) (w : World) (hT : Tab w) (hv1 : DyV w v1 n1 e1) (hv2 : DyV w v2 n2 e2) : Calls Tryz.prog 88 #[v1, v2] w (fun r w' => r = .returned (.tuple #[.int .i64 (cmpQ (dyR n1 e1) (dyR n2 e2)), .int .i64 0]) ∧ Within w w') := by
 obtain ⟨A1, c1, rfl, hc1, hr1⟩ := hv1; obtain ⟨A2, c2, rfl, hc2, hr2⟩ := hv2
 obtain ⟨hwN, hB0, hB1⟩ := box2 w #[.bool (decide (n1 < 0)), .slice A1 (dg n1.natAbs).length c1, .int .i64 e1] #[.bool (decide (n2 < 0)), .slice A2 (dg n2.natAbs).length c2, .int .i64 e2] 150 150
 have V1 := Hh (DyV.of (⟨A1, c1, rfl, hc1, hr1⟩ : DyV w _ n1 e1) hwN); have V2 := Hh (DyV.of (⟨A2, c2, rfl, hc2, hr2⟩ : DyV w _ n2 e2) hwN)
 have hR1 := Hh hr1; have hR2 := Hh hr2
 have M1 := Hh (fun w hv => Dmay (.agg #[.bool (decide (n1 < 0)), .slice A1 (dg n1.natAbs).length c1, .int .i64 e1]) n1 e1 K E ho1 hk1 om he1 om w hv)
 have M2 := Hh (fun w hv => Dmay (.agg #[.bool (decide (n2 < 0)), .slice A2 (dg n2.natAbs).length c2, .int .i64 e2]) n2 e2 K E ho2 hk2 om he2 om w hv)
 have T1 := Hh (fun w hr => Dtake0 n1 e1 A1 c1 K hk1 om (Nat.le_trans (len32 hk1 (J := 20000) om) dc) w hr)
 have T2 := Hh (fun w hr => Dtake0 n2 e2 A2 c2 K hk2 om (Nat.le_trans (len32 hk2 (J := 20000) om) dc) w hr)
 have NG := Hh (fun (z g : Nat) w hz hx => P64.Pneg z g n2 (Nat.le_trans (len64 hk2 (J := 20000) om) om) w hz hx)
 have PL := Hh (fun (g1 g2 : Nat) w h1 h2 => Dplus n1 e1 (-n2) e2 g1 g2 K E hk1 (by rw [Int.natAbs_neg]; exact hk2) om he1 he2 om w h1 h2)
 have SG := Hh (fun (g : Nat) (n : Int) w h => P64.Psign g n w h)
 have HD := Hh (show ∀ n e, dyR n e = dyR n1 e1 + dyR (-n2) e2 → n.sign = cmpQ (dyR n1 e1) (dyR n2 e2) from fun n e h => sign_cmp (by rw [h, dyR_neg]; grind))
 clear hT hr1 hr2 hc1 hc2 hk1 hk2 he1 he2 hK hE ho1 ho2
 go_enter Tryz.func88, Tryz.ntmps88
 go_upto_region 1 with fail
 obtain ⟨W3, hW3⟩ : ∃ W3, W3 = ((w.alloc (.cells #[.bool (decide (n1 < 0)), .slice A1 (dg n1.natAbs).length c1, .int .i64 e1] 150)).alloc (.cells #[.bool (decide (n2 < 0)), .slice A2 (dg n2.natAbs).length c2, .int .i64 e2] 150)) := ⟨_, rfl⟩
 have hs3 : W3.heap.size = w.heap.size + 2 := by rw [hW3]; simp
 rw [← hW3] at hwN hB0 hB1 V1 V2 ⊢
 clear hW3
 obtain ⟨b0, hb0⟩ : ∃ b, b = w.heap.size := ⟨_, rfl⟩
 have HS := Hh (And.intro hs3 hb0)
 rw [← hb0] at hB0 hB1 ⊢
 clear hb0 hs3
 obtain ⟨x0, x1, x2⟩ := tri_cells hB0
 obtain ⟨y0, y1, y2⟩ := tri_cells hB1
 go_wp2_with fail
 refine (M1.out _ V1.out).mono ?_; rintro r4 w4 ⟨rfl, hb4⟩
 have y04 := (hb4.cells _ _ (show b0 + 1 < W3.heap.size by have := HS.out; omega)).trans y0; have y14 := (hb4.cells _ _ (show b0 + 1 < W3.heap.size by have := HS.out; omega)).trans y1; have y24 := (hb4.cells _ _ (show b0 + 1 < W3.heap.size by have := HS.out; omega)).trans y2
 go_wp2_with fail
 refine (M2.out _ (V2.out.of hb4)).mono ?_; rintro r5 w5 ⟨rfl, hb5⟩
 have hb35 := hb4.trans hb5
 have hs5 := hb35.size
 have x05 := (hb35.cells _ _ (show b0 < W3.heap.size by have := HS.out; omega)).trans x0; have x15 := (hb35.cells _ _ (show b0 < W3.heap.size by have := HS.out; omega)).trans x1; have x25 := (hb35.cells _ _ (show b0 < W3.heap.size by have := HS.out; omega)).trans x2
 have y05 := (hb35.cells _ _ (show b0 + 1 < W3.heap.size by have := HS.out; omega)).trans y0; have y15 := (hb35.cells _ _ (show b0 + 1 < W3.heap.size by have := HS.out; omega)).trans y1; have y25 := (hb35.cells _ _ (show b0 + 1 < W3.heap.size by have := HS.out; omega)).trans y2
 have hw5 := hwN.trans hb35
 clear x0 x1 x2 y0 y1 y2 y04 y14 y24 V1 V2
 go_upto_region 3 with fail
 go_cut [6, 7] (fun s6 s7 wx => ∃ z4 z5 g1 g2, s6 = .pointer (some ⟨z4, 0, none⟩) ∧ s7 = .pointer (some ⟨z5, 0, none⟩) ∧ TwoEx z4 z5 g1 g2 n1 e1 n2 e2 wx ∧ Within w wx)
 case first =>
  refine wp_region_sctG (fun W => W.cell? ⟨b0, 0, none⟩ = some (.bool (decide (n1 < 0))) ∧ W.cell? ⟨b0, 1, none⟩ = some (.slice A1 (dg n1.natAbs).length c1) ∧ W.cell? ⟨b0, 2, none⟩ = some (.int .i64 e1) ∧ W.cell? ⟨b0 + 1, 0, none⟩ = some (.bool (decide (n2 < 0))) ∧ W.cell? ⟨b0 + 1, 1, none⟩ = some (.slice A2 (dg n2.natAbs).length c2) ∧ W.cell? ⟨b0 + 1, 2, none⟩ = some (.int .i64 e2) ∧ b0 < W.heap.size ∧ b0 + 1 < W.heap.size ∧ Within w W) 6 (.firm 0 (.firm 2 (.three 1 (.three 3 (.two 4 (.one 5 (.one 6 (.one 7 .nil))) 5 (.one 4 (.one 6 (.one 7 .nil)))) 4 (.two 3 (.one 5 (.one 6 (.one 7 .nil))) 5 (.one 3 (.one 6 (.one 7 .nil)))) 5 (.two 3 (.one 4 (.one 6 (.one 7 .nil))) 4 (.one 3 (.one 6 (.one 7 .nil))))) 4 (.two 1 (.two 3 (.one 5 (.one 6 (.one 7 .nil))) 5 (.one 3 (.one 6 (.one 7 .nil)))) 5 (.one 1 (.one 3 (.one 6 (.one 7 .nil))))) 5 (.two 1 (.two 3 (.one 4 (.one 6 (.one 7 .nil))) 4 (.one 3 (.one 6 (.one 7 .nil)))) 4 (.one 1 (.one 3 (.one 6 (.one 7 .nil)))))))) kr kr ⟨x05, x15, x25, y05, y15, y25, by have := HS.out; omega, by have := HS.out; omega, hw5⟩ ?_
  rintro w0 ⟨p0, p1, p2_, s0, s1, s2, pl, sl, hw0⟩
  try simp only [pu]
  iterate 2
   apply sct_firm rfl rfl wi
   ·intro wq hq
    have hcq := hq.cells
    clear hq
    go_simp
    rfl
   try simp only [pu]
  refine sct_three rfl rfl rfl rfl rfl rfl (fun K hK => ?_) (fun K hK => ?_) (fun K hK => ?_)
  ·go_simp
   refine (T1.out _ (hR1.out.of (hw0.trans (Within.refl w0).drew))).mono ?_; rintro e1 v1 ⟨g1, rfl, i1_1, _, hb1⟩
   have hv1 : Within w0 v1 := Within.trans (Within.refl w0).drew hb1
   refine hK _ _ hv1 ?_
   clear hK K
   try simp only [pu]
   refine sct_three rfl rfl rfl rfl rfl rfl (fun K hK => ?_) (fun K hK => ?_) (fun K hK => ?_)
   ·go_simp
    refine (T2.out _ (hR2.out.of (hw0.trans hv1))).mono ?_; rintro e2 v2 ⟨g2, rfl, i3_2, _, hb2⟩
    have hv2 : Within w0 v2 := Within.trans hv1 hb2
    have i1_2 := i1_1.of hb2
    refine hK _ _ hv2 ?_
    clear hK K
    try simp only [pu]
    refine sct_two rfl rfl rfl rfl (fun K hK => ?_) (fun K hK => ?_)
    ·refine wp_new_ex rfl ?_
     intro z4 v3 i4_3 hb3 hge4
     have hv3 : Within w0 v3 := Within.trans hv2 hb3
     have k4 : w0.heap.size ≤ z4 := Nat.le_trans (Within.sizes hv2) hge4
     have i1_3 := i1_2.of hb3
     have i3_3 := i3_2.of hb3
     refine hK _ _ hv3 ?_
     clear hK K
     try simp only [pu]
     refine sct_one rfl rfl (fun K hK => ?_)
     refine wp_new_ex rfl ?_
     intro z5 v4 i5_4 hb4 hge5
     have hv4 : Within w0 v4 := Within.trans hv3 hb4
     have k5 : w0.heap.size ≤ z5 := Nat.le_trans (Within.sizes hv3) hge5
     have hne : z4 ≠ z5 := (ExT.ne i4_3 hge5)
     have i1_4 := i1_3.of hb4
     have i3_4 := i3_3.of hb4
     have i4_4 := i4_3.of hb4
     exact zz1
    ·refine wp_new_ex rfl ?_
     intro z5 v3 i5_3 hb3 hge5
     have hv3 : Within w0 v3 := Within.trans hv2 hb3
     have k5 : w0.heap.size ≤ z5 := Nat.le_trans (Within.sizes hv2) hge5
     have i1_3 := i1_2.of hb3
     have i3_3 := i3_2.of hb3
     refine hK _ _ hv3 ?_
     clear hK K
     try simp only [pu]
     refine sct_one rfl rfl (fun K hK => ?_)
     refine wp_new_ex rfl ?_
     intro z4 v4 i4_4 hb4 hge4
     have hv4 : Within w0 v4 := Within.trans hv3 hb4
     have k4 : w0.heap.size ≤ z4 := Nat.le_trans (Within.sizes hv3) hge4
     have hne : z4 ≠ z5 := (ExT.ne i5_3 hge4).symm
     have i1_4 := i1_3.of hb4
     have i3_4 := i3_3.of hb4
     have i5_4 := i5_3.of hb4
     exact zz1
   ·refine wp_new_ex rfl ?_
    intro z4 v2 i4_2 hb2 hge4
    have hv2 : Within w0 v2 := Within.trans hv1 hb2
    have k4 : w0.heap.size ≤ z4 := Nat.le_trans (Within.sizes hv1) hge4
    have i1_2 := i1_1.of hb2
    refine hK _ _ hv2 ?_
    clear hK K
    try simp only [pu]
    refine sct_two rfl rfl rfl rfl (fun K hK => ?_) (fun K hK => ?_)
    ·go_simp
     refine (T2.out _ (hR2.out.of (hw0.trans hv2))).mono ?_; rintro e3 v3 ⟨g2, rfl, i3_3, _, hb3⟩
     have hv3 : Within w0 v3 := Within.trans hv2 hb3
     have i1_3 := i1_2.of hb3
     have i4_3 := i4_2.of hb3
     refine hK _ _ hv3 ?_
     clear hK K
     try simp only [pu]
     refine sct_one rfl rfl (fun K hK => ?_)
     refine wp_new_ex rfl ?_
     intro z5 v4 i5_4 hb4 hge5
     have hv4 : Within w0 v4 := Within.trans hv3 hb4
     have k5 : w0.heap.size ≤ z5 := Nat.le_trans (Within.sizes hv3) hge5
     have hne : z4 ≠ z5 := (ExT.ne i4_3 hge5)
     have i1_4 := i1_3.of hb4
     have i4_4 := i4_3.of hb4
     have i3_4 := i3_3.of hb4
     exact zz1
    ·refine wp_new_ex rfl ?_
     intro z5 v3 i5_3 hb3 hge5
     have hv3 : Within w0 v3 := Within.trans hv2 hb3
     have k5 : w0.heap.size ≤ z5 := Nat.le_trans (Within.sizes hv2) hge5
     have hne : z4 ≠ z5 := (ExT.ne i4_2 hge5)
     have i1_3 := i1_2.of hb3
     have i4_3 := i4_2.of hb3
     refine hK _ _ hv3 ?_
     clear hK K
     try simp only [pu]
     refine sct_one rfl rfl (fun K hK => ?_)
     go_simp
     refine (T2.out _ (hR2.out.of (hw0.trans hv3))).mono ?_; rintro e4 v4 ⟨g2, rfl, i3_4, _, hb4⟩
     have hv4 : Within w0 v4 := Within.trans hv3 hb4
     have i1_4 := i1_3.of hb4
     have i4_4 := i4_3.of hb4
     have i5_4 := i5_3.of hb4
     exact zz1
   ·refine wp_new_ex rfl ?_
    intro z5 v2 i5_2 hb2 hge5
    have hv2 : Within w0 v2 := Within.trans hv1 hb2
    have k5 : w0.heap.size ≤ z5 := Nat.le_trans (Within.sizes hv1) hge5
    have i1_2 := i1_1.of hb2
    refine hK _ _ hv2 ?_
    clear hK K
    try simp only [pu]
    refine sct_two rfl rfl rfl rfl (fun K hK => ?_) (fun K hK => ?_)
    ·go_simp
     refine (T2.out _ (hR2.out.of (hw0.trans hv2))).mono ?_; rintro e3 v3 ⟨g2, rfl, i3_3, _, hb3⟩
     have hv3 : Within w0 v3 := Within.trans hv2 hb3
     have i1_3 := i1_2.of hb3
     have i5_3 := i5_2.of hb3
     refine hK _ _ hv3 ?_
     clear hK K
     try simp only [pu]
     refine sct_one rfl rfl (fun K hK => ?_)
     refine wp_new_ex rfl ?_
     intro z4 v4 i4_4 hb4 hge4
     have hv4 : Within w0 v4 := Within.trans hv3 hb4
     have k4 : w0.heap.size ≤ z4 := Nat.le_trans (Within.sizes hv3) hge4
     have hne : z4 ≠ z5 := (ExT.ne i5_3 hge4).symm
     have i1_4 := i1_3.of hb4
     have i5_4 := i5_3.of hb4
     have i3_4 := i3_3.of hb4
     exact zz1
    ·refine wp_new_ex rfl ?_
     intro z4 v3 i4_3 hb3 hge4
     have hv3 : Within w0 v3 := Within.trans hv2 hb3
     have k4 : w0.heap.size ≤ z4 := Nat.le_trans (Within.sizes hv2) hge4
     have hne : z4 ≠ z5 := (ExT.ne i5_2 hge4).symm
     have i1_3 := i1_2.of hb3
     have i5_3 := i5_2.of hb3
     refine hK _ _ hv3 ?_
     clear hK K
     try simp only [pu]
     refine sct_one rfl rfl (fun K hK => ?_)
     go_simp
     refine (T2.out _ (hR2.out.of (hw0.trans hv3))).mono ?_; rintro e4 v4 ⟨g2, rfl, i3_4, _, hb4⟩
     have hv4 : Within w0 v4 := Within.trans hv3 hb4
     have i1_4 := i1_3.of hb4
     have i5_4 := i5_3.of hb4
     have i4_4 := i4_3.of hb4
     exact zz1
  ·refine wp_new_ex rfl ?_
   intro z4 v1 i4_1 hb1 hge4
   have hv1 : Within w0 v1 := Within.trans (Within.refl w0).drew hb1
   have k4 : w0.heap.size ≤ z4 := Nat.le_trans (Within.sizes (Within.refl w0).drew) hge4
   refine hK _ _ hv1 ?_
   clear hK K
   try simp only [pu]
   refine sct_two rfl rfl rfl rfl (fun K hK => ?_) (fun K hK => ?_)
   ·go_simp
    refine (T1.out _ (hR1.out.of (hw0.trans hv1))).mono ?_; rintro e2 v2 ⟨g1, rfl, i1_2, _, hb2⟩
    have hv2 : Within w0 v2 := Within.trans hv1 hb2
    have i4_2 := i4_1.of hb2
    refine hK _ _ hv2 ?_
    clear hK K
    try simp only [pu]
    refine sct_two rfl rfl rfl rfl (fun K hK => ?_) (fun K hK => ?_)
    ·go_simp
     refine (T2.out _ (hR2.out.of (hw0.trans hv2))).mono ?_; rintro e3 v3 ⟨g2, rfl, i3_3, _, hb3⟩
     have hv3 : Within w0 v3 := Within.trans hv2 hb3
     have i4_3 := i4_2.of hb3
     have i1_3 := i1_2.of hb3
     refine hK _ _ hv3 ?_
     clear hK K
     try simp only [pu]
     refine sct_one rfl rfl (fun K hK => ?_)
     refine wp_new_ex rfl ?_
     intro z5 v4 i5_4 hb4 hge5
     have hv4 : Within w0 v4 := Within.trans hv3 hb4
     have k5 : w0.heap.size ≤ z5 := Nat.le_trans (Within.sizes hv3) hge5
     have hne : z4 ≠ z5 := (ExT.ne i4_3 hge5)
     have i4_4 := i4_3.of hb4
     have i1_4 := i1_3.of hb4
     have i3_4 := i3_3.of hb4
     exact zz1
    ·refine wp_new_ex rfl ?_
     intro z5 v3 i5_3 hb3 hge5
     have hv3 : Within w0 v3 := Within.trans hv2 hb3
     have k5 : w0.heap.size ≤ z5 := Nat.le_trans (Within.sizes hv2) hge5
     have hne : z4 ≠ z5 := (ExT.ne i4_2 hge5)
     have i4_3 := i4_2.of hb3
     have i1_3 := i1_2.of hb3
     refine hK _ _ hv3 ?_
     clear hK K
     try simp only [pu]
     refine sct_one rfl rfl (fun K hK => ?_)
     go_simp
     refine (T2.out _ (hR2.out.of (hw0.trans hv3))).mono ?_; rintro e4 v4 ⟨g2, rfl, i3_4, _, hb4⟩
     have hv4 : Within w0 v4 := Within.trans hv3 hb4
     have i4_4 := i4_3.of hb4
     have i1_4 := i1_3.of hb4
     have i5_4 := i5_3.of hb4
     exact zz1
   ·refine wp_new_ex rfl ?_
    intro z5 v2 i5_2 hb2 hge5
    have hv2 : Within w0 v2 := Within.trans hv1 hb2
    have k5 : w0.heap.size ≤ z5 := Nat.le_trans (Within.sizes hv1) hge5
    have hne : z4 ≠ z5 := (ExT.ne i4_1 hge5)
    have i4_2 := i4_1.of hb2
    refine hK _ _ hv2 ?_
    clear hK K
    try simp only [pu]
    refine sct_one rfl rfl (fun K hK => ?_)
    go_simp
    refine (T1.out _ (hR1.out.of (hw0.trans hv2))).mono ?_; rintro e3 v3 ⟨g1, rfl, i1_3, _, hb3⟩
    have hv3 : Within w0 v3 := Within.trans hv2 hb3
    have i4_3 := i4_2.of hb3
    have i5_3 := i5_2.of hb3
    refine hK _ _ (fun _ => hv3) ?_
    clear hK K
    try simp only [pu]
    refine sct_one rfl rfl (fun K hK => ?_)
    go_simp
    refine (T2.out _ (hR2.out.of (hw0.trans hv3))).mono ?_; rintro e4 v4 ⟨g2, rfl, i3_4, _, hb4⟩
    have hv4 : Within w0 v4 := Within.trans hv3 hb4
    have i4_4 := i4_3.of hb4
    have i5_4 := i5_3.of hb4
    have i1_4 := i1_3.of hb4
    exact zz1
  ·refine wp_new_ex rfl ?_
   intro z5 v1 i5_1 hb1 hge5
   have hv1 : Within w0 v1 := Within.trans (Within.refl w0).drew hb1
   have k5 : w0.heap.size ≤ z5 := Nat.le_trans (Within.sizes (Within.refl w0).drew) hge5
   refine hK _ _ hv1 ?_
   clear hK K
   try simp only [pu]
   refine sct_two rfl rfl rfl rfl (fun K hK => ?_) (fun K hK => ?_)
   ·go_simp
    refine (T1.out _ (hR1.out.of (hw0.trans hv1))).mono ?_; rintro e2 v2 ⟨g1, rfl, i1_2, _, hb2⟩
    have hv2 : Within w0 v2 := Within.trans hv1 hb2
    have i5_2 := i5_1.of hb2
    refine hK _ _ hv2 ?_
    clear hK K
    try simp only [pu]
    refine sct_two rfl rfl rfl rfl (fun K hK => ?_) (fun K hK => ?_)
    ·go_simp
     refine (T2.out _ (hR2.out.of (hw0.trans hv2))).mono ?_; rintro e3 v3 ⟨g2, rfl, i3_3, _, hb3⟩
     have hv3 : Within w0 v3 := Within.trans hv2 hb3
     have i5_3 := i5_2.of hb3
     have i1_3 := i1_2.of hb3
     refine hK _ _ hv3 ?_
     clear hK K
     try simp only [pu]
     refine sct_one rfl rfl (fun K hK => ?_)
     refine wp_new_ex rfl ?_
     intro z4 v4 i4_4 hb4 hge4
     have hv4 : Within w0 v4 := Within.trans hv3 hb4
     have k4 : w0.heap.size ≤ z4 := Nat.le_trans (Within.sizes hv3) hge4
     have hne : z4 ≠ z5 := (ExT.ne i5_3 hge4).symm
     have i5_4 := i5_3.of hb4
     have i1_4 := i1_3.of hb4
     have i3_4 := i3_3.of hb4
     exact zz1
    ·refine wp_new_ex rfl ?_
     intro z4 v3 i4_3 hb3 hge4
     have hv3 : Within w0 v3 := Within.trans hv2 hb3
     have k4 : w0.heap.size ≤ z4 := Nat.le_trans (Within.sizes hv2) hge4
     have hne : z4 ≠ z5 := (ExT.ne i5_2 hge4).symm
     have i5_3 := i5_2.of hb3
     have i1_3 := i1_2.of hb3
     refine hK _ _ hv3 ?_
     clear hK K
     try simp only [pu]
     refine sct_one rfl rfl (fun K hK => ?_)
     go_simp
     refine (T2.out _ (hR2.out.of (hw0.trans hv3))).mono ?_; rintro e4 v4 ⟨g2, rfl, i3_4, _, hb4⟩
     have hv4 : Within w0 v4 := Within.trans hv3 hb4
     have i5_4 := i5_3.of hb4
     have i1_4 := i1_3.of hb4
     have i4_4 := i4_3.of hb4
     exact zz1
   ·refine wp_new_ex rfl ?_
    intro z4 v2 i4_2 hb2 hge4
    have hv2 : Within w0 v2 := Within.trans hv1 hb2
    have k4 : w0.heap.size ≤ z4 := Nat.le_trans (Within.sizes hv1) hge4
    have hne : z4 ≠ z5 := (ExT.ne i5_1 hge4).symm
    have i5_2 := i5_1.of hb2
    refine hK _ _ hv2 ?_
    clear hK K
    try simp only [pu]
    refine sct_one rfl rfl (fun K hK => ?_)
    go_simp
    refine (T1.out _ (hR1.out.of (hw0.trans hv2))).mono ?_; rintro e3 v3 ⟨g1, rfl, i1_3, _, hb3⟩
    have hv3 : Within w0 v3 := Within.trans hv2 hb3
    have i5_3 := i5_2.of hb3
    have i4_3 := i4_2.of hb3
    refine hK _ _ (fun _ => hv3) ?_
    clear hK K
    try simp only [pu]
    refine sct_one rfl rfl (fun K hK => ?_)
    go_simp
    refine (T2.out _ (hR2.out.of (hw0.trans hv3))).mono ?_; rintro e4 v4 ⟨g2, rfl, i3_4, _, hb4⟩
    have hv4 : Within w0 v4 := Within.trans hv3 hb4
    have i5_4 := i5_3.of hb4
    have i4_4 := i4_3.of hb4
    have i1_4 := i1_3.of hb4
    exact zz1
 case rest =>
  obtain ⟨z4, z5, g1, g2, rfl, rfl, ⟨a0, a1, b0', b1, l4, l5, hI1, hI2⟩, hwc⟩ := hcut
  have HI1 := Hh hI1; have HI2 := Hh hI2; clear hI1 hI2 x05 x15 x25 y05 y15 y25
  go_upto_region 4 with fail
  refine wp_region_schG (fun W => W.cell? ⟨z4, 0, none⟩ = some (.pointer (some ⟨g1, 0, none⟩)) ∧ W.cell? ⟨z4, 1, none⟩ = some (.int .i64 e1) ∧ W.cell? ⟨z5, 0, none⟩ = some (.pointer (some ⟨g2, 0, none⟩)) ∧ W.cell? ⟨z5, 1, none⟩ = some (.int .i64 e2) ∧ z4 < W.heap.size ∧ z5 < W.heap.size ∧ W = wc) 12 (.firm 0 (.firm 2 (.firm 3 (.firm 5 (.firm 6 (.one 1 (.one 4 (.firm 7 (.one 8 (.firm 9 (.one 10 (.firm 11 (.one 12 .nil))))))))))))) kr kr ⟨a0, a1, b0', b1, l4, l5, rfl⟩ ?_
  rintro w0 ⟨p0, p1, s0, s1, pl, sl, hwr⟩
  subst hwr
  try simp only [pu]
  iterate 5
   apply sch_firm rfl rfl wi
   ·intro wq hq
    have hcq := hq.cells
    clear hq
    go_simp
    rfl
   try simp only [pu]
  refine sch_one rfl rfl (fun K hK => ?_)
  refine wp_new_p64 rfl ?_
  intro z c0 hT0 hb0 hge0
  have hc0 : Within w0 c0 := (Within.refl _).drew.trans hb0
  refine hK _ _ (fun _ => wi) ?_
  clear hK K
  try simp only [pu]
  refine sch_one rfl rfl (fun K hK => ?_)
  go_simp
  refine (NG.out z g2 _ hT0 (HI2.out.of hc0)).mono ?_; rintro q2 c2_ ⟨rfl, hI2n, hG2⟩
  have hc2 : Within w0 c2_ := Within.grown hc0 hG2 hge0
  refine hK _ _ (fun _ => wi) ?_
  clear hK K
  try simp only [pu]
  apply sch_firm rfl rfl wi
  ·intro wq hq
   have hcq := hq.cells
   clear hq
   go_simp
   rfl
  try simp only [pu]
  refine sch_one rfl rfl (fun K hK => ?_)
  go_simp
  refine (PL.out g1 z _ (HI1.out.of hc2) hI2n).mono ?_; rintro q3 c3 ⟨n, e, ⟨g, rfl, hI8, hb8⟩, hval, _, _, _⟩
  have hc3 : Within w0 c3 := hc2.trans hb8
  have HV := Hh (HD.out n e hval); clear hval
  refine hK _ _ (fun _ => wi) ?_
  clear hK K
  try simp only [pu]
  apply sch_firm rfl rfl wi
  ·intro wq hq
   have hcq := hq.cells
   clear hq
   go_simp
   rfl
  try simp only [pu]
  refine sch_one rfl rfl (fun K hK => ?_)
  go_simp
  refine (SG.out g n _ hI8).mono ?_; rintro q4 c4 ⟨rfl, rfl⟩
  refine hK _ _ (fun _ => wi) ?_
  clear hK K
  try simp only [pu]
  apply sch_firm rfl rfl wi
  ·intro wq hq
   have hcq := hq.cells
   clear hq
   go_simp
   rfl
  try simp only [pu]
  refine sch_one rfl rfl (fun K hK => ?_)
  go_simp
  refine hK _ _ ab ?_
  clear hK K
  try simp only [pu]
  refine sch_nil ?_
  go_wp2
  (try simp only [Exit.inBlock, Exit.then]); refine bodyPost_ret (v := .tuple #[.int .i64 n.sign, .int .i64 0]) (by simp [results, Tryz.results88, go_sem]) rfl ?_
  exact ⟨by rw [HV.out], hwc.trans hc3⟩
def CutP (W : World) (grow : Bool) (M d : Nat) (r : Ending) (w' : World) : Prop := ∃ z q : Nat, r = .returned (.pointer (some ⟨z, 0, none⟩)) ∧ P64.IntB w' z (q : Int) ∧ CutOk grow M d q ∧ M / 2 ^ d ≤ q ∧ q ≤ M / 2 ^ d + 1 ∧ Within W w'
theorem cut_none {M d : Nat} (g : Bool) (h : M % 2 ^ d = 0) : CutOk g M d (M / 2 ^ d) := by
 have h1 := Nat.div_add_mod M (2 ^ d)
 rw [h, Nat.add_zero, Nat.mul_comm] at h1
 unfold CutOk
 cases g <;> simp <;> omega
theorem cut_down {M d : Nat} : CutOk false M d (M / 2 ^ d) := by
 unfold CutOk
 simp
 exact Nat.div_mul_le_self M _
theorem cut_up {M d : Nat} : CutOk true M d (M / 2 ^ d + 1) := by
 have h1 := Nat.div_add_mod M (2 ^ d)
 have h2 := Nat.mod_lt M (Nat.two_pow_pos d)
 unfold CutOk
 simp
 rw [Nat.add_mul, Nat.one_mul, Nat.mul_comm]
 omega
theorem Dcut_le (M k K : Nat) (dn mode : Int) (neg : Bool) (g : Nat) (hd : dn ≤ 0) (hk : -dn = (k : Int)) (hk2 : k ≤ 100000) (hK : M < 2 ^ K) (hK2 : K ≤ 100000) (w : World) (hI : P64.IntB w g (M : Int)) : Calls Tryz.prog 372 #[.pointer (some ⟨g, 0, none⟩), .int .i64 dn, .bool neg, .int .i64 mode] w (fun r w' => ∃ z, r = .returned (.pointer (some ⟨z, 0, none⟩)) ∧ P64.IntB w' z ((M * 2 ^ k : Nat) : Int) ∧ Within w w') := by
 have SH := Hh (fun (z : Nat) w hz hx => (show Calls Tryz.prog 236 #[.pointer (some ⟨z, 0, none⟩), .pointer (some ⟨g, 0, none⟩), .int .u64 (k : Int)] w (P64.PutI w z ((M * 2 ^ k : Nat) : Int)) from by
  have := P64.Plsh z g k (M : Int) (Nat.le_trans (len64 (n := (M : Int)) hK (J := 100000) om) om) om w hz hx
  rw [show ((M * 2 ^ k : Nat) : Int) = (M : Int) * 2 ^ k by push_cast; rfl]
  exact this))
 have ha : Within w (w.alloc (.cells #[.bool false, .slice none 0 0] 229)) := (Within.refl w).alloc _
 have hT := (P64.IntB.made w).ty
 have hJ := hI.of ha
 have d0 : decide (dn ≤ 0) = true := decide_eq_true hd
 have w1 : IntKind.i64.wrap (-dn) = (k : Int) := by rw [hk]; exact IntWalk.i64_in _ ⟨by omega, by omega⟩
 have w2 : IntKind.u64.wrap (k : Int) = (k : Int) := IntWalk.u64_in _ ⟨by omega, by omega⟩
 clear hk hk2 hK hK2 hI
 generalize M * 2 ^ k = v at *
 go_enter Tryz.func372, Tryz.ntmps372
 go_wp2_with fail
 refine (SH.out w.heap.size _ hT hJ).mono ?_; rintro e1 w3 ⟨rfl, hI3, hG3⟩
 go_wp2
 go_ret
 exact ⟨_, rfl, hI3, Within.grown ha hG3 (Nat.le_refl _)⟩
theorem zz54 {p : Prop} (h : p := by
 go_wp2_with fail
 refine (NI.out _).mono ?_; rintro r8 u8 ⟨g8, rfl, q8, hg8, h8⟩
 have k2 := k1.out.of h8
 go_wp2_with fail
 refine (AD.out z1 g8 _ k2.ty k2 q8).mono ?_; rintro r9 u9 ⟨rfl, q9, G9⟩
 go_wp2
 go_ret
 exact ⟨z1, q + 1, rfl, q9, C2.out, by rw [HQ.out]; exact Nat.le_succ _, by rw [HQ.out]; exact Nat.le_refl _, Within.grown (b7.trans h8) G9 LZ.out⟩) : p := h
theorem zz102 {p : Prop} (h : p := by
 go_wp2; go_ret; exact ⟨z1, q, rfl, k1.out, C1.out, by rw [HQ.out]; exact Nat.le_refl _, by rw [HQ.out]; exact Nat.le_succ _, b7⟩) : p := h
theorem Dcut_gt (M d k K : Nat) (mode : Int) (up neg : Bool) (g : Nat) (hm : mode = if up then 3 else 4) (hd : 0 < d) (hk : k = d - 1) (hd2 : d ≤ 100000) (hK : M < 2 ^ K) (hK2 : K ≤ 100000) (w : World) (hI : P64.IntB w g (M : Int)) : Calls Tryz.prog 372 #[.pointer (some ⟨g, 0, none⟩), .int .i64 (d : Int), .bool neg, .int .i64 mode] w (CutP w (up != neg) M d) := by
 have hl := Nat.le_trans (len64 (n := (M : Int)) hK (J := 20000) om) (show 20000 ≤ 400000 by decide)
 have hq0 : M / 2 ^ d ≤ M := Nat.div_le_self _ _
 have hr0 : M % 2 ^ d ≤ M := Nat.mod_le _ _
 have hs0 : M / 2 ^ d * 2 ^ d ≤ M := Nat.div_mul_le_self _ _
 have hlq := Nat.le_trans (len64 (n := ((M / 2 ^ d : Nat) : Int)) (K := K) (by rw [Int.natAbs_natCast]; exact Nat.lt_of_le_of_lt hq0 hK) (J := 20000) om) (show 20000 ≤ 400000 by decide)
 have hlr := Nat.le_trans (len64 (n := ((M % 2 ^ d : Nat) : Int)) (K := K) (by rw [Int.natAbs_natCast]; exact Nat.lt_of_le_of_lt hr0 hK) (J := 20000) om) (show 20000 ≤ 400000 by decide)
 have hls := Nat.le_trans (len64 (n := ((M / 2 ^ d * 2 ^ d : Nat) : Int)) (K := K) (by rw [Int.natAbs_natCast]; exact Nat.lt_of_le_of_lt hs0 hK) (J := 20000) om) (show 20000 ≤ 400000 by decide)
 have hlh := Nat.le_trans (len64 (n := ((2 ^ k : Nat) : Int)) (K := k + 1) (by rw [Int.natAbs_natCast]; exact Nat.pow_lt_pow_right dc om) (J := 20000) om) (show 20000 ≤ 400000 by decide)
 have RS := Hh (fun (z : Nat) w hz hx => (show Calls Tryz.prog 260 #[.pointer (some ⟨z, 0, none⟩), .pointer (some ⟨g, 0, none⟩), .int .u64 (d : Int)] w (P64.PutI w z ((M / 2 ^ d : Nat) : Int)) from by
  have := P64.Prsh z g d (M : Int) hl om (.inl om) w hz hx
  rw [show ((M / 2 ^ d : Nat) : Int) = (M : Int) / 2 ^ d by rw [Int.natCast_ediv]; push_cast; rfl]
  exact this))
 have LS := Hh (fun (z x : Nat) w hz hx => (show Calls Tryz.prog 236 #[.pointer (some ⟨z, 0, none⟩), .pointer (some ⟨x, 0, none⟩), .int .u64 (d : Int)] w (P64.PutI w z ((M / 2 ^ d * 2 ^ d : Nat) : Int)) from by
  have := P64.Plsh z x d ((M / 2 ^ d : Nat) : Int) hlq om w hz hx
  rw [show ((M / 2 ^ d * 2 ^ d : Nat) : Int) = ((M / 2 ^ d : Nat) : Int) * 2 ^ d by rw [Int.natCast_mul, Int.natCast_pow]; rfl]
  exact this))
 have SB := Hh (fun (z y : Nat) w hz hx hy => (show Calls Tryz.prog 378 #[.pointer (some ⟨z, 0, none⟩), .pointer (some ⟨g, 0, none⟩), .pointer (some ⟨y, 0, none⟩)] w (P64.PutI w z ((M % 2 ^ d : Nat) : Int)) from by
  have := P64.Psub z g y (M : Int) ((M / 2 ^ d * 2 ^ d : Nat) : Int) om om w hz hx hy
  rw [show ((M % 2 ^ d : Nat) : Int) = (M : Int) - ((M / 2 ^ d * 2 ^ d : Nat) : Int) by have := Nat.div_add_mod M (2 ^ d); rw [Nat.mul_comm] at this; omega]
  exact this))
 have NI := Hh (fun w => P64.PnewInt 1 dc w)
 have LH := Hh (fun (z x : Nat) w hz hx => (show Calls Tryz.prog 236 #[.pointer (some ⟨z, 0, none⟩), .pointer (some ⟨x, 0, none⟩), .int .u64 (k : Int)] w (P64.PutI w z ((2 ^ k : Nat) : Int)) from by
  have := P64.Plsh z x k ((1 : Nat) : Int) (by rw [show (((1 : Nat) : Int)).natAbs = 1 from rfl]; exact Nat.le_trans (P64.dg_len_le (k := 1) dc) dc) om w hz hx
  rw [show ((2 ^ k : Nat) : Int) = ((1 : Nat) : Int) * 2 ^ k by rw [Int.natCast_pow]; simp]
  exact this))
 obtain ⟨cc, hcc⟩ : ∃ c, c = P64.cmpI ((M % 2 ^ d : Nat) : Int) ((2 ^ k : Nat) : Int) := ⟨_, rfl⟩
 have CM := Hh (fun (x y : Nat) w hx hy => P64.Pcmp x y ((M % 2 ^ d : Nat) : Int) ((2 ^ k : Nat) : Int) om om w hx hy)
 rw [← hcc] at CM
 have SG := Hh (fun (x : Nat) w hx => P64.Psign x ((M % 2 ^ d : Nat) : Int) w hx)
 obtain ⟨ss, hss⟩ : ∃ s, s = ((M % 2 ^ d : Nat) : Int).sign := ⟨_, rfl⟩
 rw [← hss] at SG
 have AD := Hh (fun (z y : Nat) w hz hx hy => (show Calls Tryz.prog 255 #[.pointer (some ⟨z, 0, none⟩), .pointer (some ⟨z, 0, none⟩), .pointer (some ⟨y, 0, none⟩)] w (P64.PutI w z ((M / 2 ^ d + 1 : Nat) : Int)) from by
  have := P64.Padd z z y ((M / 2 ^ d : Nat) : Int) ((1 : Nat) : Int) om (by rw [show (((1 : Nat) : Int)).natAbs = 1 from rfl]; exact Nat.le_trans (P64.dg_len_le (k := 1) dc) dc) w hz hx hy
  exact this))
 have d0 : decide ((d : Int) ≤ 0) = false := decide_eq_false om
 have d00 : ¬ d = 0 := by omega
 have w0 : IntKind.u64.wrap (d : Int) = (d : Int) := IntWalk.u64_in _ ⟨by omega, by omega⟩
 have w1 : IntKind.i64.wrap ((d : Int) - 1) = (k : Int) := by rw [hk]; exact (IntWalk.i64_in _ ⟨by omega, by omega⟩).trans om
 have w2 : IntKind.u64.wrap (k : Int) = (k : Int) := IntWalk.u64_in _ ⟨by omega, by omega⟩
 have C0 := Hh (fun (b : Bool) (h : M % 2 ^ d = 0) => cut_none (M := M) (d := d) b h); have C1 := Hh (cut_down (M := M) (d := d)); have C2 := Hh (cut_up (M := M) (d := d))
 have HM := Hh hm; have HD := Hh (And.intro hd (And.intro hk hd2))
 clear hl hlq hlr hls hlh hq0 hr0 hs0 hK hK2 hcc hm hd hk hd2
 generalize hQ : M / 2 ^ d * 2 ^ d = Q at *
 clear hQ
 generalize hR : M % 2 ^ d = R at *
 have HR := Hh hR
 clear hR
 generalize hq : M / 2 ^ d = q at *
 have HQ := Hh hq
 clear hq
 generalize hH : 2 ^ k = H at *
 clear hH
 go_enter Tryz.func372, Tryz.ntmps372
 have a1 : Within w (w.alloc (.cells #[.bool false, .slice none 0 0] 229)) := (Within.refl w).alloc _
 have t1 := (P64.IntB.made w).ty
 have j1 := Hh (hI.of a1)
 go_wp2_with fail
 refine (RS.out w.heap.size _ t1 j1.out).mono ?_; rintro r1 u1 ⟨rfl, q1, G1⟩
 have b1 : Within w u1 := Within.grown a1 G1 (Nat.le_refl _)
 obtain ⟨z1, hz1⟩ : ∃ z, z = w.heap.size := ⟨_, rfl⟩
 rw [← hz1] at q1 ⊢
 have Z1 := Hh hz1
 clear hz1 G1 a1 t1 j1
 have a2 : Within u1 (u1.alloc (.cells #[.bool false, .slice none 0 0] 229)) := (Within.refl _).alloc _
 have a3 : Within u1 ((u1.alloc (.cells #[.bool false, .slice none 0 0] 229)).alloc (.cells #[.bool false, .slice none 0 0] 229)) := ((Within.refl _).alloc _).alloc _
 have t2 : P64.IntTy ((u1.alloc (.cells #[.bool false, .slice none 0 0] 229)).alloc (.cells #[.bool false, .slice none 0 0] 229)) u1.heap.size := ((P64.IntB.made u1).of ((Within.refl _).alloc _)).ty
 have t3 : P64.IntTy ((u1.alloc (.cells #[.bool false, .slice none 0 0] 229)).alloc (.cells #[.bool false, .slice none 0 0] 229)) (u1.heap.size + 1) := by
  have := (P64.IntB.made (u1.alloc (.cells #[.bool false, .slice none 0 0] 229))).ty
  simpa using this
 have j2 := q1.of a3
 go_wp2_with fail
 refine (LS.out (u1.heap.size + 1) z1 _ t3 j2).mono ?_; rintro r2 u2 ⟨rfl, q2, G2⟩
 have b2 : Within u1 u2 := Within.grown a3 G2 om
 have t2' : P64.IntTy u2 u1.heap.size := by
  have k : Within (u1.alloc (.cells #[.bool false, .slice none 0 0] 229)) u2 := Within.grown ((Within.refl _).alloc _) G2 (by simp)
  exact (P64.IntB.made u1).ty.of k
 have j3 := hI.of (b1.trans b2)
 go_wp2_with fail
 refine (SB.out u1.heap.size (u1.heap.size + 1) _ t2' j3 q2).mono ?_; rintro r3 u3 ⟨rfl, q3, G3⟩
 have b3 : Within u1 u3 := Within.grown b2 G3 (Nat.le_refl _)
 obtain ⟨z2, hz2⟩ : ∃ z, z = u1.heap.size := ⟨_, rfl⟩
 rw [← hz2] at q3 ⊢
 clear hz2 a2 a3 t2 t3 j2 j3 t2' G2 G3 q2
 have c1 := Hh (q1.of b3)
 have a4 : Within u3 (u3.alloc (.cells #[.bool false, .slice none 0 0] 229)) := (Within.refl _).alloc _
 have t4 := (P64.IntB.made u3).ty
 go_wp2_with fail
 refine (NI.out _).mono ?_; rintro r4 u4 ⟨g4, rfl, q4, hg4, h4⟩
 have b4 : Within u3 u4 := a4.trans h4
 have t4' := t4.of h4
 go_wp2_with fail
 refine (LH.out u3.heap.size g4 _ t4' q4).mono ?_; rintro r5 u5 ⟨rfl, q5, G5⟩
 have b5 : Within u3 u5 := Within.grown b4 G5 (Nat.le_refl _)
 have j5 := q3.of b5
 go_wp2_with fail
 refine (CM.out z2 u3.heap.size _ j5 q5).mono ?_; rintro r6 u6 ⟨rfl, b6⟩
 have j6 := j5.of b6
 have k1 := Hh (c1.out.of (b5.trans b6))
 have b7 := (b1.trans b3).trans (b5.trans b6)
 have lz : w.heap.size ≤ z1 := by have := Z1.out; omega
 have LZ := Hh lz
 clear q5 G5 t4 t4' a4 b4 b5 j5 c1 q4 h4 b6 q3 b1 b2 b3 lz
 go_wp2_with fail
 refine (SG.out z2 _ j6).mono ?_; rintro r7 u7 ⟨rfl, rfl⟩
 by_cases h0 : R = 0
 ·have s0 : (ss == 0) = true := by rw [hss, h0]; rfl
  clear hss
  go_wp2
  go_ret
  exact ⟨z1, q, rfl, k1.out, C0.out _ (HR.out ▸ h0), by rw [HQ.out]; exact Nat.le_refl _, by rw [HQ.out]; exact Nat.le_succ _, b7⟩
 ·have s0 : (ss == 0) = false := by rw [hss, beq_eq_false_iff_ne]; intro h; exact h0 (by have := Int.sign_eq_zero_iff_zero.1 h; omega)
  clear hss
  have hm := HM.out
  cases up <;> cases neg <;> subst hm
  ·exact zz102
  ·exact zz54
  ·exact zz54
  ·exact zz102
def RdOk (up neg : Bool) (M : Nat) (e last : Int) (q : Nat) : Prop := (last ≤ e → q = M * 2 ^ (e - last).toNat) ∧ (e < last → CutOk (up != neg) M (last - e).toNat q ∧ M / 2 ^ (last - e).toNat ≤ q ∧ q ≤ M / 2 ^ (last - e).toNat + 1)
def EndV (W : World) (up : Bool) (q : Rat) (r : Ending) (w' : World) : Prop := ∃ x, r = .returned (.tuple #[.float .f64 x, .int .i64 0]) ∧ EndOk up x q ∧ Within W w'
theorem sgI_abs (n : Int) : sgI (decide (n < 0)) n.natAbs = n := by
 unfold sgI
 by_cases h : n < 0
 ·rw [decide_eq_true h]; simp; omega
 ·rw [decide_eq_false h]; simp; omega
theorem blen_below (n : Nat) : n < 2 ^ blen n := by
 by_cases h : n = 0
 ·rw [h, blen_zero]; decide
 ·rw [blen_pos h]; exact Nat.lt_log2_self
theorem rd_few {up neg : Bool} {M q : Nat} {e last : Int} (hl : last = max (e + (blen M : Nat) - 53) (-1074)) (h : RdOk up neg M e last q) : q ≤ 9007199254740992 := by
 rw [← pow53]
 exact last_few (b := blen M) (blen_below M) om h.1 (fun g => (h.2 g).2.2)
theorem rd_fin {up neg : Bool} {M q : Nat} {e last : Int} (hl : last = max (e + (blen M : Nat) - 53) (-1074)) (h : RdOk up neg M e last q) (ht : last + (blen q : Nat) ≤ 1024) :
 EndOk up (madeD neg q last) (dyR (sgI neg M) e) := by
 have hq := rd_few hl h
 obtain ⟨f1, f2⟩ := made_un (neg := neg) hq om (blen_below q) ht
 exact round_fin f1 om f2 h.1 (fun g => (h.2 g).1)
theorem rd_pos {up neg : Bool} {M q : Nat} {e last : Int} (he : M = 0 → e = 0) (hl : last = max (e + (blen M : Nat) - 53) (-1074)) (h : RdOk up neg M e last q) (ht : 1024 < last + (blen q : Nat)) : q ≠ 0 := by
 intro g
 subst g
 rw [blen_zero] at ht
 by_cases hM : M = 0
 ·have := he hM
  rw [hM, blen_zero] at hl
  omega
 ·rcases Int.lt_or_le e last with g | g
  ·have k := (h.2 g).2.1
   have k2 : 2 ^ (last - e).toNat ≤ M := by
    have k3 := Nat.log2_self_le hM
    rw [blen_pos hM] at hl
    exact Nat.le_trans (Nat.pow_le_pow_right dc om) k3
   have := Nat.div_pos k2 (Nat.two_pow_pos _)
   omega
  ·have k := h.1 g
   have := Nat.mul_pos (Nat.pos_of_ne_zero hM) (Nat.two_pow_pos (e - last).toNat)
   omega
theorem rd_beyond {up neg : Bool} {M q : Nat} {e last : Int} (he : M = 0 → e = 0) (hl : last = max (e + (blen M : Nat) - 53) (-1074)) (h : RdOk up neg M e last q) (ht : 1024 < last + (blen q : Nat)) :
 EndOk up (if up != neg then (if neg then 18442240474082181120 else 9218868437227405312) else (if neg then 18442240474082181119 else 9218868437227405311)) (dyR (sgI neg M) e) := by
 have h0 := rd_pos he hl h ht
 rw [blen_pos h0] at ht
 exact round_beyond (L := q.log2) om (Nat.log2_self_le h0) om h.1 (fun g => (h.2 g).1)
theorem Dcut (M K : Nat) (e last mode : Int) (up neg : Bool) (g : Nat) (hm : mode = if up then 3 else 4) (h1 : -100000 ≤ last - e) (h2 : last - e ≤ 100000) (hK : M < 2 ^ K) (hK2 : K ≤ 100000) (w : World) (hI : P64.IntB w g (M : Int)) :
 Calls Tryz.prog 372 #[.pointer (some ⟨g, 0, none⟩), .int .i64 (last - e), .bool neg, .int .i64 mode] w (fun r w' => ∃ z q : Nat, r = .returned (.pointer (some ⟨z, 0, none⟩)) ∧ P64.IntB w' z (q : Int) ∧ RdOk up neg M e last q ∧ Within w w') := by
 rcases Int.lt_or_le e last with h | h
 ·obtain ⟨d, hd⟩ : ∃ d : Nat, last - e = (d : Int) := ⟨(last - e).toNat, by omega⟩
  rw [hd]
  refine (Dcut_gt M d (d - 1) K mode up neg g hm om rfl om hK hK2 w hI).mono ?_
  rintro r w' ⟨z, q, rfl, hz, k1, k2, k3, hb⟩
  have e2 : (last - e).toNat = d := by omega
  exact ⟨z, q, rfl, hz, ⟨fun g => absurd g om, fun _ => by rw [e2]; exact ⟨k1, k2, k3⟩⟩, hb⟩
 ·refine (Dcut_le M (e - last).toNat K (last - e) mode neg g om om om hK hK2 w hI).mono ?_
  rintro r w' ⟨z, rfl, hz, hb⟩
  exact ⟨z, _, rfl, hz, ⟨fun _ => rfl, fun g => absurd g om⟩, hb⟩
theorem blen_le_K {n K : Nat} (h : n < 2 ^ K) : (blen n : Nat) ≤ K := by
 by_cases h0 : n = 0
 ·rw [h0, blen_zero]; exact Nat.zero_le _
 ·rw [blen_pos h0]
  exact (Nat.log2_lt h0).2 h
theorem Drounded (n e last mode : Int) (up : Bool) (g K : Nat) (hm : mode = if up then 3 else 4) (hL : last = max (e + (blen n.natAbs : Nat) - 53) (-1074)) (hK : n.natAbs < 2 ^ K) (hK2 : K ≤ 20000) (he : -40000 ≤ e ∧ e ≤ 40000) (w : World) (hI : P64.IntB w g n) : Calls Tryz.prog 358 #[.agg #[.pointer (some ⟨g, 0, none⟩), .int .i64 e], .int .i64 53, .int .i64 (-1074), .int .i64 mode] w (fun r w' => ∃ z q : Nat, r = .returned (.tuple #[.pointer (some ⟨z, 0, none⟩), .int .i64 last]) ∧ P64.IntB w' z (q : Int) ∧ RdOk up (decide (n < 0)) n.natAbs e last q ∧ Within w w') := by
 have hl := Nat.le_trans (len64 hK (J := 20000) om) (show 20000 ≤ 400000 by decide)
 have hb53 : (blen n.natAbs : Nat) ≤ K := blen_le_K hK
 have AB := Hh (fun (z : Nat) w hz hx => P64.Pabs z g n hl w hz hx)
 have BL := Hh (fun (x : Nat) w hx => P64.Pbitlen x (n.natAbs : Int) (by rw [Int.natAbs_natCast]; omega) w hx)
 rw [Int.natAbs_natCast] at BL
 have SG := Hh (fun w hx => P64.Psign g n w hx)
 have CU := Hh (fun (x : Nat) w hx => Dcut n.natAbs K e last mode up (decide (n < 0)) x hm om om hK om w hx)
 have HL := Hh hL
 generalize hb : blen n.natAbs = b at *
 clear hb
 obtain ⟨eb, heb⟩ : ∃ x, x = e + (b : Int) := ⟨_, rfl⟩
 have w1 : IntKind.i64.wrap (e + (b : Int)) = eb := by rw [heb]; exact IntWalk.i64_in _ ⟨by omega, by omega⟩
 obtain ⟨xx, hxx⟩ : ∃ x, x = eb - 53 := ⟨_, rfl⟩
 have w2 : IntKind.i64.wrap (eb - 53) = xx := by rw [hxx]; exact IntWalk.i64_in _ ⟨by omega, by omega⟩
 have w3 : max xx (-1074) = last := by omega
 obtain ⟨dd, hdd⟩ : ∃ x, x = last - e := ⟨_, rfl⟩
 have w4 : IntKind.i64.wrap (last - e) = dd := by rw [hdd]; exact IntWalk.i64_in _ ⟨by omega, by omega⟩
 rw [← hdd] at CU
 have w5 : decide (n.sign < 0) = decide (n < 0) := decide_eq_decide.2 Int.sign_neg_iff
 obtain ⟨ss, hss⟩ : ∃ s, s = n.sign := ⟨_, rfl⟩
 rw [← hss] at SG w5
 clear hss
 obtain ⟨ng, hng⟩ : ∃ s, s = decide (n < 0) := ⟨_, rfl⟩
 rw [← hng] at CU w5 ⊢
 clear hng
 clear hl hb53 hm hL hK hK2 he heb hxx hdd
 generalize n.natAbs = M at *
 have a1 : Within w (w.alloc (.cells #[.pointer (some ⟨g, 0, none⟩), .int .i64 e] 231)) := (Within.refl w).alloc _
 have a2 : Within (w.alloc (.cells #[.pointer (some ⟨g, 0, none⟩), .int .i64 e] 231)) ((w.alloc (.cells #[.pointer (some ⟨g, 0, none⟩), .int .i64 e] 231)).alloc (.cells #[.bool false, .slice none 0 0] 229)) := (Within.refl _).alloc _
 have t1 : P64.IntTy ((w.alloc (.cells #[.pointer (some ⟨g, 0, none⟩), .int .i64 e] 231)).alloc (.cells #[.bool false, .slice none 0 0] 229)) (w.heap.size + 1) := by
  have := (P64.IntB.made (w.alloc (.cells #[.pointer (some ⟨g, 0, none⟩), .int .i64 e] 231))).ty
  simpa using this
 have x0 : ((w.alloc (.cells #[.pointer (some ⟨g, 0, none⟩), .int .i64 e] 231)).alloc (.cells #[.bool false, .slice none 0 0] 229)).cell? ⟨w.heap.size, 0, none⟩ = some (.pointer (some ⟨g, 0, none⟩)) := by go_simp
 have x1 : ((w.alloc (.cells #[.pointer (some ⟨g, 0, none⟩), .int .i64 e] 231)).alloc (.cells #[.bool false, .slice none 0 0] 229)).cell? ⟨w.heap.size, 1, none⟩ = some (.int .i64 e) := by go_simp
 have hs2 : w.heap.size < ((w.alloc (.cells #[.pointer (some ⟨g, 0, none⟩), .int .i64 e] 231)).alloc (.cells #[.bool false, .slice none 0 0] 229)).heap.size := by simp; omega
 have HI := Hh hI
 clear hI
 go_enter Tryz.func358, Tryz.ntmps358
 go_upto_region 1 with fail
 go_wp2_with fail
 refine (AB.out (w.heap.size + 1) _ t1 (HI.out.of (a1.trans a2))).mono ?_; rintro r1 u1 ⟨rfl, q1, G1⟩
 have b1 : Within (w.alloc (.cells #[.pointer (some ⟨g, 0, none⟩), .int .i64 e] 231)) u1 := Within.grown a2 G1 (by simp)
 have bw : Within w u1 := a1.trans b1
 have x0' : u1.cell? ⟨w.heap.size, 0, none⟩ = some (.pointer (some ⟨g, 0, none⟩)) := (b1.cells _ _ (show w.heap.size < (w.alloc (.cells #[.pointer (some ⟨g, 0, none⟩), .int .i64 e] 231)).heap.size by simp)).trans (by go_simp)
 have x1' : u1.cell? ⟨w.heap.size, 1, none⟩ = some (.int .i64 e) := (b1.cells _ _ (show w.heap.size < (w.alloc (.cells #[.pointer (some ⟨g, 0, none⟩), .int .i64 e] 231)).heap.size by simp)).trans (by go_simp)
 have ls : w.heap.size < u1.heap.size := by have := b1.size; simp at this; omega
 obtain ⟨z1, hz1⟩ : ∃ z, z = w.heap.size + 1 := ⟨_, rfl⟩
 rw [← hz1] at q1 ⊢
 obtain ⟨b0, hb0⟩ : ∃ z, z = w.heap.size := ⟨_, rfl⟩
 rw [← hb0] at x0' x1' ls ⊢
 have Z0 := Hh (And.intro hz1 hb0)
 clear hz1 hb0 a1 a2 t1 x0 x1 hs2 G1 b1
 go_upto_region 2 with fail
 refine wp_region_schG (fun W => W.cell? ⟨b0, 0, none⟩ = some (.pointer (some ⟨g, 0, none⟩)) ∧ W.cell? ⟨b0, 1, none⟩ = some (.int .i64 e) ∧ b0 < W.heap.size ∧ P64.IntB W z1 (M : Int) ∧ Within w W) 9 (.firm 0 (.firm 1 (.firm 2 (.firm 5 (.firm 7 (.one 3 (.firm 4 (.firm 6 (.one 8 (.one 9 .nil)))))))))) kr kr ⟨x0', x1', ls, q1, bw⟩ ?_
 rintro w0 ⟨p0, p1, pl, qI, hw0⟩
 try simp only [pu]
 iterate 5
  apply sch_firm rfl rfl wi
  ·intro wq hq
   have hcq := hq.cells
   clear hq
   go_simp
   rfl
  try simp only [pu]
 refine sch_one rfl rfl (fun K hK => ?_)
 go_simp
 refine (BL.out z1 _ (qI.of (Within.refl _).drew)).mono ?_; rintro r2 u2 ⟨rfl, rfl⟩
 refine hK _ _ (fun _ => wi) ?_
 clear hK K
 try simp only [pu]
 iterate 2
  apply sch_firm rfl rfl wi
  ·intro wq hq
   have hcq := hq.cells
   clear hq
   go_simp
   rfl
  try simp only [pu]
 refine sch_one rfl rfl (fun K hK => ?_)
 go_simp
 refine hK _ _ (fun _ => wi) ?_
 clear hK K
 try simp only [pu]
 refine sch_one rfl rfl (fun K hK => ?_)
 go_simp
 refine hK _ _ ab ?_
 clear hK K
 try simp only [pu]
 refine sch_nil ?_
 obtain ⟨W1, hW1⟩ : ∃ W, W = w0.drew := ⟨_, rfl⟩
 have p0' : W1.cell? ⟨b0, 0, none⟩ = some (.pointer (some ⟨g, 0, none⟩)) := by rw [hW1]; exact p0
 have p1' : W1.cell? ⟨b0, 1, none⟩ = some (.int .i64 e) := by rw [hW1]; exact p1
 have pl' : b0 < W1.heap.size := by rw [hW1]; exact pl
 have qI' : P64.IntB W1 z1 (M : Int) := by rw [hW1]; exact qI.of (Within.refl _).drew
 have hw1 : Within w W1 := by rw [hW1]; exact hw0.drew
 rw [← hW1]
 clear hW1 p0 p1 pl qI hw0 x0' x1' ls q1 bw
 go_upto_region 3 with fail
 refine wp_region_schG (fun W => W.cell? ⟨b0, 0, none⟩ = some (.pointer (some ⟨g, 0, none⟩)) ∧ W.cell? ⟨b0, 1, none⟩ = some (.int .i64 e) ∧ b0 < W.heap.size ∧ P64.IntB W z1 (M : Int) ∧ Within w W ∧ P64.IntB W g n) 13 (.firm 0 (.firm 1 (.firm 2 (.firm 3 (.firm 4 (.firm 5 (.firm 6 (.firm 9 (.firm 11 (.one 7 (.firm 8 (.one 10 (.firm 12 (.one 13 .nil)))))))))))))) kr kr ⟨p0', p1', pl', qI', hw1, HI.out.of hw1⟩ ?_
 rintro w0 ⟨p0, p1, pl, qI, hw0, gI⟩
 try simp only [pu]
 iterate 9
  apply sch_firm rfl rfl wi
  ·intro wq hq
   have hcq := hq.cells
   clear hq
   go_simp
   rfl
  try simp only [pu]
 refine sch_one rfl rfl (fun K hK => ?_)
 go_simp
 refine (SG.out _ (gI.of (Within.refl _).drew)).mono ?_; rintro r3 u3 ⟨rfl, rfl⟩
 refine hK _ _ (fun _ => wi) ?_
 clear hK K
 try simp only [pu]
 apply sch_firm rfl rfl wi
 ·intro wq hq
  have hcq := hq.cells
  clear hq
  go_simp
  rfl
 try simp only [pu]
 refine sch_one rfl rfl (fun K hK => ?_)
 go_simp
 refine (CU.out z1 _ (qI.of (Within.refl _).drew)).mono ?_; rintro r4 u4 ⟨z, q, rfl, hz, hrd, hb4⟩
 refine hK _ _ (fun _ => wi) ?_
 clear hK K
 try simp only [pu]
 apply sch_firm rfl rfl wi
 ·intro wq hq
  have hcq := hq.cells
  clear hq
  go_simp
  rfl
 try simp only [pu]
 refine sch_one rfl rfl (fun K hK => ?_)
 go_simp
 refine hK _ _ ab ?_
 clear hK K
 try simp only [pu]
 refine sch_nil ?_
 go_wp2
 (try simp only [Exit.inBlock, Exit.then]); refine bodyPost_ret (v := .tuple #[.pointer (some ⟨z, 0, none⟩), .int .i64 last]) (by simp [results, Tryz.results358, go_sem]) rfl ?_
 exact ⟨z, q, rfl, hz, hrd, (hw0.drew).trans hb4⟩
end Go.Proofs.YtgkcpnidmfejeaaGreatDoor
section
namespace Go.Proofs.YtgkcpnidmfejeaaGreatDoor
def RepZ (z : Int) : Prop := ∃ (c : Int) (e : Nat), z = c * 2 ^ e ∧ c.natAbs ≤ 9007199254740992
theorem rn_nat (m : Nat) : ∃ K q, Fp.mag Ieee.double (Fp.grid Ieee.double m 0) = q * 2 ^ K ∧ m < 9007199254740992 * 2 ^ K ∧ q ≤ 9007199254740992 ∧ (K ≠ 0 → 4503599627370496 * 2 ^ K ≤ m) ∧
 2 * m ≤ 2 * (q * 2 ^ K) + 2 ^ K ∧ 2 * (q * 2 ^ K) ≤ 2 * m + 2 ^ K ∧ (m % 2 ^ K = 0 → q * 2 ^ K = m) := by
 obtain ⟨r, h1, h2⟩ := Fp.floor_exists Ieee.double m 1 dc
 rw [Nat.mul_one] at h1 h2
 rw [Fp.mag_succ] at h2
 have hg := Fp.grid_between Ieee.double Fp.dF r 0 (m - Fp.mag Ieee.double r) (by rw [Nat.pow_zero, Nat.mul_one]; omega)
 rw [Nat.pow_zero, Nat.mul_one, Nat.mul_one, show Fp.mag Ieee.double r + (m - Fp.mag Ieee.double r) = m by omega] at hg
 obtain ⟨K, hK⟩ : ∃ K, K = r / 4503599627370496 - 1 := ⟨_, rfl⟩
 have hst : Fp.step Ieee.double r = 2 ^ K := by unfold Fp.step; rw [Fp.dB, ← hK]
 obtain ⟨c, hc, hc1, hc2⟩ : ∃ c, Fp.mag Ieee.double r = c * 2 ^ K ∧ c < 9007199254740992 ∧ (K ≠ 0 → 4503599627370496 ≤ c) := by
  rw [Fp.mag_eq, hst, Fp.dB]
  refine ⟨_, rfl, ?_, ?_⟩
  ·split <;> omega
  ·intro h; rw [if_neg om]; omega
 rw [hst] at hg h2
 have hm1 : Fp.mag Ieee.double (r + 1) = (c + 1) * 2 ^ K := by rw [Fp.mag_succ, hst, hc, Nat.add_mul, Nat.one_mul]
 rw [hc] at h1 h2 hg
 have hp := Nat.two_pow_pos K
 have hlt : m < 9007199254740992 * 2 ^ K := by
  have : (c + 1) * 2 ^ K ≤ 9007199254740992 * 2 ^ K := Nat.mul_le_mul_right _ hc1
  rw [Nat.add_mul, Nat.one_mul] at this
  omega
 have hge : K ≠ 0 → 4503599627370496 * 2 ^ K ≤ m := fun h => Nat.le_trans (Nat.mul_le_mul_right _ (hc2 h)) h1
 have hmod : m % 2 ^ K = 0 → c * 2 ^ K = m := by
  intro h
  obtain ⟨d, hd⟩ : ∃ d, m = d * 2 ^ K := ⟨m / 2 ^ K, by rw [Nat.mul_comm]; have := Nat.div_add_mod m (2 ^ K); omega⟩
  rw [hd] at h1 h2 ⊢
  have a1 : c ≤ d := Nat.le_of_mul_le_mul_right h1 hp
  have a2 : d < c + 1 := by
   refine Nat.lt_of_mul_lt_mul_right (a := 2 ^ K) ?_
   rw [Nat.add_mul, Nat.one_mul]; exact h2
  rw [show d = c by omega]
 rw [hg]
 split
 ·rename_i hup
  refine ⟨K, c + 1, hm1, hlt, hc1, hge, ?_, ?_, ?_⟩
  ·rw [Nat.add_mul, Nat.one_mul]; omega
  ·rw [Nat.add_mul, Nat.one_mul]; omega
  ·intro h
   have := hmod h
   omega
 ·rename_i hup
  rw [Nat.add_zero]
  refine ⟨K, c, hc, hlt, Nat.le_of_lt hc1, hge, ?_, ?_, hmod⟩
  ·omega
  ·omega
theorem natAbs_mul_pow (q : Int) (K : Nat) : (q * 2 ^ K).natAbs = q.natAbs * 2 ^ K := by
 rw [Int.natAbs_mul, Int.natAbs_pow]; rfl
theorem cast_pow (K : Nat) : ((2 ^ K : Nat) : Int) = 2 ^ K := by simp
theorem rn_abs (z : Int) : (rn z).natAbs = Fp.mag Ieee.double (Fp.grid Ieee.double z.natAbs 0) := by unfold rn; split <;> omega
theorem rn_spec (z : Int) : ∃ (K : Nat) (q : Int), rn z = q * 2 ^ K ∧ z.natAbs < 9007199254740992 * 2 ^ K ∧ q.natAbs ≤ 9007199254740992 ∧ (K ≠ 0 → 4503599627370496 * 2 ^ K ≤ z.natAbs) ∧
 2 * (rn z - z).natAbs ≤ 2 ^ K ∧ (z.natAbs % 2 ^ K = 0 → rn z = z) := by
 obtain ⟨K, q, h1, h2, h3, h4, h5, h6, h7⟩ := rn_nat z.natAbs
 have hz : z.natAbs % 2 ^ K = 0 → rn z = z := by
  intro h
  have := h7 h
  unfold rn
  rw [h1, this]
  split <;> omega
 refine ⟨K, if z < 0 then -(q : Int) else q, ?_, h2, by split <;> omega, h4, ?_, hz⟩
 ·unfold rn
  rw [h1, Int.natCast_mul, cast_pow]
  split
  ·rw [Int.neg_mul]
  ·rfl
 ·unfold rn
  rw [h1]
  generalize q * 2 ^ K = Q at *
  generalize 2 ^ K = Z at *
  split <;> omega
theorem dvd_abs {z : Int} {K : Nat} {c : Int} (h : z = c * 2 ^ K) : z.natAbs % 2 ^ K = 0 := by
 rw [h, natAbs_mul_pow]; exact Nat.mul_mod_left _ _
theorem rn_few {z : Int} (h : RepZ z) : rn z = z := by
 obtain ⟨c, e, hz, hc⟩ := h
 obtain ⟨K, q, _, _, _, h4, _, h6⟩ := rn_spec z
 rcases Nat.lt_or_ge e K with h | h
 ·have h4 := h4 om
  obtain ⟨d, rfl⟩ : ∃ d, K = e + 1 + d := ⟨K - (e + 1), by omega⟩
  have ha : z.natAbs = c.natAbs * 2 ^ e := by rw [hz, natAbs_mul_pow]
  have hp := Nat.two_pow_pos e
  have hpd := Nat.two_pow_pos d
  have e1 : 2 ^ (e + 1 + d) = 2 ^ e * (2 * 2 ^ d) := by rw [Nat.pow_add, Nat.pow_succ, Nat.mul_assoc]
  rw [e1, ha] at h4
  have h5 : 4503599627370496 * (2 * 2 ^ d) ≤ c.natAbs := by
   refine Nat.le_of_mul_le_mul_right (c := 2 ^ e) ?_ hp
   rw [Nat.mul_assoc, Nat.mul_comm (2 * 2 ^ d)]; exact h4
  have hd : 2 ^ d = 1 := by omega
  refine h6 ?_
  rw [e1, ha, hd, Nat.mul_one]
  have : c.natAbs = 4503599627370496 * 2 := by omega
  rw [this, Nat.mul_assoc, Nat.mul_comm 2]; exact Nat.mul_mod_left _ _
 ·obtain ⟨d, rfl⟩ : ∃ d, e = K + d := ⟨e - K, by omega⟩
  refine h6 (dvd_abs (c := c * 2 ^ d) ?_)
  rw [hz, Int.pow_add, Int.mul_assoc, Int.mul_comm (2 ^ d)]
theorem rn_repz (z : Int) : RepZ (rn z) := by
 obtain ⟨K, q, h1, _, h3, _⟩ := rn_spec z
 exact ⟨q, K, h1, h3⟩
theorem RepZ.neg {z : Int} (h : RepZ z) : RepZ (-z) := by
 obtain ⟨c, e, h, hc⟩ := h
 exact ⟨-c, e, by rw [h, Int.neg_mul], by rw [Int.natAbs_neg]; exact hc⟩
theorem rn_nearest {z y : Int} (h : RepZ y) : (rn z - z).natAbs ≤ (y - z).natAbs := by
 obtain ⟨c, e, hy, hc⟩ := h
 obtain ⟨K, q, h1, h2, h3, h4, h5, h6⟩ := rn_spec z
 have near : ∀ d : Int, (rn z - z).natAbs ≤ (d * 2 ^ K - z).natAbs := by
  intro d
  by_cases hd : d = q
  ·rw [h1, hd]; exact Nat.le_refl _
  ·have e1 : (d * 2 ^ K - rn z).natAbs = (d - q).natAbs * 2 ^ K := by rw [h1, ← Int.sub_mul, natAbs_mul_pow]
   have e2 : 1 * 2 ^ K ≤ (d - q).natAbs * 2 ^ K := Nat.mul_le_mul_right _ om
   rw [← e1, Nat.one_mul] at e2
   generalize d * 2 ^ K = D at *
   generalize 2 ^ K = Z at *
   omega
 rcases Nat.lt_or_ge e K with hlt | hge
 ·have h4 := h4 om
  have hp := Nat.two_pow_pos e
  have hab : y.natAbs ≤ 4503599627370496 * 2 ^ K := by
   rw [hy, natAbs_mul_pow]
   obtain ⟨d, rfl⟩ : ∃ d, K = e + 1 + d := ⟨K - (e + 1), by omega⟩
   have e1 : 2 ^ (e + 1 + d) = 2 * 2 ^ d * 2 ^ e := by rw [Nat.pow_add, Nat.pow_succ, Nat.mul_comm (2 ^ e) 2, Nat.mul_assoc, Nat.mul_assoc, Nat.mul_comm (2 ^ e)]
   rw [e1, ← Nat.mul_assoc]
   have := Nat.two_pow_pos d
   exact Nat.mul_le_mul_right _ om
  have n1 := near 4503599627370496
  have n2 := near (-4503599627370496)
  have e1 : (4503599627370496 : Int) * 2 ^ K = ((4503599627370496 * 2 ^ K : Nat) : Int) := by simp
  rw [Int.neg_mul] at n2
  rw [e1] at n1 n2
  generalize 4503599627370496 * 2 ^ K = T at *
  omega
 ·obtain ⟨d, rfl⟩ : ∃ d, e = K + d := ⟨e - K, by omega⟩
  have := near (c * 2 ^ d)
  rwa [show c * 2 ^ d * 2 ^ K = y by rw [hy, Int.pow_add, Int.mul_assoc, Int.mul_comm (2 ^ d)]] at this
theorem rn_mult {z c : Int} {i : Nat} (h : z = c * 2 ^ i) : ∃ d : Int, rn z = d * 2 ^ i := by
 obtain ⟨K, q, h1, _, _, _, _, h6⟩ := rn_spec z
 rcases Nat.lt_or_ge K i with hlt | hge
 ·obtain ⟨d, rfl⟩ : ∃ d, i = K + d := ⟨i - K, by omega⟩
  exact ⟨c, by rw [h6 (dvd_abs (c := c * 2 ^ d) (by rw [h, Int.pow_add, Int.mul_assoc, Int.mul_comm (2 ^ d)])), h]⟩
 ·obtain ⟨d, rfl⟩ : ∃ d, K = i + d := ⟨K - i, by omega⟩
  exact ⟨q * 2 ^ d, by rw [h1, Int.pow_add, Int.mul_assoc, Int.mul_comm (2 ^ d)]⟩
theorem repz_of {z d : Int} {i n : Nat} (h : z = d * 2 ^ i) (hz : z.natAbs ≤ n * 2 ^ i) (hn : n ≤ 9007199254740992) : RepZ z := by
 refine ⟨d, i, h, ?_⟩
 rw [h, natAbs_mul_pow] at hz
 exact Nat.le_trans (Nat.le_of_mul_le_mul_right hz (Nat.two_pow_pos i)) hn
theorem err_rep {A B : Int} (hA : RepZ A) (hB : RepZ B) : RepZ (rn (A + B) - (A + B)) := by
 have key : ∀ {A B : Int} {a b : Int} {i j : Nat}, A = a * 2 ^ i → a.natAbs ≤ 9007199254740992 → B = b * 2 ^ j → RepZ B → i ≤ j → RepZ (rn (A + B) - (A + B)) := by
  intro A B a b i j hA ha hB hRB hij
  obtain ⟨e, rfl⟩ : ∃ e, j = i + e := ⟨j - i, by omega⟩
  have hz : A + B = (a + b * 2 ^ e) * 2 ^ i := by rw [hA, hB, Int.add_mul, Int.pow_add, Int.mul_assoc, Int.mul_comm (2 ^ e)]
  obtain ⟨d, hd⟩ := rn_mult hz
  have hn := rn_nearest (z := A + B) hRB
  refine repz_of (d := d - (a + b * 2 ^ e)) (i := i) (n := a.natAbs) (by rw [hd, hz, Int.sub_mul]) ?_ ha
  refine Nat.le_trans hn ?_
  rw [← natAbs_mul_pow, ← hA]
  omega
 obtain ⟨a, i, hA1, ha⟩ := hA
 obtain ⟨b, j, hB1, hb⟩ := hB
 rcases Nat.le_total i j with h | h
 ·exact key hA1 ha hB1 ⟨b, j, hB1, hb⟩ h
 ·rw [Int.add_comm A B]
  exact key hB1 hb hA1 ⟨a, i, hA1, ha⟩ h
theorem canon_of {A : Int} (h : RepZ A) : ∃ (k : Nat) (a : Int), A = a * 2 ^ k ∧ a.natAbs < 9007199254740992 ∧ (k ≠ 0 → 4503599627370496 * 2 ^ k ≤ A.natAbs) := by
 obtain ⟨K, q, h1, h2, _, h4, _, _⟩ := rn_spec A
 rw [rn_few h] at h1
 refine ⟨K, q, h1, ?_, h4⟩
 rw [h1, natAbs_mul_pow] at h2
 exact Nat.lt_of_mul_lt_mul_right h2
theorem fr0 {x y Z W : Nat} (h1 : 4503599627370496 * W ≤ y) (h2 : 2 * Z ≤ W) (h3 : y ≤ x) (h4 : x < 9007199254740992 * Z) : False := by omega
theorem fr1 {x y z Z V W : Nat} (h1 : x < 9007199254740992 * Z) (h2 : y ≤ x) (h3 : z ≤ x + y) (h4 : 4503599627370496 * W ≤ z) (h5 : 2 * V ≤ W) (h6 : V = Z * 2) : False := by omega
theorem fr2 {r A B : Int} {Z : Nat} (h : 2 * (r - (A + B)).natAbs ≤ Z * 2) : (r - A).natAbs ≤ B.natAbs + 1 * Z := by omega
theorem fr3 {r A B : Int} (h : (r - (A + B)).natAbs ≤ (A - (A + B)).natAbs) : (r - A).natAbs ≤ B.natAbs * 2 := by omega
theorem fast_rep {A B : Int} (hA : RepZ A) (hB : RepZ B) (hAB : B.natAbs ≤ A.natAbs) : RepZ (rn (A + B) - A) := by
 obtain ⟨ka, a, hA1, ha, hka⟩ := canon_of hA
 obtain ⟨kb, b, hB1, hb, hkb⟩ := canon_of hB
 have hlA : A.natAbs < 9007199254740992 * 2 ^ ka := by rw [hA1, natAbs_mul_pow]; exact Nat.mul_lt_mul_of_pos_right ha (Nat.two_pow_pos _)
 have hlB : B.natAbs = b.natAbs * 2 ^ kb := by rw [hB1, natAbs_mul_pow]
 have pow_up : ∀ i j : Nat, i < j → 2 * 2 ^ i ≤ 2 ^ j := fun i j h => by rw [← Nat.pow_succ']; exact Nat.pow_le_pow_right dc h
 have hk : kb ≤ ka := by
  rcases Nat.lt_or_ge ka kb with h | h
  ·exact (fr0 (hkb (Nat.ne_of_gt (Nat.lt_of_le_of_lt (Nat.zero_le _) h))) (pow_up _ _ h) hAB hlA).elim
  ·exact h
 obtain ⟨d, rfl⟩ : ∃ d, ka = kb + d := ⟨ka - kb, by omega⟩
 have hz : A + B = (a * 2 ^ d + b) * 2 ^ kb := by rw [hA1, hB1, Int.add_mul, Int.pow_add, Int.mul_assoc, Int.mul_comm (2 ^ d)]
 obtain ⟨K, q, h1, h2, h3, h4, h5, h6⟩ := rn_spec (A + B)
 have hn := rn_nearest (z := A + B) hA
 rcases Nat.lt_or_ge kb K with hlt | hge
 ·have h2p := pow_up _ _ hlt
  rcases Nat.eq_zero_or_pos d with rfl | hd
  ·rw [Nat.add_zero] at hlA hA1
   have hK : K = kb + 1 := by
    rcases Nat.lt_or_ge (kb + 1) K with h | h
    ·exact (fr1 hlA hAB (Int.natAbs_add_le A B) (h4 (Nat.ne_of_gt (Nat.lt_of_le_of_lt (Nat.zero_le _) h))) (pow_up _ _ h) (Nat.pow_succ _ _)).elim
    ·exact Nat.le_antisymm h hlt
   subst hK
   obtain ⟨e, he⟩ := rn_mult hz
   refine repz_of (d := e - a) (i := kb) (n := b.natAbs + 1) (by rw [he, hA1, Int.sub_mul]) ?_ om
   rw [Nat.add_mul, ← hlB]
   rw [Nat.pow_succ] at h5
   exact fr2 h5
  ·obtain ⟨c, rfl⟩ : ∃ c, d = c + 1 := ⟨d - 1, by omega⟩
   obtain ⟨m, rfl⟩ : ∃ m, K = kb + 1 + m := ⟨K - (kb + 1), by omega⟩
   have hAk : A = a * 2 ^ c * 2 ^ (kb + 1) := by rw [hA1, Int.mul_assoc, ← Int.pow_add]; congr 2; omega
   have hSk : rn (A + B) = q * 2 ^ m * 2 ^ (kb + 1) := by rw [h1, Int.mul_assoc, ← Int.pow_add]; congr 2; omega
   refine repz_of (d := q * 2 ^ m - a * 2 ^ c) (i := kb + 1) (n := b.natAbs) (by rw [hSk, Int.sub_mul, ← hAk]) ?_ om
   rw [Nat.pow_succ, ← Nat.mul_assoc, ← hlB]
   exact fr3 hn
 ·have e : rn (A + B) = A + B := h6 (by
   obtain ⟨m, rfl⟩ : ∃ m, kb = K + m := ⟨kb - K, by omega⟩
   exact dvd_abs (c := (a * 2 ^ (m + d) + b * 2 ^ m)) (by
    rw [hz, Int.pow_add 2 K m, Int.mul_comm (2 ^ K), ← Int.mul_assoc, Int.add_mul, Int.pow_add 2 m d, Int.mul_assoc a, Int.mul_comm (2 ^ d)]))
  rw [e, show A + B - A = B by omega]
  exact hB
theorem zz66 {p : Prop} (h : p := by
 unfold sumL
 rw [e1, show sumS A B - (sumS A B - A) = A by omega, rn_few hA, Int.sub_self, rn_zero, Int.zero_add]
 have e2 : B - (sumS A B - A) = -(rn (A + B) - (A + B)) := by unfold sumS; omega
 rw [e2, rn_few (err_rep hA hB).neg, rn_few (err_rep hA hB).neg]
 unfold sumS; omega) : p := h
theorem two_fast {A B : Int} (hA : RepZ A) (hB : RepZ B) (hAB : B.natAbs ≤ A.natAbs) : sumL A B = A + B - sumS A B := by
 have e1 : sumT A B = sumS A B - A := rn_few (fast_rep hA hB hAB)
 exact zz66
theorem mult_le {z c : Int} {k K : Nat} (h : z = c * 2 ^ k) (hk : K ≤ k) : ∃ d : Int, z = d * 2 ^ K := by
 obtain ⟨m, rfl⟩ : ∃ m, k = K + m := ⟨k - K, by omega⟩
 exact ⟨c * 2 ^ m, by rw [h, Int.pow_add, Int.mul_assoc, Int.mul_comm (2 ^ m)]⟩
theorem mult_add {y z : Int} {K : Nat} (h : ∃ d : Int, y = d * 2 ^ K) (g : ∃ d : Int, z = d * 2 ^ K) : (∃ d : Int, y + z = d * 2 ^ K) ∧ ∃ d : Int, y - z = d * 2 ^ K := by
 obtain ⟨a, rfl⟩ := h
 obtain ⟨b, rfl⟩ := g
 exact ⟨⟨a + b, by rw [Int.add_mul]⟩, ⟨a - b, by rw [Int.sub_mul]⟩⟩
theorem rn_mult' {z : Int} {K : Nat} (h : ∃ d : Int, z = d * 2 ^ K) : ∃ d : Int, rn z = d * 2 ^ K := by
 obtain ⟨c, hc⟩ := h; exact rn_mult hc
theorem two_back {A B : Int} (hA : RepZ A) (hB : RepZ B) (e1 : sumT A B = sumS A B - A) : sumL A B = A + B - sumS A B := by
 exact zz66
theorem sl1 {a b z Z W V : Nat} (h1 : b < 9007199254740992 * Z) (h2 : a < b) (h3 : z ≤ a + b) (h4 : 4503599627370496 * W ≤ z) (h5 : 2 * V ≤ W) (h6 : V = Z * 2) : False := by omega
end Go.Proofs.YtgkcpnidmfejeaaGreatDoor
end
