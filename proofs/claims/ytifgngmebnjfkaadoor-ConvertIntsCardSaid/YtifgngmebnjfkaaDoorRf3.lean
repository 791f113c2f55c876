/- Package binnacleref02: cut, goesUp: walks. -/
import Derived.Test.YtifgngmebnjfkaaDoorRf2
import Derived.Test.YtifgngmebnjfkaaDoorBg11
import Derived.Test.YtifgngmebnjfkaaDoorBg13
namespace Go.Proofs.YtifgngmebnjfkaaDoor
open Go.RowKit

theorem IntB.drewN {w : World} {g : Nat} {v : Int} (h : IntB w g v) (n : Nat) : IntB (w.drewN n) g v := h.of ((Within.refl _).drewN _)
/-- how what is cut off stands to a half: -2 nothing, -1 less, 0 a half, 1 more -/
def cutC (M s : Nat) (more : Bool) : Int :=
  if M % 2 ^ s = 0 ∧ more = false then -2 else if cmpN (M % 2 ^ s) (2 ^ (s - 1)) = 0 ∧ more = true then 1 else cmpN (M % 2 ^ s) (2 ^ (s - 1))
/-- returned: a new number and how it was cut -/
def CutI (W : World) (q : Nat) (c : Int) (e : Ending) (w' : World) : Prop := ∃ g, e = .returned (.tuple #[.pointer (some ⟨g, 0, none⟩), .int .i64 c]) ∧ IntB w' g (q : Int) ∧ W.heap.size ≤ g ∧ Within W w'
theorem CutI_eq {W : World} {q : Nat} {c c' : Int} {e : Ending} {w' : World} (h : CutI W q c e w') (k : c = c') : CutI W q c' e w' := k ▸ h
theorem cmpI_nat (a b : Nat) : cmpI (a : Int) (b : Int) = cmpN a b := by
  unfold cmpI cmpN
  repeat' split
  all_goals omega
theorem dg_small {n k : Nat} (h : n < 2 ^ (32 * k)) : (dg n).length ≤ k := dg_len_le (by rw [show (4294967296 : Nat) = 2 ^ 32 from rfl, ← Nat.pow_mul]; exact h)
theorem dg_pow_le {s k : Nat} (h : s < 32 * k) : (dg (2 ^ s)).length ≤ k := dg_small (Nat.pow_lt_pow_right (by decide) h)

theorem alloc2_ty {w w' : World} {b : Bool} {v : Value} {o : Obj} {z : Nat} (h : ((w.alloc (.cells #[.bool b, v] 91)).alloc o).grownBy w' (some z)) (hz : w.heap.size ≠ z) : IntTy w' w.heap.size := by
  refine ⟨b, v, ?_⟩
  rw [h.block w.heap.size (by simp; omega) (fun e => hz (by injection e))]
  exact hp_alloc (hp_new _ _ _ rfl) _

set_option maxRecDepth 100000 in
set_option maxHeartbeats 600000 in
theorem Rcut_exact (g M s : Nat) (more : Bool) (hs1 : 1 ≤ s) (hs2 : s ≤ 60000) (hM : (dg M).length ≤ 1000) (hc : M % 2 ^ s = 0) (hm : more = false) (w : World) (hI : IntB w g (M : Int)) : Calls Tryd.prog 130 #[.pointer (some ⟨g, 0, none⟩), .int .i64 (s : Int), .bool more] w (CutI w (M / 2 ^ s) (-2)) := by
  have HI0 := Lib.hid hI; have hlg := hI.lt
  obtain ⟨q, hq⟩ : ∃ q, q = M / 2 ^ s := ⟨_, rfl⟩
  obtain ⟨r, hr⟩ : ∃ r, r = M % 2 ^ s := ⟨_, rfl⟩
  obtain ⟨hf, hh⟩ : ∃ hf, hf = 2 ^ (s - 1) := ⟨_, rfl⟩
  try rw [← hr] at hc
  try rw [← hh] at hc
  have HQ := Lib.hid hq; have HR := Lib.hid hr; have HH := Lib.hid hh
  have hqM : (q : Int) * 2 ^ s = ((q * 2 ^ s : Nat) : Int) := by simp
  have hsub : (M : Int) - ((q * 2 ^ s : Nat) : Int) = (r : Int) := by have := Nat.div_add_mod M (2 ^ s); rw [← hq, ← hr, Nat.mul_comm] at this; omega
  have LM : (dg M).length ≤ 1000 := hM
  have LQ : (dg q).length ≤ 1000 := by rw [hq]; exact Nat.le_trans (dg_len_mono (Nat.div_le_self _ _)) hM
  have LQ2 : (dg (q * 2 ^ s)).length ≤ 1000 := by rw [hq]; exact Nat.le_trans (dg_len_mono (Nat.div_mul_le_self _ _)) hM
  have LR : (dg r).length ≤ 1000 := by rw [hr]; exact Nat.le_trans (dg_len_mono (Nat.mod_le _ _)) hM
  have LH : (dg hf).length ≤ 2000 := by rw [hh]; exact dg_pow_le (by omega)
  have HS := Lib.hid hs1; have HL := Lib.hid (And.intro LM (And.intro LQ (And.intro LQ2 (And.intro LR LH))))
  have ds : ((s : Int) == 0) = false := beq_eq_false_iff_ne.2 (by omega)
  have gs : IntKind.u64.wrap (s : Int) = s := by rw [IntKind.wrap_u64]; omega
  have gs1 : IntKind.i64.wrap ((s : Int) - 1) = ((s - 1 : Nat) : Int) := by rw [IntKind.wrap_i64]; omega
  have gs2 : IntKind.u64.wrap ((s - 1 : Nat) : Int) = ((s - 1 : Nat) : Int) := by rw [IntKind.wrap_u64]; omega
  clear hq hr hh hs1 LM LQ LQ2 LR LH hM
  have hd : ((r : Int).sign == 0) = true := by rw [hc]; rfl
  subst hm
  have HC := Lib.hid hc; clear hc
  go_enter Tryd.func130, Tryd.ntmps130
  go_wp2_with fail
  refine (Brsh w.heap.size g s M (Nat.le_trans HL.out.1 (by decide)) (by omega) _ (by repeat (first | with_reducible assumption | with_reducible exact ty_new _ _ _ _ (by simp; done) | with_reducible refine ty_drew ?_ | with_reducible refine ty_alloc ?_ _)) (by repeat (first | with_reducible assumption | with_reducible exact ib_new _ _ (by simp; done) | with_reducible refine IntB.alloc ?_ _ | with_reducible refine IntB.drewN ?_ _))).mono ?_; rintro e1 w1 ⟨rfl, hI1, hG1⟩
  have hb1 : Within w w1 := Within.grown (by repeat (first | with_reducible exact Within.refl _ | with_reducible assumption | with_reducible refine Within.alloc ?_ _ | with_reducible refine Within.drew ?_ | with_reducible refine Within.drewN ?_ _ | with_reducible refine Within.setCell ?_ (by first | (simp; done) | (simp; omega)) _ | with_reducible refine Within.trans ?_ (by assumption))) hG1 (by simp)
  have hI := hI.of hb1
  clear hG1
  rw [← HQ.out] at hI1; have hl1 := hI1.lt
  go_wp2_with fail
  refine (Blsh (w1.heap.size + 1) w.heap.size s q (by rw [Int.natAbs_natCast]; exact Nat.le_trans HL.out.2.1 (by decide)) (by omega) _ (by repeat (first | with_reducible assumption | with_reducible exact ty_new _ _ _ _ (by simp; done) | with_reducible refine ty_drew ?_ | with_reducible refine ty_alloc ?_ _)) (by repeat (first | with_reducible assumption | with_reducible exact ib_new _ _ (by simp; done) | with_reducible refine IntB.alloc ?_ _ | with_reducible refine IntB.drewN ?_ _))).mono ?_; rintro e2 w2 ⟨rfl, hI2, hG2⟩
  have hb2 : Within w1 w2 := Within.grown (by repeat (first | with_reducible exact Within.refl _ | with_reducible assumption | with_reducible refine Within.alloc ?_ _ | with_reducible refine Within.drew ?_ | with_reducible refine Within.drewN ?_ _ | with_reducible refine Within.setCell ?_ (by first | (simp; done) | (simp; omega)) _ | with_reducible refine Within.trans ?_ (by assumption))) hG2 (by simp)
  have t2 := alloc2_ty hG2 (by simp)
  have hI := hI.of hb2; have hI1 := hI1.of hb2
  rw [hqM] at hI2
  clear hG2
  go_wp2_with fail
  refine (BSub w1.heap.size g (w1.heap.size + 1) M (q * 2 ^ s : Nat) (by rw [Int.natAbs_natCast]; exact Nat.le_trans HL.out.1 (by decide)) (by rw [Int.natAbs_natCast]; exact Nat.le_trans HL.out.2.2.1 (by decide)) w2 t2 hI hI2).mono ?_; rintro e3 w3 ⟨rfl, hI3, hG3⟩
  have hb3 : Within w1 w3 := Within.grown hb2 hG3 (Nat.le_refl _)
  have hlt1 := hI1.lt
  have hI1 := hI1.grown t2 (Nat.ne_of_lt hl1) hG3
  rw [hsub] at hI3
  clear hG3
  go_wp2_with fail
  refine (Bsign w1.heap.size r w3 hI3).mono ?_; rintro e4 w4 ⟨rfl, rfl⟩
  go_wp2
  go_ret2
  exact ⟨w.heap.size, rfl, (by rw [← HQ.out]; exact hI1), Nat.le_refl _, hb1.trans hb3⟩

set_option maxRecDepth 100000 in
set_option maxHeartbeats 600000 in
theorem Rcut_none (g M s : Nat) (more : Bool) (hs1 : 1 ≤ s) (hs2 : s ≤ 60000) (hM : (dg M).length ≤ 1000) (hc : M % 2 ^ s = 0 ∧ 0 < 2 ^ (s - 1)) (hm : more = true) (w : World) (hI : IntB w g (M : Int)) : Calls Tryd.prog 130 #[.pointer (some ⟨g, 0, none⟩), .int .i64 (s : Int), .bool more] w (CutI w (M / 2 ^ s) (-1)) := by
  have HI0 := Lib.hid hI; have hlg := hI.lt
  obtain ⟨q, hq⟩ : ∃ q, q = M / 2 ^ s := ⟨_, rfl⟩
  obtain ⟨r, hr⟩ : ∃ r, r = M % 2 ^ s := ⟨_, rfl⟩
  obtain ⟨hf, hh⟩ : ∃ hf, hf = 2 ^ (s - 1) := ⟨_, rfl⟩
  try rw [← hr] at hc
  try rw [← hh] at hc
  have HQ := Lib.hid hq; have HR := Lib.hid hr; have HH := Lib.hid hh
  have hqM : (q : Int) * 2 ^ s = ((q * 2 ^ s : Nat) : Int) := by simp
  have hsub : (M : Int) - ((q * 2 ^ s : Nat) : Int) = (r : Int) := by have := Nat.div_add_mod M (2 ^ s); rw [← hq, ← hr, Nat.mul_comm] at this; omega
  have LM : (dg M).length ≤ 1000 := hM
  have LQ : (dg q).length ≤ 1000 := by rw [hq]; exact Nat.le_trans (dg_len_mono (Nat.div_le_self _ _)) hM
  have LQ2 : (dg (q * 2 ^ s)).length ≤ 1000 := by rw [hq]; exact Nat.le_trans (dg_len_mono (Nat.div_mul_le_self _ _)) hM
  have LR : (dg r).length ≤ 1000 := by rw [hr]; exact Nat.le_trans (dg_len_mono (Nat.mod_le _ _)) hM
  have LH : (dg hf).length ≤ 2000 := by rw [hh]; exact dg_pow_le (by omega)
  have HS := Lib.hid hs1; have HL := Lib.hid (And.intro LM (And.intro LQ (And.intro LQ2 (And.intro LR LH))))
  have ds : ((s : Int) == 0) = false := beq_eq_false_iff_ne.2 (by omega)
  have gs : IntKind.u64.wrap (s : Int) = s := by rw [IntKind.wrap_u64]; omega
  have gs1 : IntKind.i64.wrap ((s : Int) - 1) = ((s - 1 : Nat) : Int) := by rw [IntKind.wrap_i64]; omega
  have gs2 : IntKind.u64.wrap ((s - 1 : Nat) : Int) = ((s - 1 : Nat) : Int) := by rw [IntKind.wrap_u64]; omega
  clear hq hr hh hs1 LM LQ LQ2 LR LH hM
  have hd : ((r : Int).sign == 0) = true := by rw [hc.1]; rfl
  have hcc : cmpI (r : Int) (hf : Int) = -1 := by rw [cmpI_nat, hc.1]; exact cmpN_lt hc.2
  subst hm
  have HC := Lib.hid hc; clear hc
  go_enter Tryd.func130, Tryd.ntmps130
  go_wp2_with fail
  refine (Brsh w.heap.size g s M (Nat.le_trans HL.out.1 (by decide)) (by omega) _ (by repeat (first | with_reducible assumption | with_reducible exact ty_new _ _ _ _ (by simp; done) | with_reducible refine ty_drew ?_ | with_reducible refine ty_alloc ?_ _)) (by repeat (first | with_reducible assumption | with_reducible exact ib_new _ _ (by simp; done) | with_reducible refine IntB.alloc ?_ _ | with_reducible refine IntB.drewN ?_ _))).mono ?_; rintro e1 w1 ⟨rfl, hI1, hG1⟩
  have hb1 : Within w w1 := Within.grown (by repeat (first | with_reducible exact Within.refl _ | with_reducible assumption | with_reducible refine Within.alloc ?_ _ | with_reducible refine Within.drew ?_ | with_reducible refine Within.drewN ?_ _ | with_reducible refine Within.setCell ?_ (by first | (simp; done) | (simp; omega)) _ | with_reducible refine Within.trans ?_ (by assumption))) hG1 (by simp)
  have hI := hI.of hb1
  clear hG1
  rw [← HQ.out] at hI1; have hl1 := hI1.lt
  go_wp2_with fail
  refine (Blsh (w1.heap.size + 1) w.heap.size s q (by rw [Int.natAbs_natCast]; exact Nat.le_trans HL.out.2.1 (by decide)) (by omega) _ (by repeat (first | with_reducible assumption | with_reducible exact ty_new _ _ _ _ (by simp; done) | with_reducible refine ty_drew ?_ | with_reducible refine ty_alloc ?_ _)) (by repeat (first | with_reducible assumption | with_reducible exact ib_new _ _ (by simp; done) | with_reducible refine IntB.alloc ?_ _ | with_reducible refine IntB.drewN ?_ _))).mono ?_; rintro e2 w2 ⟨rfl, hI2, hG2⟩
  have hb2 : Within w1 w2 := Within.grown (by repeat (first | with_reducible exact Within.refl _ | with_reducible assumption | with_reducible refine Within.alloc ?_ _ | with_reducible refine Within.drew ?_ | with_reducible refine Within.drewN ?_ _ | with_reducible refine Within.setCell ?_ (by first | (simp; done) | (simp; omega)) _ | with_reducible refine Within.trans ?_ (by assumption))) hG2 (by simp)
  have t2 := alloc2_ty hG2 (by simp)
  have hI := hI.of hb2; have hI1 := hI1.of hb2
  rw [hqM] at hI2
  clear hG2
  go_wp2_with fail
  refine (BSub w1.heap.size g (w1.heap.size + 1) M (q * 2 ^ s : Nat) (by rw [Int.natAbs_natCast]; exact Nat.le_trans HL.out.1 (by decide)) (by rw [Int.natAbs_natCast]; exact Nat.le_trans HL.out.2.2.1 (by decide)) w2 t2 hI hI2).mono ?_; rintro e3 w3 ⟨rfl, hI3, hG3⟩
  have hb3 : Within w1 w3 := Within.grown hb2 hG3 (Nat.le_refl _)
  have hlt1 := hI1.lt
  have hI1 := hI1.grown t2 (Nat.ne_of_lt hl1) hG3
  have hlt3 : w1.heap.size < w3.heap.size := hI3.lt
  rw [hsub] at hI3
  clear hG3
  go_wp2_with fail
  refine (Bsign w1.heap.size r w3 hI3).mono ?_; rintro e4 w4 ⟨rfl, rfl⟩
  go_wp2_with fail
  refine (BnewInt 1 (by decide) (by decide) _).mono ?_; rintro e5 w5 ⟨g5, rfl, hI5, hg5, hb5'⟩
  have hb5 : Within w3 w5 := ((Within.refl w3).alloc _).trans hb5'
  have t5 : IntTy w5 w3.heap.size := (ty_new w3 _ _ _ rfl).of hb5'
  have hI1 := hI1.of hb5; have hI3 := hI3.of hb5
  have hg5' : w3.heap.size < g5 := by simp at hg5; omega
  go_wp2_with fail
  refine (Blsh w3.heap.size g5 (s - 1) 1 (by decide +kernel) (by omega) w5 t5 hI5).mono ?_; rintro e6 w6 ⟨rfl, hI6, hG6⟩
  have hb6 : Within w3 w6 := Within.grown hb5 hG6 (Nat.le_refl _)
  have hl3 := hI3.lt
  have hne1 : w.heap.size ≠ w3.heap.size := by have := hb3.sizes; omega
  have hne3 : w1.heap.size ≠ w3.heap.size := Nat.ne_of_lt hlt3
  have hI1 := hI1.grown t5 hne1 hG6; have hI3 := hI3.grown t5 hne3 hG6
  rw [show (1 : Int) * 2 ^ (s - 1) = (hf : Int) by rw [HH.out]; simp] at hI6
  clear hG6
  go_wp2_with fail
  refine (Bcmp w1.heap.size w3.heap.size r hf (by rw [Int.natAbs_natCast]; exact Nat.le_trans HL.out.2.2.2.1 (by decide)) (by rw [Int.natAbs_natCast]; exact Nat.le_trans HL.out.2.2.2.2 (by decide)) w6 hI3 hI6).mono ?_; rintro e7 w7 ⟨rfl, hb7⟩
  have hI1 := hI1.of hb7
  go_wp2
  go_ret2
  exact ⟨w.heap.size, rfl, (by rw [← HQ.out]; exact hI1), Nat.le_refl _, (hb1.trans hb3).trans (hb6.trans hb7)⟩

set_option maxRecDepth 100000 in
set_option maxHeartbeats 600000 in
theorem Rcut_less (g M s : Nat) (more : Bool) (hs1 : 1 ≤ s) (hs2 : s ≤ 60000) (hM : (dg M).length ≤ 1000) (hc : M % 2 ^ s ≠ 0 ∧ M % 2 ^ s < 2 ^ (s - 1)) (w : World) (hI : IntB w g (M : Int)) : Calls Tryd.prog 130 #[.pointer (some ⟨g, 0, none⟩), .int .i64 (s : Int), .bool more] w (CutI w (M / 2 ^ s) (-1)) := by
  have HI0 := Lib.hid hI; have hlg := hI.lt
  obtain ⟨q, hq⟩ : ∃ q, q = M / 2 ^ s := ⟨_, rfl⟩
  obtain ⟨r, hr⟩ : ∃ r, r = M % 2 ^ s := ⟨_, rfl⟩
  obtain ⟨hf, hh⟩ : ∃ hf, hf = 2 ^ (s - 1) := ⟨_, rfl⟩
  try rw [← hr] at hc
  try rw [← hh] at hc
  have HQ := Lib.hid hq; have HR := Lib.hid hr; have HH := Lib.hid hh
  have hqM : (q : Int) * 2 ^ s = ((q * 2 ^ s : Nat) : Int) := by simp
  have hsub : (M : Int) - ((q * 2 ^ s : Nat) : Int) = (r : Int) := by have := Nat.div_add_mod M (2 ^ s); rw [← hq, ← hr, Nat.mul_comm] at this; omega
  have LM : (dg M).length ≤ 1000 := hM
  have LQ : (dg q).length ≤ 1000 := by rw [hq]; exact Nat.le_trans (dg_len_mono (Nat.div_le_self _ _)) hM
  have LQ2 : (dg (q * 2 ^ s)).length ≤ 1000 := by rw [hq]; exact Nat.le_trans (dg_len_mono (Nat.div_mul_le_self _ _)) hM
  have LR : (dg r).length ≤ 1000 := by rw [hr]; exact Nat.le_trans (dg_len_mono (Nat.mod_le _ _)) hM
  have LH : (dg hf).length ≤ 2000 := by rw [hh]; exact dg_pow_le (by omega)
  have HS := Lib.hid hs1; have HL := Lib.hid (And.intro LM (And.intro LQ (And.intro LQ2 (And.intro LR LH))))
  have ds : ((s : Int) == 0) = false := beq_eq_false_iff_ne.2 (by omega)
  have gs : IntKind.u64.wrap (s : Int) = s := by rw [IntKind.wrap_u64]; omega
  have gs1 : IntKind.i64.wrap ((s : Int) - 1) = ((s - 1 : Nat) : Int) := by rw [IntKind.wrap_i64]; omega
  have gs2 : IntKind.u64.wrap ((s - 1 : Nat) : Int) = ((s - 1 : Nat) : Int) := by rw [IntKind.wrap_u64]; omega
  clear hq hr hh hs1 LM LQ LQ2 LR LH hM
  have hd : ((r : Int).sign == 0) = false := beq_eq_false_iff_ne.2 (fun h => hc.1 (by have := Int.sign_eq_zero_iff_zero.1 h; omega))
  have hcc : cmpI (r : Int) (hf : Int) = -1 := by rw [cmpI_nat]; exact cmpN_lt hc.2
  have HC := Lib.hid hc; clear hc
  go_enter Tryd.func130, Tryd.ntmps130
  go_wp2_with fail
  refine (Brsh w.heap.size g s M (Nat.le_trans HL.out.1 (by decide)) (by omega) _ (by repeat (first | with_reducible assumption | with_reducible exact ty_new _ _ _ _ (by simp; done) | with_reducible refine ty_drew ?_ | with_reducible refine ty_alloc ?_ _)) (by repeat (first | with_reducible assumption | with_reducible exact ib_new _ _ (by simp; done) | with_reducible refine IntB.alloc ?_ _ | with_reducible refine IntB.drewN ?_ _))).mono ?_; rintro e1 w1 ⟨rfl, hI1, hG1⟩
  have hb1 : Within w w1 := Within.grown (by repeat (first | with_reducible exact Within.refl _ | with_reducible assumption | with_reducible refine Within.alloc ?_ _ | with_reducible refine Within.drew ?_ | with_reducible refine Within.drewN ?_ _ | with_reducible refine Within.setCell ?_ (by first | (simp; done) | (simp; omega)) _ | with_reducible refine Within.trans ?_ (by assumption))) hG1 (by simp)
  have hI := hI.of hb1
  clear hG1
  rw [← HQ.out] at hI1; have hl1 := hI1.lt
  go_wp2_with fail
  refine (Blsh (w1.heap.size + 1) w.heap.size s q (by rw [Int.natAbs_natCast]; exact Nat.le_trans HL.out.2.1 (by decide)) (by omega) _ (by repeat (first | with_reducible assumption | with_reducible exact ty_new _ _ _ _ (by simp; done) | with_reducible refine ty_drew ?_ | with_reducible refine ty_alloc ?_ _)) (by repeat (first | with_reducible assumption | with_reducible exact ib_new _ _ (by simp; done) | with_reducible refine IntB.alloc ?_ _ | with_reducible refine IntB.drewN ?_ _))).mono ?_; rintro e2 w2 ⟨rfl, hI2, hG2⟩
  have hb2 : Within w1 w2 := Within.grown (by repeat (first | with_reducible exact Within.refl _ | with_reducible assumption | with_reducible refine Within.alloc ?_ _ | with_reducible refine Within.drew ?_ | with_reducible refine Within.drewN ?_ _ | with_reducible refine Within.setCell ?_ (by first | (simp; done) | (simp; omega)) _ | with_reducible refine Within.trans ?_ (by assumption))) hG2 (by simp)
  have t2 := alloc2_ty hG2 (by simp)
  have hI := hI.of hb2; have hI1 := hI1.of hb2
  rw [hqM] at hI2
  clear hG2
  go_wp2_with fail
  refine (BSub w1.heap.size g (w1.heap.size + 1) M (q * 2 ^ s : Nat) (by rw [Int.natAbs_natCast]; exact Nat.le_trans HL.out.1 (by decide)) (by rw [Int.natAbs_natCast]; exact Nat.le_trans HL.out.2.2.1 (by decide)) w2 t2 hI hI2).mono ?_; rintro e3 w3 ⟨rfl, hI3, hG3⟩
  have hb3 : Within w1 w3 := Within.grown hb2 hG3 (Nat.le_refl _)
  have hlt1 := hI1.lt
  have hI1 := hI1.grown t2 (Nat.ne_of_lt hl1) hG3
  have hlt3 : w1.heap.size < w3.heap.size := hI3.lt
  rw [hsub] at hI3
  clear hG3
  go_wp2_with fail
  refine (Bsign w1.heap.size r w3 hI3).mono ?_; rintro e4 w4 ⟨rfl, rfl⟩
  go_wp2_with fail
  refine (BnewInt 1 (by decide) (by decide) _).mono ?_; rintro e5 w5 ⟨g5, rfl, hI5, hg5, hb5'⟩
  have hb5 : Within w3 w5 := ((Within.refl w3).alloc _).trans hb5'
  have t5 : IntTy w5 w3.heap.size := (ty_new w3 _ _ _ rfl).of hb5'
  have hI1 := hI1.of hb5; have hI3 := hI3.of hb5
  have hg5' : w3.heap.size < g5 := by simp at hg5; omega
  go_wp2_with fail
  refine (Blsh w3.heap.size g5 (s - 1) 1 (by decide +kernel) (by omega) w5 t5 hI5).mono ?_; rintro e6 w6 ⟨rfl, hI6, hG6⟩
  have hb6 : Within w3 w6 := Within.grown hb5 hG6 (Nat.le_refl _)
  have hl3 := hI3.lt
  have hne1 : w.heap.size ≠ w3.heap.size := by have := hb3.sizes; omega
  have hne3 : w1.heap.size ≠ w3.heap.size := Nat.ne_of_lt hlt3
  have hI1 := hI1.grown t5 hne1 hG6; have hI3 := hI3.grown t5 hne3 hG6
  rw [show (1 : Int) * 2 ^ (s - 1) = (hf : Int) by rw [HH.out]; simp] at hI6
  clear hG6
  go_wp2_with fail
  refine (Bcmp w1.heap.size w3.heap.size r hf (by rw [Int.natAbs_natCast]; exact Nat.le_trans HL.out.2.2.2.1 (by decide)) (by rw [Int.natAbs_natCast]; exact Nat.le_trans HL.out.2.2.2.2 (by decide)) w6 hI3 hI6).mono ?_; rintro e7 w7 ⟨rfl, hb7⟩
  have hI1 := hI1.of hb7
  go_wp2
  go_ret2
  exact ⟨w.heap.size, rfl, (by rw [← HQ.out]; exact hI1), Nat.le_refl _, (hb1.trans hb3).trans (hb6.trans hb7)⟩

set_option maxRecDepth 100000 in
set_option maxHeartbeats 600000 in
theorem Rcut_more (g M s : Nat) (more : Bool) (hs1 : 1 ≤ s) (hs2 : s ≤ 60000) (hM : (dg M).length ≤ 1000) (hc : M % 2 ^ s ≠ 0 ∧ 2 ^ (s - 1) < M % 2 ^ s) (w : World) (hI : IntB w g (M : Int)) : Calls Tryd.prog 130 #[.pointer (some ⟨g, 0, none⟩), .int .i64 (s : Int), .bool more] w (CutI w (M / 2 ^ s) 1) := by
  have HI0 := Lib.hid hI; have hlg := hI.lt
  obtain ⟨q, hq⟩ : ∃ q, q = M / 2 ^ s := ⟨_, rfl⟩
  obtain ⟨r, hr⟩ : ∃ r, r = M % 2 ^ s := ⟨_, rfl⟩
  obtain ⟨hf, hh⟩ : ∃ hf, hf = 2 ^ (s - 1) := ⟨_, rfl⟩
  try rw [← hr] at hc
  try rw [← hh] at hc
  have HQ := Lib.hid hq; have HR := Lib.hid hr; have HH := Lib.hid hh
  have hqM : (q : Int) * 2 ^ s = ((q * 2 ^ s : Nat) : Int) := by simp
  have hsub : (M : Int) - ((q * 2 ^ s : Nat) : Int) = (r : Int) := by have := Nat.div_add_mod M (2 ^ s); rw [← hq, ← hr, Nat.mul_comm] at this; omega
  have LM : (dg M).length ≤ 1000 := hM
  have LQ : (dg q).length ≤ 1000 := by rw [hq]; exact Nat.le_trans (dg_len_mono (Nat.div_le_self _ _)) hM
  have LQ2 : (dg (q * 2 ^ s)).length ≤ 1000 := by rw [hq]; exact Nat.le_trans (dg_len_mono (Nat.div_mul_le_self _ _)) hM
  have LR : (dg r).length ≤ 1000 := by rw [hr]; exact Nat.le_trans (dg_len_mono (Nat.mod_le _ _)) hM
  have LH : (dg hf).length ≤ 2000 := by rw [hh]; exact dg_pow_le (by omega)
  have HS := Lib.hid hs1; have HL := Lib.hid (And.intro LM (And.intro LQ (And.intro LQ2 (And.intro LR LH))))
  have ds : ((s : Int) == 0) = false := beq_eq_false_iff_ne.2 (by omega)
  have gs : IntKind.u64.wrap (s : Int) = s := by rw [IntKind.wrap_u64]; omega
  have gs1 : IntKind.i64.wrap ((s : Int) - 1) = ((s - 1 : Nat) : Int) := by rw [IntKind.wrap_i64]; omega
  have gs2 : IntKind.u64.wrap ((s - 1 : Nat) : Int) = ((s - 1 : Nat) : Int) := by rw [IntKind.wrap_u64]; omega
  clear hq hr hh hs1 LM LQ LQ2 LR LH hM
  have hd : ((r : Int).sign == 0) = false := beq_eq_false_iff_ne.2 (fun h => hc.1 (by have := Int.sign_eq_zero_iff_zero.1 h; omega))
  have hcc : cmpI (r : Int) (hf : Int) = 1 := by rw [cmpI_nat]; exact cmpN_gt hc.2
  have HC := Lib.hid hc; clear hc
  go_enter Tryd.func130, Tryd.ntmps130
  go_wp2_with fail
  refine (Brsh w.heap.size g s M (Nat.le_trans HL.out.1 (by decide)) (by omega) _ (by repeat (first | with_reducible assumption | with_reducible exact ty_new _ _ _ _ (by simp; done) | with_reducible refine ty_drew ?_ | with_reducible refine ty_alloc ?_ _)) (by repeat (first | with_reducible assumption | with_reducible exact ib_new _ _ (by simp; done) | with_reducible refine IntB.alloc ?_ _ | with_reducible refine IntB.drewN ?_ _))).mono ?_; rintro e1 w1 ⟨rfl, hI1, hG1⟩
  have hb1 : Within w w1 := Within.grown (by repeat (first | with_reducible exact Within.refl _ | with_reducible assumption | with_reducible refine Within.alloc ?_ _ | with_reducible refine Within.drew ?_ | with_reducible refine Within.drewN ?_ _ | with_reducible refine Within.setCell ?_ (by first | (simp; done) | (simp; omega)) _ | with_reducible refine Within.trans ?_ (by assumption))) hG1 (by simp)
  have hI := hI.of hb1
  clear hG1
  rw [← HQ.out] at hI1; have hl1 := hI1.lt
  go_wp2_with fail
  refine (Blsh (w1.heap.size + 1) w.heap.size s q (by rw [Int.natAbs_natCast]; exact Nat.le_trans HL.out.2.1 (by decide)) (by omega) _ (by repeat (first | with_reducible assumption | with_reducible exact ty_new _ _ _ _ (by simp; done) | with_reducible refine ty_drew ?_ | with_reducible refine ty_alloc ?_ _)) (by repeat (first | with_reducible assumption | with_reducible exact ib_new _ _ (by simp; done) | with_reducible refine IntB.alloc ?_ _ | with_reducible refine IntB.drewN ?_ _))).mono ?_; rintro e2 w2 ⟨rfl, hI2, hG2⟩
  have hb2 : Within w1 w2 := Within.grown (by repeat (first | with_reducible exact Within.refl _ | with_reducible assumption | with_reducible refine Within.alloc ?_ _ | with_reducible refine Within.drew ?_ | with_reducible refine Within.drewN ?_ _ | with_reducible refine Within.setCell ?_ (by first | (simp; done) | (simp; omega)) _ | with_reducible refine Within.trans ?_ (by assumption))) hG2 (by simp)
  have t2 := alloc2_ty hG2 (by simp)
  have hI := hI.of hb2; have hI1 := hI1.of hb2
  rw [hqM] at hI2
  clear hG2
  go_wp2_with fail
  refine (BSub w1.heap.size g (w1.heap.size + 1) M (q * 2 ^ s : Nat) (by rw [Int.natAbs_natCast]; exact Nat.le_trans HL.out.1 (by decide)) (by rw [Int.natAbs_natCast]; exact Nat.le_trans HL.out.2.2.1 (by decide)) w2 t2 hI hI2).mono ?_; rintro e3 w3 ⟨rfl, hI3, hG3⟩
  have hb3 : Within w1 w3 := Within.grown hb2 hG3 (Nat.le_refl _)
  have hlt1 := hI1.lt
  have hI1 := hI1.grown t2 (Nat.ne_of_lt hl1) hG3
  have hlt3 : w1.heap.size < w3.heap.size := hI3.lt
  rw [hsub] at hI3
  clear hG3
  go_wp2_with fail
  refine (Bsign w1.heap.size r w3 hI3).mono ?_; rintro e4 w4 ⟨rfl, rfl⟩
  go_wp2_with fail
  refine (BnewInt 1 (by decide) (by decide) _).mono ?_; rintro e5 w5 ⟨g5, rfl, hI5, hg5, hb5'⟩
  have hb5 : Within w3 w5 := ((Within.refl w3).alloc _).trans hb5'
  have t5 : IntTy w5 w3.heap.size := (ty_new w3 _ _ _ rfl).of hb5'
  have hI1 := hI1.of hb5; have hI3 := hI3.of hb5
  have hg5' : w3.heap.size < g5 := by simp at hg5; omega
  go_wp2_with fail
  refine (Blsh w3.heap.size g5 (s - 1) 1 (by decide +kernel) (by omega) w5 t5 hI5).mono ?_; rintro e6 w6 ⟨rfl, hI6, hG6⟩
  have hb6 : Within w3 w6 := Within.grown hb5 hG6 (Nat.le_refl _)
  have hl3 := hI3.lt
  have hne1 : w.heap.size ≠ w3.heap.size := by have := hb3.sizes; omega
  have hne3 : w1.heap.size ≠ w3.heap.size := Nat.ne_of_lt hlt3
  have hI1 := hI1.grown t5 hne1 hG6; have hI3 := hI3.grown t5 hne3 hG6
  rw [show (1 : Int) * 2 ^ (s - 1) = (hf : Int) by rw [HH.out]; simp] at hI6
  clear hG6
  go_wp2_with fail
  refine (Bcmp w1.heap.size w3.heap.size r hf (by rw [Int.natAbs_natCast]; exact Nat.le_trans HL.out.2.2.2.1 (by decide)) (by rw [Int.natAbs_natCast]; exact Nat.le_trans HL.out.2.2.2.2 (by decide)) w6 hI3 hI6).mono ?_; rintro e7 w7 ⟨rfl, hb7⟩
  have hI1 := hI1.of hb7
  go_wp2
  go_ret2
  exact ⟨w.heap.size, rfl, (by rw [← HQ.out]; exact hI1), Nat.le_refl _, (hb1.trans hb3).trans (hb6.trans hb7)⟩

set_option maxRecDepth 100000 in
set_option maxHeartbeats 600000 in
theorem Rcut_half0 (g M s : Nat) (more : Bool) (hs1 : 1 ≤ s) (hs2 : s ≤ 60000) (hM : (dg M).length ≤ 1000) (hc : M % 2 ^ s ≠ 0 ∧ M % 2 ^ s = 2 ^ (s - 1)) (hm : more = false) (w : World) (hI : IntB w g (M : Int)) : Calls Tryd.prog 130 #[.pointer (some ⟨g, 0, none⟩), .int .i64 (s : Int), .bool more] w (CutI w (M / 2 ^ s) 0) := by
  have HI0 := Lib.hid hI; have hlg := hI.lt
  obtain ⟨q, hq⟩ : ∃ q, q = M / 2 ^ s := ⟨_, rfl⟩
  obtain ⟨r, hr⟩ : ∃ r, r = M % 2 ^ s := ⟨_, rfl⟩
  obtain ⟨hf, hh⟩ : ∃ hf, hf = 2 ^ (s - 1) := ⟨_, rfl⟩
  try rw [← hr] at hc
  try rw [← hh] at hc
  have HQ := Lib.hid hq; have HR := Lib.hid hr; have HH := Lib.hid hh
  have hqM : (q : Int) * 2 ^ s = ((q * 2 ^ s : Nat) : Int) := by simp
  have hsub : (M : Int) - ((q * 2 ^ s : Nat) : Int) = (r : Int) := by have := Nat.div_add_mod M (2 ^ s); rw [← hq, ← hr, Nat.mul_comm] at this; omega
  have LM : (dg M).length ≤ 1000 := hM
  have LQ : (dg q).length ≤ 1000 := by rw [hq]; exact Nat.le_trans (dg_len_mono (Nat.div_le_self _ _)) hM
  have LQ2 : (dg (q * 2 ^ s)).length ≤ 1000 := by rw [hq]; exact Nat.le_trans (dg_len_mono (Nat.div_mul_le_self _ _)) hM
  have LR : (dg r).length ≤ 1000 := by rw [hr]; exact Nat.le_trans (dg_len_mono (Nat.mod_le _ _)) hM
  have LH : (dg hf).length ≤ 2000 := by rw [hh]; exact dg_pow_le (by omega)
  have HS := Lib.hid hs1; have HL := Lib.hid (And.intro LM (And.intro LQ (And.intro LQ2 (And.intro LR LH))))
  have ds : ((s : Int) == 0) = false := beq_eq_false_iff_ne.2 (by omega)
  have gs : IntKind.u64.wrap (s : Int) = s := by rw [IntKind.wrap_u64]; omega
  have gs1 : IntKind.i64.wrap ((s : Int) - 1) = ((s - 1 : Nat) : Int) := by rw [IntKind.wrap_i64]; omega
  have gs2 : IntKind.u64.wrap ((s - 1 : Nat) : Int) = ((s - 1 : Nat) : Int) := by rw [IntKind.wrap_u64]; omega
  clear hq hr hh hs1 LM LQ LQ2 LR LH hM
  have hd : ((r : Int).sign == 0) = false := beq_eq_false_iff_ne.2 (fun h => hc.1 (by have := Int.sign_eq_zero_iff_zero.1 h; omega))
  have hcc : cmpI (r : Int) (hf : Int) = 0 := by rw [cmpI_nat, hc.2]; exact cmpN_eq _
  subst hm
  have HC := Lib.hid hc; clear hc
  go_enter Tryd.func130, Tryd.ntmps130
  go_wp2_with fail
  refine (Brsh w.heap.size g s M (Nat.le_trans HL.out.1 (by decide)) (by omega) _ (by repeat (first | with_reducible assumption | with_reducible exact ty_new _ _ _ _ (by simp; done) | with_reducible refine ty_drew ?_ | with_reducible refine ty_alloc ?_ _)) (by repeat (first | with_reducible assumption | with_reducible exact ib_new _ _ (by simp; done) | with_reducible refine IntB.alloc ?_ _ | with_reducible refine IntB.drewN ?_ _))).mono ?_; rintro e1 w1 ⟨rfl, hI1, hG1⟩
  have hb1 : Within w w1 := Within.grown (by repeat (first | with_reducible exact Within.refl _ | with_reducible assumption | with_reducible refine Within.alloc ?_ _ | with_reducible refine Within.drew ?_ | with_reducible refine Within.drewN ?_ _ | with_reducible refine Within.setCell ?_ (by first | (simp; done) | (simp; omega)) _ | with_reducible refine Within.trans ?_ (by assumption))) hG1 (by simp)
  have hI := hI.of hb1
  clear hG1
  rw [← HQ.out] at hI1; have hl1 := hI1.lt
  go_wp2_with fail
  refine (Blsh (w1.heap.size + 1) w.heap.size s q (by rw [Int.natAbs_natCast]; exact Nat.le_trans HL.out.2.1 (by decide)) (by omega) _ (by repeat (first | with_reducible assumption | with_reducible exact ty_new _ _ _ _ (by simp; done) | with_reducible refine ty_drew ?_ | with_reducible refine ty_alloc ?_ _)) (by repeat (first | with_reducible assumption | with_reducible exact ib_new _ _ (by simp; done) | with_reducible refine IntB.alloc ?_ _ | with_reducible refine IntB.drewN ?_ _))).mono ?_; rintro e2 w2 ⟨rfl, hI2, hG2⟩
  have hb2 : Within w1 w2 := Within.grown (by repeat (first | with_reducible exact Within.refl _ | with_reducible assumption | with_reducible refine Within.alloc ?_ _ | with_reducible refine Within.drew ?_ | with_reducible refine Within.drewN ?_ _ | with_reducible refine Within.setCell ?_ (by first | (simp; done) | (simp; omega)) _ | with_reducible refine Within.trans ?_ (by assumption))) hG2 (by simp)
  have t2 := alloc2_ty hG2 (by simp)
  have hI := hI.of hb2; have hI1 := hI1.of hb2
  rw [hqM] at hI2
  clear hG2
  go_wp2_with fail
  refine (BSub w1.heap.size g (w1.heap.size + 1) M (q * 2 ^ s : Nat) (by rw [Int.natAbs_natCast]; exact Nat.le_trans HL.out.1 (by decide)) (by rw [Int.natAbs_natCast]; exact Nat.le_trans HL.out.2.2.1 (by decide)) w2 t2 hI hI2).mono ?_; rintro e3 w3 ⟨rfl, hI3, hG3⟩
  have hb3 : Within w1 w3 := Within.grown hb2 hG3 (Nat.le_refl _)
  have hlt1 := hI1.lt
  have hI1 := hI1.grown t2 (Nat.ne_of_lt hl1) hG3
  have hlt3 : w1.heap.size < w3.heap.size := hI3.lt
  rw [hsub] at hI3
  clear hG3
  go_wp2_with fail
  refine (Bsign w1.heap.size r w3 hI3).mono ?_; rintro e4 w4 ⟨rfl, rfl⟩
  go_wp2_with fail
  refine (BnewInt 1 (by decide) (by decide) _).mono ?_; rintro e5 w5 ⟨g5, rfl, hI5, hg5, hb5'⟩
  have hb5 : Within w3 w5 := ((Within.refl w3).alloc _).trans hb5'
  have t5 : IntTy w5 w3.heap.size := (ty_new w3 _ _ _ rfl).of hb5'
  have hI1 := hI1.of hb5; have hI3 := hI3.of hb5
  have hg5' : w3.heap.size < g5 := by simp at hg5; omega
  go_wp2_with fail
  refine (Blsh w3.heap.size g5 (s - 1) 1 (by decide +kernel) (by omega) w5 t5 hI5).mono ?_; rintro e6 w6 ⟨rfl, hI6, hG6⟩
  have hb6 : Within w3 w6 := Within.grown hb5 hG6 (Nat.le_refl _)
  have hl3 := hI3.lt
  have hne1 : w.heap.size ≠ w3.heap.size := by have := hb3.sizes; omega
  have hne3 : w1.heap.size ≠ w3.heap.size := Nat.ne_of_lt hlt3
  have hI1 := hI1.grown t5 hne1 hG6; have hI3 := hI3.grown t5 hne3 hG6
  rw [show (1 : Int) * 2 ^ (s - 1) = (hf : Int) by rw [HH.out]; simp] at hI6
  clear hG6
  go_wp2_with fail
  refine (Bcmp w1.heap.size w3.heap.size r hf (by rw [Int.natAbs_natCast]; exact Nat.le_trans HL.out.2.2.2.1 (by decide)) (by rw [Int.natAbs_natCast]; exact Nat.le_trans HL.out.2.2.2.2 (by decide)) w6 hI3 hI6).mono ?_; rintro e7 w7 ⟨rfl, hb7⟩
  have hI1 := hI1.of hb7
  go_wp2
  go_ret2
  exact ⟨w.heap.size, rfl, (by rw [← HQ.out]; exact hI1), Nat.le_refl _, (hb1.trans hb3).trans (hb6.trans hb7)⟩

set_option maxRecDepth 100000 in
set_option maxHeartbeats 600000 in
theorem Rcut_half1 (g M s : Nat) (more : Bool) (hs1 : 1 ≤ s) (hs2 : s ≤ 60000) (hM : (dg M).length ≤ 1000) (hc : M % 2 ^ s ≠ 0 ∧ M % 2 ^ s = 2 ^ (s - 1)) (hm : more = true) (w : World) (hI : IntB w g (M : Int)) : Calls Tryd.prog 130 #[.pointer (some ⟨g, 0, none⟩), .int .i64 (s : Int), .bool more] w (CutI w (M / 2 ^ s) 1) := by
  have HI0 := Lib.hid hI; have hlg := hI.lt
  obtain ⟨q, hq⟩ : ∃ q, q = M / 2 ^ s := ⟨_, rfl⟩
  obtain ⟨r, hr⟩ : ∃ r, r = M % 2 ^ s := ⟨_, rfl⟩
  obtain ⟨hf, hh⟩ : ∃ hf, hf = 2 ^ (s - 1) := ⟨_, rfl⟩
  try rw [← hr] at hc
  try rw [← hh] at hc
  have HQ := Lib.hid hq; have HR := Lib.hid hr; have HH := Lib.hid hh
  have hqM : (q : Int) * 2 ^ s = ((q * 2 ^ s : Nat) : Int) := by simp
  have hsub : (M : Int) - ((q * 2 ^ s : Nat) : Int) = (r : Int) := by have := Nat.div_add_mod M (2 ^ s); rw [← hq, ← hr, Nat.mul_comm] at this; omega
  have LM : (dg M).length ≤ 1000 := hM
  have LQ : (dg q).length ≤ 1000 := by rw [hq]; exact Nat.le_trans (dg_len_mono (Nat.div_le_self _ _)) hM
  have LQ2 : (dg (q * 2 ^ s)).length ≤ 1000 := by rw [hq]; exact Nat.le_trans (dg_len_mono (Nat.div_mul_le_self _ _)) hM
  have LR : (dg r).length ≤ 1000 := by rw [hr]; exact Nat.le_trans (dg_len_mono (Nat.mod_le _ _)) hM
  have LH : (dg hf).length ≤ 2000 := by rw [hh]; exact dg_pow_le (by omega)
  have HS := Lib.hid hs1; have HL := Lib.hid (And.intro LM (And.intro LQ (And.intro LQ2 (And.intro LR LH))))
  have ds : ((s : Int) == 0) = false := beq_eq_false_iff_ne.2 (by omega)
  have gs : IntKind.u64.wrap (s : Int) = s := by rw [IntKind.wrap_u64]; omega
  have gs1 : IntKind.i64.wrap ((s : Int) - 1) = ((s - 1 : Nat) : Int) := by rw [IntKind.wrap_i64]; omega
  have gs2 : IntKind.u64.wrap ((s - 1 : Nat) : Int) = ((s - 1 : Nat) : Int) := by rw [IntKind.wrap_u64]; omega
  clear hq hr hh hs1 LM LQ LQ2 LR LH hM
  have hd : ((r : Int).sign == 0) = false := beq_eq_false_iff_ne.2 (fun h => hc.1 (by have := Int.sign_eq_zero_iff_zero.1 h; omega))
  have hcc : cmpI (r : Int) (hf : Int) = 0 := by rw [cmpI_nat, hc.2]; exact cmpN_eq _
  subst hm
  have HC := Lib.hid hc; clear hc
  go_enter Tryd.func130, Tryd.ntmps130
  go_wp2_with fail
  refine (Brsh w.heap.size g s M (Nat.le_trans HL.out.1 (by decide)) (by omega) _ (by repeat (first | with_reducible assumption | with_reducible exact ty_new _ _ _ _ (by simp; done) | with_reducible refine ty_drew ?_ | with_reducible refine ty_alloc ?_ _)) (by repeat (first | with_reducible assumption | with_reducible exact ib_new _ _ (by simp; done) | with_reducible refine IntB.alloc ?_ _ | with_reducible refine IntB.drewN ?_ _))).mono ?_; rintro e1 w1 ⟨rfl, hI1, hG1⟩
  have hb1 : Within w w1 := Within.grown (by repeat (first | with_reducible exact Within.refl _ | with_reducible assumption | with_reducible refine Within.alloc ?_ _ | with_reducible refine Within.drew ?_ | with_reducible refine Within.drewN ?_ _ | with_reducible refine Within.setCell ?_ (by first | (simp; done) | (simp; omega)) _ | with_reducible refine Within.trans ?_ (by assumption))) hG1 (by simp)
  have hI := hI.of hb1
  clear hG1
  rw [← HQ.out] at hI1; have hl1 := hI1.lt
  go_wp2_with fail
  refine (Blsh (w1.heap.size + 1) w.heap.size s q (by rw [Int.natAbs_natCast]; exact Nat.le_trans HL.out.2.1 (by decide)) (by omega) _ (by repeat (first | with_reducible assumption | with_reducible exact ty_new _ _ _ _ (by simp; done) | with_reducible refine ty_drew ?_ | with_reducible refine ty_alloc ?_ _)) (by repeat (first | with_reducible assumption | with_reducible exact ib_new _ _ (by simp; done) | with_reducible refine IntB.alloc ?_ _ | with_reducible refine IntB.drewN ?_ _))).mono ?_; rintro e2 w2 ⟨rfl, hI2, hG2⟩
  have hb2 : Within w1 w2 := Within.grown (by repeat (first | with_reducible exact Within.refl _ | with_reducible assumption | with_reducible refine Within.alloc ?_ _ | with_reducible refine Within.drew ?_ | with_reducible refine Within.drewN ?_ _ | with_reducible refine Within.setCell ?_ (by first | (simp; done) | (simp; omega)) _ | with_reducible refine Within.trans ?_ (by assumption))) hG2 (by simp)
  have t2 := alloc2_ty hG2 (by simp)
  have hI := hI.of hb2; have hI1 := hI1.of hb2
  rw [hqM] at hI2
  clear hG2
  go_wp2_with fail
  refine (BSub w1.heap.size g (w1.heap.size + 1) M (q * 2 ^ s : Nat) (by rw [Int.natAbs_natCast]; exact Nat.le_trans HL.out.1 (by decide)) (by rw [Int.natAbs_natCast]; exact Nat.le_trans HL.out.2.2.1 (by decide)) w2 t2 hI hI2).mono ?_; rintro e3 w3 ⟨rfl, hI3, hG3⟩
  have hb3 : Within w1 w3 := Within.grown hb2 hG3 (Nat.le_refl _)
  have hlt1 := hI1.lt
  have hI1 := hI1.grown t2 (Nat.ne_of_lt hl1) hG3
  have hlt3 : w1.heap.size < w3.heap.size := hI3.lt
  rw [hsub] at hI3
  clear hG3
  go_wp2_with fail
  refine (Bsign w1.heap.size r w3 hI3).mono ?_; rintro e4 w4 ⟨rfl, rfl⟩
  go_wp2_with fail
  refine (BnewInt 1 (by decide) (by decide) _).mono ?_; rintro e5 w5 ⟨g5, rfl, hI5, hg5, hb5'⟩
  have hb5 : Within w3 w5 := ((Within.refl w3).alloc _).trans hb5'
  have t5 : IntTy w5 w3.heap.size := (ty_new w3 _ _ _ rfl).of hb5'
  have hI1 := hI1.of hb5; have hI3 := hI3.of hb5
  have hg5' : w3.heap.size < g5 := by simp at hg5; omega
  go_wp2_with fail
  refine (Blsh w3.heap.size g5 (s - 1) 1 (by decide +kernel) (by omega) w5 t5 hI5).mono ?_; rintro e6 w6 ⟨rfl, hI6, hG6⟩
  have hb6 : Within w3 w6 := Within.grown hb5 hG6 (Nat.le_refl _)
  have hl3 := hI3.lt
  have hne1 : w.heap.size ≠ w3.heap.size := by have := hb3.sizes; omega
  have hne3 : w1.heap.size ≠ w3.heap.size := Nat.ne_of_lt hlt3
  have hI1 := hI1.grown t5 hne1 hG6; have hI3 := hI3.grown t5 hne3 hG6
  rw [show (1 : Int) * 2 ^ (s - 1) = (hf : Int) by rw [HH.out]; simp] at hI6
  clear hG6
  go_wp2_with fail
  refine (Bcmp w1.heap.size w3.heap.size r hf (by rw [Int.natAbs_natCast]; exact Nat.le_trans HL.out.2.2.2.1 (by decide)) (by rw [Int.natAbs_natCast]; exact Nat.le_trans HL.out.2.2.2.2 (by decide)) w6 hI3 hI6).mono ?_; rintro e7 w7 ⟨rfl, hb7⟩
  have hI1 := hI1.of hb7
  go_wp2
  go_ret2
  exact ⟨w.heap.size, rfl, (by rw [← HQ.out]; exact hI1), Nat.le_refl _, (hb1.trans hb3).trans (hb6.trans hb7)⟩

theorem Rcut (g M s : Nat) (more : Bool) (hs1 : 1 ≤ s) (hs2 : s ≤ 60000) (hM : (dg M).length ≤ 1000) (w : World) (hI : IntB w g (M : Int)) : Calls Tryd.prog 130 #[.pointer (some ⟨g, 0, none⟩), .int .i64 (s : Int), .bool more] w (CutI w (M / 2 ^ s) (cutC M s more)) := by
  unfold cutC
  by_cases h0 : M % 2 ^ s = 0
  · cases more
    · rw [if_pos ⟨h0, rfl⟩]; exact Rcut_exact g M s false hs1 hs2 hM h0 rfl w hI
    · rw [if_neg (fun h => by simp at h), h0, cmpN_lt (Nat.two_pow_pos _), if_neg (fun h => by simp at h)]; exact Rcut_none g M s true hs1 hs2 hM ⟨h0, Nat.two_pow_pos _⟩ rfl w hI
  · rw [if_neg (fun h => h0 h.1)]
    rcases Nat.lt_trichotomy (M % 2 ^ s) (2 ^ (s - 1)) with h | h | h
    · rw [cmpN_lt h, if_neg (fun h => by simp at h)]; exact Rcut_less g M s more hs1 hs2 hM ⟨h0, h⟩ w hI
    · cases more
      · have := Rcut_half0 g M s false hs1 hs2 hM ⟨h0, h⟩ rfl w hI
        rw [h, cmpN_eq, if_neg (fun h => by simp at h)]; exact this
      · have := Rcut_half1 g M s true hs1 hs2 hM ⟨h0, h⟩ rfl w hI
        rw [h, cmpN_eq, if_pos ⟨rfl, rfl⟩]; exact this
    · rw [cmpN_gt h, if_neg (fun h => by simp at h)]; exact Rcut_more g M s more hs1 hs2 hM ⟨h0, h⟩ w hI

end Go.Proofs.YtifgngmebnjfkaaDoor
