/- Package binnacleref02: exact numbers: Of32, Of, Minus, Amount, side, signed: walks. -/
import Derived.Test.YtifgngmebnjfkaaDoorRtk
namespace Go.Proofs.YtifgngmebnjfkaaDoor
open Go.RowKit

set_option maxRecDepth 100000 in
set_option maxHeartbeats 600000 in
theorem Rminus (k E : Int) (b : Bool) (g : Nat) (w : World) : Calls Tryd.prog 20 #[.agg #[.int .i64 k, .bool b, .pointer (some ⟨g, 0, none⟩), .int .i64 E]] w (fun e w' => e = .returned (.agg #[.int .i64 k, .bool (!b), .pointer (some ⟨g, 0, none⟩), .int .i64 E]) ∧ Within w w') := by
  go_enter Tryd.func20, Tryd.ntmps20
  go_wp2
  refine bodyPost_ret (v := .agg #[.int .i64 k, .bool (!b), .pointer (some ⟨g, 0, none⟩), .int .i64 E]) (by simp [results, Tryd.results20, go_sem]) rfl ⟨rfl, ?_⟩
  exact (by repeat (first | with_reducible exact Within.refl _ | with_reducible assumption | with_reducible refine Within.alloc ?_ _ | with_reducible refine Within.drew ?_ | with_reducible refine Within.drewN ?_ _ | with_reducible refine Within.setCell ?_ (by first | (simp; done) | (simp; omega)) _ | with_reducible refine Within.trans ?_ (by assumption)))

set_option maxRecDepth 100000 in
set_option maxHeartbeats 600000 in
theorem Ramount (k E : Int) (b : Bool) (g : Nat) (w : World) : Calls Tryd.prog 14 #[.agg #[.int .i64 k, .bool b, .pointer (some ⟨g, 0, none⟩), .int .i64 E]] w (fun e w' => e = .returned (.agg #[.int .i64 k, .bool false, .pointer (some ⟨g, 0, none⟩), .int .i64 E]) ∧ Within w w') := by
  go_enter Tryd.func14, Tryd.ntmps14
  go_wp2
  refine bodyPost_ret (v := .agg #[.int .i64 k, .bool false, .pointer (some ⟨g, 0, none⟩), .int .i64 E]) (by simp [results, Tryd.results14, go_sem]) rfl ⟨rfl, ?_⟩
  exact (by repeat (first | with_reducible exact Within.refl _ | with_reducible assumption | with_reducible refine Within.alloc ?_ _ | with_reducible refine Within.drew ?_ | with_reducible refine Within.drewN ?_ _ | with_reducible refine Within.setCell ?_ (by first | (simp; done) | (simp; omega)) _ | with_reducible refine Within.trans ?_ (by assumption)))

set_option maxRecDepth 100000 in
set_option maxHeartbeats 600000 in
theorem ROf32 (x : Nat) (hx : x < 4294967296) (w : World) : Calls Tryd.prog 13 #[.int .u32 (x : Int)] w (fun e w' => ∃ g, e = .returned (.agg #[.int .i64 (kS x), .bool (nS x), .pointer (some ⟨g, 0, none⟩), .int .i64 (eS x)]) ∧ IntB w' g (mS x : Int) ∧ w.heap.size ≤ g ∧ Within w w') := by
  have TK := Lib.hid (fun w' => RtakeXS x hx w')
  have hwx : IntKind.u64.wrap (x : Int) = (x : Int) := IntWalk.u64_in _ ⟨by omega, by omega⟩
  clear hx
  go_enter Tryd.func13, Tryd.ntmps13
  go_wp2_with fail
  refine (RSingle _).mono ?_; rintro e1 w1 ⟨rfl, hb1⟩
  go_wp2_with fail
  refine (TK.out _).mono ?_; rintro e2 w2 ⟨g, rfl, hI2, hg2, hb2⟩
  have hX := Within.trans hb1 hb2
  have hgg : w.heap.size + 1 ≤ g := Nat.le_trans (Nat.le_trans (by simp) hb1.sizes) hg2
  have r0 : w2.cell? ⟨w.heap.size, 0, none⟩ = some (.int .i64 0) := (hX.cells _ _ (by simp)).trans (by go_simp)
  have r1 : w2.cell? ⟨w.heap.size, 1, none⟩ = some (.bool false) := (hX.cells _ _ (by simp)).trans (by go_simp)
  have r2 : w2.cell? ⟨w.heap.size, 2, none⟩ = some (.pointer none) := (hX.cells _ _ (by simp)).trans (by go_simp)
  have r3 : w2.cell? ⟨w.heap.size, 3, none⟩ = some (.int .i64 0) := (hX.cells _ _ (by simp)).trans (by go_simp)
  have rf : ∀ o, w2.frozen? ⟨w.heap.size, o, none⟩ = false := fun o => (hX.frozens _ _ (by simp)).trans (by go_simp)
  have hl1 : w.heap.size < w2.heap.size := World.block_lt_of_cell? w2 _ r0
  have tr : NumTy w2 w.heap.size := ⟨_, (hX.block _ (by simp)).trans (hp_new _ _ _ (by simp))⟩
  have hww := ((Within.refl w).alloc _).trans hX
  go_wp2
  refine bodyPost_ret (v := .agg #[.int .i64 (kS x), .bool (nS x), .pointer (some ⟨g, 0, none⟩), .int .i64 (eS x)]) (by simp [results, Tryd.results13, go_sem, r0, r1, r2, r3, hl1]) rfl ⟨g, rfl, ?_, by omega, ?_⟩
  · exact (by repeat (first | with_reducible assumption | with_reducible refine NumTy.set ?_ _ _ | with_reducible refine IntB.setNum ?_ (by show g ≠ w.heap.size; omega) ?_ _))
  · exact (by repeat (first | with_reducible exact Within.refl _ | with_reducible assumption | with_reducible refine Within.alloc ?_ _ | with_reducible refine Within.drew ?_ | with_reducible refine Within.drewN ?_ _ | with_reducible refine Within.setCell ?_ (by first | (simp; done) | (simp; omega)) _ | with_reducible refine Within.trans ?_ (by assumption)))

set_option maxRecDepth 100000 in
set_option maxHeartbeats 600000 in
theorem ROf (x : Nat) (hx : x < 18446744073709551616) (w : World) : Calls Tryd.prog 44 #[.int .u64 (x : Int)] w (fun e w' => ∃ g, e = .returned (.agg #[.int .i64 (kD x), .bool (nD x), .pointer (some ⟨g, 0, none⟩), .int .i64 (eD x)]) ∧ IntB w' g (mD x : Int) ∧ w.heap.size ≤ g ∧ Within w w') := by
  have TK := Lib.hid (fun w' => RtakeXD x hx w')
  have hwx : IntKind.u64.wrap (x : Int) = (x : Int) := IntWalk.u64_in _ ⟨by omega, by omega⟩
  clear hx
  go_enter Tryd.func44, Tryd.ntmps44
  go_wp2_with fail
  refine (RDouble _).mono ?_; rintro e1 w1 ⟨rfl, hb1⟩
  go_wp2_with fail
  refine (TK.out _).mono ?_; rintro e2 w2 ⟨g, rfl, hI2, hg2, hb2⟩
  have hX := Within.trans hb1 hb2
  have hgg : w.heap.size + 1 ≤ g := Nat.le_trans (Nat.le_trans (by simp) hb1.sizes) hg2
  have r0 : w2.cell? ⟨w.heap.size, 0, none⟩ = some (.int .i64 0) := (hX.cells _ _ (by simp)).trans (by go_simp)
  have r1 : w2.cell? ⟨w.heap.size, 1, none⟩ = some (.bool false) := (hX.cells _ _ (by simp)).trans (by go_simp)
  have r2 : w2.cell? ⟨w.heap.size, 2, none⟩ = some (.pointer none) := (hX.cells _ _ (by simp)).trans (by go_simp)
  have r3 : w2.cell? ⟨w.heap.size, 3, none⟩ = some (.int .i64 0) := (hX.cells _ _ (by simp)).trans (by go_simp)
  have rf : ∀ o, w2.frozen? ⟨w.heap.size, o, none⟩ = false := fun o => (hX.frozens _ _ (by simp)).trans (by go_simp)
  have hl1 : w.heap.size < w2.heap.size := World.block_lt_of_cell? w2 _ r0
  have tr : NumTy w2 w.heap.size := ⟨_, (hX.block _ (by simp)).trans (hp_new _ _ _ (by simp))⟩
  have hww := ((Within.refl w).alloc _).trans hX
  go_wp2
  refine bodyPost_ret (v := .agg #[.int .i64 (kD x), .bool (nD x), .pointer (some ⟨g, 0, none⟩), .int .i64 (eD x)]) (by simp [results, Tryd.results44, go_sem, r0, r1, r2, r3, hl1]) rfl ⟨g, rfl, ?_, by omega, ?_⟩
  · exact (by repeat (first | with_reducible assumption | with_reducible refine NumTy.set ?_ _ _ | with_reducible refine IntB.setNum ?_ (by show g ≠ w.heap.size; omega) ?_ _))
  · exact (by repeat (first | with_reducible exact Within.refl _ | with_reducible assumption | with_reducible refine Within.alloc ?_ _ | with_reducible refine Within.drew ?_ | with_reducible refine Within.drewN ?_ _ | with_reducible refine Within.setCell ?_ (by first | (simp; done) | (simp; omega)) _ | with_reducible refine Within.trans ?_ (by assumption)))

def sideN (k : Int) (b : Bool) : Int := if k = 1 then (if b then -1 else 1) else 0
set_option maxRecDepth 100000 in
set_option maxHeartbeats 600000 in
theorem Rside_no (k E : Int) (b : Bool) (g : Nat) (h : (k != 1) = true) (w : World) : Calls Tryd.prog 59 #[.agg #[.int .i64 k, .bool b, .pointer (some ⟨g, 0, none⟩), .int .i64 E]] w (fun e w' => e = .returned (.int .i64 0) ∧ Within w w') := by
  go_enter Tryd.func59, Tryd.ntmps59
  go_wp2
  go_ret
  exact ⟨rfl, (by repeat (first | with_reducible exact Within.refl _ | with_reducible assumption | with_reducible refine Within.alloc ?_ _ | with_reducible refine Within.drew ?_ | with_reducible refine Within.drewN ?_ _ | with_reducible refine Within.setCell ?_ (by first | (simp; done) | (simp; omega)) _ | with_reducible refine Within.trans ?_ (by assumption)))⟩

set_option maxRecDepth 100000 in
set_option maxHeartbeats 600000 in
theorem Rside_0 (E : Int) (g : Nat) (w : World) : Calls Tryd.prog 59 #[.agg #[.int .i64 1, .bool false, .pointer (some ⟨g, 0, none⟩), .int .i64 E]] w (fun e w' => e = .returned (.int .i64 (1)) ∧ Within w w') := by
  go_enter Tryd.func59, Tryd.ntmps59
  go_wp2
  go_ret
  exact ⟨rfl, (by repeat (first | with_reducible exact Within.refl _ | with_reducible assumption | with_reducible refine Within.alloc ?_ _ | with_reducible refine Within.drew ?_ | with_reducible refine Within.drewN ?_ _ | with_reducible refine Within.setCell ?_ (by first | (simp; done) | (simp; omega)) _ | with_reducible refine Within.trans ?_ (by assumption)))⟩

set_option maxRecDepth 100000 in
set_option maxHeartbeats 600000 in
theorem Rside_1 (E : Int) (g : Nat) (w : World) : Calls Tryd.prog 59 #[.agg #[.int .i64 1, .bool true, .pointer (some ⟨g, 0, none⟩), .int .i64 E]] w (fun e w' => e = .returned (.int .i64 (-1)) ∧ Within w w') := by
  go_enter Tryd.func59, Tryd.ntmps59
  go_wp2
  go_ret
  exact ⟨rfl, (by repeat (first | with_reducible exact Within.refl _ | with_reducible assumption | with_reducible refine Within.alloc ?_ _ | with_reducible refine Within.drew ?_ | with_reducible refine Within.drewN ?_ _ | with_reducible refine Within.setCell ?_ (by first | (simp; done) | (simp; omega)) _ | with_reducible refine Within.trans ?_ (by assumption)))⟩

set_option maxRecDepth 100000 in
set_option maxHeartbeats 600000 in
theorem Rside (k E : Int) (b : Bool) (g : Nat) (w : World) : Calls Tryd.prog 59 #[.agg #[.int .i64 k, .bool b, .pointer (some ⟨g, 0, none⟩), .int .i64 E]] w (fun e w' => e = .returned (.int .i64 (sideN k b)) ∧ Within w w') := by
  unfold sideN
  by_cases h : k = 1
  · subst h; rw [if_pos rfl]; cases b
    · exact Rside_0 E g w
    · exact Rside_1 E g w
  · rw [if_neg h]; exact Rside_no k E b g (bne_iff_ne.2 h) w

/-- a number of digits M, d places up, with its sign -/
def sgI (b : Bool) (M d : Nat) : Int := if b then -((M : Int) * 2 ^ d) else (M : Int) * 2 ^ d
theorem sgI_len {b : Bool} {M d : Nat} (hd : d ≤ 16000) (hM : (dg M).length ≤ 900) : (dg (sgI b M d).natAbs).length ≤ 1400 := by
  have h : (sgI b M d).natAbs = M * 2 ^ d := by
    have h2 : (M : Int) * 2 ^ d = ((M * 2 ^ d : Nat) : Int) := by simp
    unfold sgI
    rw [h2]
    split <;> omega
  rw [h]
  exact Nat.le_trans (dg_shl_le (k := 500) hM (by omega)) (by omega)
set_option maxRecDepth 100000 in
set_option maxHeartbeats 600000 in
theorem Rsigned_0 (k E e : Int) (g M d : Nat) (hd : E - e = (d : Int)) (hd2 : d ≤ 16000) (hM : (dg M).length ≤ 900) (w : World) (hI : IntB w g (M : Int)) : Calls Tryd.prog 60 #[.agg #[.int .i64 k, .bool false, .pointer (some ⟨g, 0, none⟩), .int .i64 E], .int .i64 e] w (fun en w' => ∃ h, en = .returned (.pointer (some ⟨h, 0, none⟩)) ∧ IntB w' h (((M : Int) * 2 ^ d)) ∧ w.heap.size ≤ h ∧ Within w w') := by
  have SH := Lib.hid (fun (z : Nat) (w' : World) (hz : IntTy w' z) (hx : IntB w' g (M : Int)) => Blsh z g d (M : Int) (Nat.le_trans hM (by decide)) (by omega) w' hz hx)
  obtain ⟨Q, hQ⟩ : ∃ Q : Nat, Q = M * 2 ^ d := ⟨_, rfl⟩
  have hQ2 : (M : Int) * 2 ^ d = (Q : Int) := by rw [hQ]; simp
  rw [hQ2] at SH
  rw [hQ2]
  have LQ := Lib.hid (show (dg Q).length ≤ 2000000 by rw [hQ]; exact Nat.le_trans (dg_shl_le (k := 500) hM (by omega)) (by omega))
  have hw : IntKind.i64.wrap (E - e) = E - e := by rw [hd]; exact IntWalk.i64_in _ ⟨by omega, by omega⟩
  have hwu : IntKind.u64.wrap (E - e) = (d : Int) := by rw [hd]; exact IntWalk.u64_in _ ⟨by omega, by omega⟩
  clear hQ hQ2 hd hd2 hM
  go_enter Tryd.func60, Tryd.ntmps60
  go_wp2_with fail
  refine (SH.out _ _ (by repeat (first | with_reducible assumption | with_reducible exact ty_new _ _ _ _ (by simp; done) | with_reducible refine ty_drew ?_ | with_reducible refine ty_alloc ?_ _)) (by repeat (first | with_reducible assumption | with_reducible exact ib_new _ _ (by simp; done) | with_reducible refine IntB.alloc ?_ _ | with_reducible refine IntB.drew ?_ | with_reducible refine IntB.drewN ?_ _))).mono ?_; rintro e1 w1 ⟨rfl, hI1, hG1⟩
  have hb1 : Within w w1 := Within.grown (by repeat (first | with_reducible exact Within.refl _ | with_reducible assumption | with_reducible refine Within.alloc ?_ _ | with_reducible refine Within.drew ?_ | with_reducible refine Within.drewN ?_ _ | with_reducible refine Within.setCell ?_ (by first | (simp; done) | (simp; omega)) _ | with_reducible refine Within.trans ?_ (by assumption))) hG1 (by simp)
  have hcl := grown_cells hG1
  clear hG1
  have c1 : w1.cell? ⟨w.heap.size, 1, none⟩ = some (.bool false) := (hcl _ 1 (by simp; omega) (by simp)).trans (by go_simp)
  have hJ := hI1
  go_wp2
  go_ret
  exact ⟨_, rfl, hJ, by simp, hb1⟩

set_option maxRecDepth 100000 in
set_option maxHeartbeats 600000 in
theorem Rsigned_1 (k E e : Int) (g M d : Nat) (hd : E - e = (d : Int)) (hd2 : d ≤ 16000) (hM : (dg M).length ≤ 900) (w : World) (hI : IntB w g (M : Int)) : Calls Tryd.prog 60 #[.agg #[.int .i64 k, .bool true, .pointer (some ⟨g, 0, none⟩), .int .i64 E], .int .i64 e] w (fun en w' => ∃ h, en = .returned (.pointer (some ⟨h, 0, none⟩)) ∧ IntB w' h (-((M : Int) * 2 ^ d)) ∧ w.heap.size ≤ h ∧ Within w w') := by
  have SH := Lib.hid (fun (z : Nat) (w' : World) (hz : IntTy w' z) (hx : IntB w' g (M : Int)) => Blsh z g d (M : Int) (Nat.le_trans hM (by decide)) (by omega) w' hz hx)
  obtain ⟨Q, hQ⟩ : ∃ Q : Nat, Q = M * 2 ^ d := ⟨_, rfl⟩
  have hQ2 : (M : Int) * 2 ^ d = (Q : Int) := by rw [hQ]; simp
  rw [hQ2] at SH
  rw [hQ2]
  have LQ := Lib.hid (show (dg Q).length ≤ 2000000 by rw [hQ]; exact Nat.le_trans (dg_shl_le (k := 500) hM (by omega)) (by omega))
  have hw : IntKind.i64.wrap (E - e) = E - e := by rw [hd]; exact IntWalk.i64_in _ ⟨by omega, by omega⟩
  have hwu : IntKind.u64.wrap (E - e) = (d : Int) := by rw [hd]; exact IntWalk.u64_in _ ⟨by omega, by omega⟩
  clear hQ hQ2 hd hd2 hM
  go_enter Tryd.func60, Tryd.ntmps60
  go_wp2_with fail
  refine (SH.out _ _ (by repeat (first | with_reducible assumption | with_reducible exact ty_new _ _ _ _ (by simp; done) | with_reducible refine ty_drew ?_ | with_reducible refine ty_alloc ?_ _)) (by repeat (first | with_reducible assumption | with_reducible exact ib_new _ _ (by simp; done) | with_reducible refine IntB.alloc ?_ _ | with_reducible refine IntB.drew ?_ | with_reducible refine IntB.drewN ?_ _))).mono ?_; rintro e1 w1 ⟨rfl, hI1, hG1⟩
  have hb1 : Within w w1 := Within.grown (by repeat (first | with_reducible exact Within.refl _ | with_reducible assumption | with_reducible refine Within.alloc ?_ _ | with_reducible refine Within.drew ?_ | with_reducible refine Within.drewN ?_ _ | with_reducible refine Within.setCell ?_ (by first | (simp; done) | (simp; omega)) _ | with_reducible refine Within.trans ?_ (by assumption))) hG1 (by simp)
  have hcl := grown_cells hG1
  clear hG1
  have hT1 := hI1.ty
  have c1 : w1.cell? ⟨w.heap.size, 1, none⟩ = some (.bool true) := (hcl _ 1 (by simp; omega) (by simp)).trans (by go_simp)
  go_wp2_with fail
  refine (Bneg _ _ (Q : Int) LQ.out _ hT1 hI1).mono ?_; rintro e2 w2 ⟨rfl, hI2, hG2⟩
  have hb2 : Within w w2 := Within.grown (by repeat (first | with_reducible exact Within.refl _ | with_reducible assumption | with_reducible refine Within.alloc ?_ _ | with_reducible refine Within.drew ?_ | with_reducible refine Within.drewN ?_ _ | with_reducible refine Within.setCell ?_ (by first | (simp; done) | (simp; omega)) _ | with_reducible refine Within.trans ?_ (by assumption))) hG2 (by simp)
  clear hG2
  have hJ := hI2
  go_wp2
  go_ret
  exact ⟨_, rfl, hJ, by simp, hb2⟩

set_option maxRecDepth 100000 in
set_option maxHeartbeats 600000 in
theorem Rsigned (k E e : Int) (b : Bool) (g M d : Nat) (hd : E - e = (d : Int)) (hd2 : d ≤ 16000) (hM : (dg M).length ≤ 900) (w : World) (hI : IntB w g (M : Int)) : Calls Tryd.prog 60 #[.agg #[.int .i64 k, .bool b, .pointer (some ⟨g, 0, none⟩), .int .i64 E], .int .i64 e] w (fun en w' => ∃ h, en = .returned (.pointer (some ⟨h, 0, none⟩)) ∧ IntB w' h (sgI b M d) ∧ w.heap.size ≤ h ∧ Within w w') := by
  unfold sgI
  cases b
  · exact Rsigned_0 k E e g M d hd hd2 hM w hI
  · exact Rsigned_1 k E e g M d hd hd2 hM w hI

set_option maxRecDepth 100000 in
set_option maxHeartbeats 600000 in
theorem Rcmp_inf1 (k1 k2 E1 E2 : Int) (b1 b2 : Bool) (g1 g2 : Nat) (h1 : (k1 == 1) = true) (w : World) : Calls Tryd.prog 15 #[.agg #[.int .i64 k1, .bool b1, .pointer (some ⟨g1, 0, none⟩), .int .i64 E1], .agg #[.int .i64 k2, .bool b2, .pointer (some ⟨g2, 0, none⟩), .int .i64 E2]] w (fun en w' => en = .returned (.int .i64 (sideN k1 b1 - sideN k2 b2)) ∧ Within w w') := by
  have S1 := Lib.hid (fun w' => Rside k1 E1 b1 g1 w')
  have S2 := Lib.hid (fun w' => Rside k2 E2 b2 g2 w')
  obtain ⟨s1, hs1⟩ : ∃ s1, s1 = sideN k1 b1 := ⟨_, rfl⟩
  obtain ⟨s2, hs2⟩ : ∃ s2, s2 = sideN k2 b2 := ⟨_, rfl⟩
  rw [← hs1] at S1; rw [← hs2] at S2; rw [← hs1, ← hs2]
  have hr : -3 ≤ s1 ∧ s1 ≤ 3 ∧ -3 ≤ s2 ∧ s2 ≤ 3 := by subst hs1 hs2; unfold sideN; refine ⟨?_, ?_, ?_, ?_⟩ <;> (split <;> (try split) <;> decide)
  have hws : IntKind.i64.wrap (s1 - s2) = s1 - s2 := IntWalk.i64_in _ ⟨by omega, by omega⟩
  clear hs1 hs2 hr
  go_enter Tryd.func15, Tryd.ntmps15
  go_upto_region 2 with fail
  refine wp_region_schG (fun W => W.cell? ⟨w.heap.size, 0, none⟩ = some (.int .i64 k1) ∧ W.cell? ⟨w.heap.size, 1, none⟩ = some (.bool b1) ∧ W.cell? ⟨w.heap.size, 2, none⟩ = some (.pointer (some ⟨g1, 0, none⟩)) ∧ W.cell? ⟨w.heap.size, 3, none⟩ = some (.int .i64 E1) ∧ W.cell? ⟨w.heap.size + 1, 0, none⟩ = some (.int .i64 k2) ∧ W.cell? ⟨w.heap.size + 1, 1, none⟩ = some (.bool b2) ∧ W.cell? ⟨w.heap.size + 1, 2, none⟩ = some (.pointer (some ⟨g2, 0, none⟩)) ∧ W.cell? ⟨w.heap.size + 1, 3, none⟩ = some (.int .i64 E2) ∧ Within ((w.alloc (.cells #[.int .i64 k1, .bool b1, .pointer (some ⟨g1, 0, none⟩), .int .i64 E1] 26)).alloc (.cells #[.int .i64 k2, .bool b2, .pointer (some ⟨g2, 0, none⟩), .int .i64 E2] 26)) W ∧ w.heap.size < W.heap.size ∧ w.heap.size + 1 < W.heap.size) 5 (.firm 0 (.firm 2 (.one 1 (.one 3 (.firm 4 (.one 5 .nil)))))) (by kernel_rfl) (by kernel_rfl) ⟨by go_simp, by go_simp, by go_simp, by go_simp, by go_simp, by go_simp, by go_simp, by go_simp, Within.refl _, by simp; omega, by simp⟩ ?_
  rintro w0 ⟨c0, c1, c2, c3, c4, c5, c6, c7, hw0, hs0, hs1⟩
  try simp only [Act.put, List.setIfInBounds_toArray, List.set_cons_zero, List.set_cons_succ]
  repeat
    apply sch_firm rfl rfl (by repeat (first | with_reducible exact Within.refl _ | with_reducible assumption | with_reducible refine Within.alloc ?_ _ | with_reducible refine Within.drew ?_ | with_reducible refine Within.drewN ?_ _ | with_reducible refine Within.setCell ?_ (by first | (simp; done) | (simp; omega)) _ | with_reducible refine Within.trans ?_ (by assumption)))
    · intro wq hq
      have hcq := hq.cells
      clear hq
      go_simp
      first | rfl | (trace_state; fail)
    try simp only [Act.put, List.setIfInBounds_toArray, List.set_cons_zero, List.set_cons_succ]
  refine sch_one rfl rfl (fun K hK => ?_)
  go_simp
  refine (S1.out _).mono ?_; rintro e4 w4 ⟨rfl, hb4⟩
  have hv4 : Within w0 w4 := (Within.refl w0).drew.trans hb4
  refine hK _ _ (fun _ => (by repeat (first | with_reducible exact Within.refl _ | with_reducible assumption | with_reducible refine Within.alloc ?_ _ | with_reducible refine Within.drew ?_ | with_reducible refine Within.drewN ?_ _ | with_reducible refine Within.setCell ?_ (by first | (simp; done) | (simp; omega)) _ | with_reducible refine Within.trans ?_ (by assumption)))) ?_
  clear hK K
  try simp only [Act.put, List.setIfInBounds_toArray, List.set_cons_zero, List.set_cons_succ]
  refine sch_one rfl rfl (fun K hK => ?_)
  go_simp
  refine (S2.out _).mono ?_; rintro e5 w5 ⟨rfl, hb5⟩
  have hv5 := hv4.trans hb5
  refine hK _ _ (fun _ => (by repeat (first | with_reducible exact Within.refl _ | with_reducible assumption | with_reducible refine Within.alloc ?_ _ | with_reducible refine Within.drew ?_ | with_reducible refine Within.drewN ?_ _ | with_reducible refine Within.setCell ?_ (by first | (simp; done) | (simp; omega)) _ | with_reducible refine Within.trans ?_ (by assumption)))) ?_
  clear hK K
  try simp only [Act.put, List.setIfInBounds_toArray, List.set_cons_zero, List.set_cons_succ]
  repeat
    apply sch_firm rfl rfl (by repeat (first | with_reducible exact Within.refl _ | with_reducible assumption | with_reducible refine Within.alloc ?_ _ | with_reducible refine Within.drew ?_ | with_reducible refine Within.drewN ?_ _ | with_reducible refine Within.setCell ?_ (by first | (simp; done) | (simp; omega)) _ | with_reducible refine Within.trans ?_ (by assumption)))
    · intro wq hq
      have hcq := hq.cells
      clear hq
      go_simp
      first | rfl | (trace_state; fail)
    try simp only [Act.put, List.setIfInBounds_toArray, List.set_cons_zero, List.set_cons_succ]
  refine sch_one rfl rfl (fun K hK => ?_)
  go_simp
  refine hK _ _ (fun h => absurd h (by decide)) ?_
  clear hK K
  try simp only [Act.put, List.setIfInBounds_toArray, List.set_cons_zero, List.set_cons_succ]
  refine sch_nil ?_
  go_wp2
  go_ret
  exact ⟨rfl, Within.trans (((Within.refl w).alloc _).alloc _) (hw0.trans hv5)⟩

set_option maxRecDepth 100000 in
set_option maxHeartbeats 600000 in
theorem Rcmp_inf0 (k1 k2 E1 E2 : Int) (b1 b2 : Bool) (g1 g2 : Nat) (h1 : (k1 == 1) = false) (h2 : (k2 == 1) = true) (w : World) : Calls Tryd.prog 15 #[.agg #[.int .i64 k1, .bool b1, .pointer (some ⟨g1, 0, none⟩), .int .i64 E1], .agg #[.int .i64 k2, .bool b2, .pointer (some ⟨g2, 0, none⟩), .int .i64 E2]] w (fun en w' => en = .returned (.int .i64 (sideN k1 b1 - sideN k2 b2)) ∧ Within w w') := by
  have S1 := Lib.hid (fun w' => Rside k1 E1 b1 g1 w')
  have S2 := Lib.hid (fun w' => Rside k2 E2 b2 g2 w')
  obtain ⟨s1, hs1⟩ : ∃ s1, s1 = sideN k1 b1 := ⟨_, rfl⟩
  obtain ⟨s2, hs2⟩ : ∃ s2, s2 = sideN k2 b2 := ⟨_, rfl⟩
  rw [← hs1] at S1; rw [← hs2] at S2; rw [← hs1, ← hs2]
  have hr : -3 ≤ s1 ∧ s1 ≤ 3 ∧ -3 ≤ s2 ∧ s2 ≤ 3 := by subst hs1 hs2; unfold sideN; refine ⟨?_, ?_, ?_, ?_⟩ <;> (split <;> (try split) <;> decide)
  have hws : IntKind.i64.wrap (s1 - s2) = s1 - s2 := IntWalk.i64_in _ ⟨by omega, by omega⟩
  clear hs1 hs2 hr
  go_enter Tryd.func15, Tryd.ntmps15
  go_upto_region 2 with fail
  refine wp_region_schG (fun W => W.cell? ⟨w.heap.size, 0, none⟩ = some (.int .i64 k1) ∧ W.cell? ⟨w.heap.size, 1, none⟩ = some (.bool b1) ∧ W.cell? ⟨w.heap.size, 2, none⟩ = some (.pointer (some ⟨g1, 0, none⟩)) ∧ W.cell? ⟨w.heap.size, 3, none⟩ = some (.int .i64 E1) ∧ W.cell? ⟨w.heap.size + 1, 0, none⟩ = some (.int .i64 k2) ∧ W.cell? ⟨w.heap.size + 1, 1, none⟩ = some (.bool b2) ∧ W.cell? ⟨w.heap.size + 1, 2, none⟩ = some (.pointer (some ⟨g2, 0, none⟩)) ∧ W.cell? ⟨w.heap.size + 1, 3, none⟩ = some (.int .i64 E2) ∧ Within ((w.alloc (.cells #[.int .i64 k1, .bool b1, .pointer (some ⟨g1, 0, none⟩), .int .i64 E1] 26)).alloc (.cells #[.int .i64 k2, .bool b2, .pointer (some ⟨g2, 0, none⟩), .int .i64 E2] 26)) W ∧ w.heap.size < W.heap.size ∧ w.heap.size + 1 < W.heap.size) 5 (.firm 0 (.firm 2 (.one 1 (.one 3 (.firm 4 (.one 5 .nil)))))) (by kernel_rfl) (by kernel_rfl) ⟨by go_simp, by go_simp, by go_simp, by go_simp, by go_simp, by go_simp, by go_simp, by go_simp, Within.refl _, by simp; omega, by simp⟩ ?_
  rintro w0 ⟨c0, c1, c2, c3, c4, c5, c6, c7, hw0, hs0, hs1⟩
  try simp only [Act.put, List.setIfInBounds_toArray, List.set_cons_zero, List.set_cons_succ]
  repeat
    apply sch_firm rfl rfl (by repeat (first | with_reducible exact Within.refl _ | with_reducible assumption | with_reducible refine Within.alloc ?_ _ | with_reducible refine Within.drew ?_ | with_reducible refine Within.drewN ?_ _ | with_reducible refine Within.setCell ?_ (by first | (simp; done) | (simp; omega)) _ | with_reducible refine Within.trans ?_ (by assumption)))
    · intro wq hq
      have hcq := hq.cells
      clear hq
      go_simp
      first | rfl | (trace_state; fail)
    try simp only [Act.put, List.setIfInBounds_toArray, List.set_cons_zero, List.set_cons_succ]
  refine sch_one rfl rfl (fun K hK => ?_)
  go_simp
  refine (S1.out _).mono ?_; rintro e4 w4 ⟨rfl, hb4⟩
  have hv4 : Within w0 w4 := (Within.refl w0).drew.trans hb4
  refine hK _ _ (fun _ => (by repeat (first | with_reducible exact Within.refl _ | with_reducible assumption | with_reducible refine Within.alloc ?_ _ | with_reducible refine Within.drew ?_ | with_reducible refine Within.drewN ?_ _ | with_reducible refine Within.setCell ?_ (by first | (simp; done) | (simp; omega)) _ | with_reducible refine Within.trans ?_ (by assumption)))) ?_
  clear hK K
  try simp only [Act.put, List.setIfInBounds_toArray, List.set_cons_zero, List.set_cons_succ]
  refine sch_one rfl rfl (fun K hK => ?_)
  go_simp
  refine (S2.out _).mono ?_; rintro e5 w5 ⟨rfl, hb5⟩
  have hv5 := hv4.trans hb5
  refine hK _ _ (fun _ => (by repeat (first | with_reducible exact Within.refl _ | with_reducible assumption | with_reducible refine Within.alloc ?_ _ | with_reducible refine Within.drew ?_ | with_reducible refine Within.drewN ?_ _ | with_reducible refine Within.setCell ?_ (by first | (simp; done) | (simp; omega)) _ | with_reducible refine Within.trans ?_ (by assumption)))) ?_
  clear hK K
  try simp only [Act.put, List.setIfInBounds_toArray, List.set_cons_zero, List.set_cons_succ]
  repeat
    apply sch_firm rfl rfl (by repeat (first | with_reducible exact Within.refl _ | with_reducible assumption | with_reducible refine Within.alloc ?_ _ | with_reducible refine Within.drew ?_ | with_reducible refine Within.drewN ?_ _ | with_reducible refine Within.setCell ?_ (by first | (simp; done) | (simp; omega)) _ | with_reducible refine Within.trans ?_ (by assumption)))
    · intro wq hq
      have hcq := hq.cells
      clear hq
      go_simp
      first | rfl | (trace_state; fail)
    try simp only [Act.put, List.setIfInBounds_toArray, List.set_cons_zero, List.set_cons_succ]
  refine sch_one rfl rfl (fun K hK => ?_)
  go_simp
  refine hK _ _ (fun h => absurd h (by decide)) ?_
  clear hK K
  try simp only [Act.put, List.setIfInBounds_toArray, List.set_cons_zero, List.set_cons_succ]
  refine sch_nil ?_
  go_wp2
  go_ret
  exact ⟨rfl, Within.trans (((Within.refl w).alloc _).alloc _) (hw0.trans hv5)⟩

set_option maxRecDepth 100000 in
set_option maxHeartbeats 600000 in
theorem Rcmp_fin (k1 k2 E1 E2 : Int) (b1 b2 : Bool) (g1 g2 : Nat) (e v1 v2 : Int) (M1 M2 : Nat) (he : min E1 E2 = e) (hl1 : (dg v1.natAbs).length ≤ 1400) (hl2 : (dg v2.natAbs).length ≤ 1400) (SG1 : Hid (∀ w, IntB w g1 (M1 : Int) → Calls Tryd.prog 60 #[.agg #[.int .i64 k1, .bool b1, .pointer (some ⟨g1, 0, none⟩), .int .i64 E1], .int .i64 e] w (fun en w' => ∃ h, en = .returned (.pointer (some ⟨h, 0, none⟩)) ∧ IntB w' h (v1) ∧ w.heap.size ≤ h ∧ Within w w'))) (SG2 : Hid (∀ w, IntB w g2 (M2 : Int) → Calls Tryd.prog 60 #[.agg #[.int .i64 k2, .bool b2, .pointer (some ⟨g2, 0, none⟩), .int .i64 E2], .int .i64 e] w (fun en w' => ∃ h, en = .returned (.pointer (some ⟨h, 0, none⟩)) ∧ IntB w' h (v2) ∧ w.heap.size ≤ h ∧ Within w w'))) (hk1 : (k1 == 1) = false) (hk2 : (k2 == 1) = false) (w : World) (hI1 : IntB w g1 (M1 : Int)) (hI2 : IntB w g2 (M2 : Int)) : Calls Tryd.prog 15 #[.agg #[.int .i64 k1, .bool b1, .pointer (some ⟨g1, 0, none⟩), .int .i64 E1], .agg #[.int .i64 k2, .bool b2, .pointer (some ⟨g2, 0, none⟩), .int .i64 E2]] w (fun en w' => en = .returned (.int .i64 (cmpI v1 v2)) ∧ Within w w') := by
  have HL1 := Lib.hid hl1; have HL2 := Lib.hid hl2; clear hl1 hl2
  go_enter Tryd.func15, Tryd.ntmps15
  go_upto_region 4 with fail
  refine wp_region_schG (fun W => W.cell? ⟨w.heap.size, 0, none⟩ = some (.int .i64 k1) ∧ W.cell? ⟨w.heap.size, 1, none⟩ = some (.bool b1) ∧ W.cell? ⟨w.heap.size, 2, none⟩ = some (.pointer (some ⟨g1, 0, none⟩)) ∧ W.cell? ⟨w.heap.size, 3, none⟩ = some (.int .i64 E1) ∧ W.cell? ⟨w.heap.size + 1, 0, none⟩ = some (.int .i64 k2) ∧ W.cell? ⟨w.heap.size + 1, 1, none⟩ = some (.bool b2) ∧ W.cell? ⟨w.heap.size + 1, 2, none⟩ = some (.pointer (some ⟨g2, 0, none⟩)) ∧ W.cell? ⟨w.heap.size + 1, 3, none⟩ = some (.int .i64 E2) ∧ IntB W g1 (M1 : Int) ∧ IntB W g2 (M2 : Int) ∧ Within ((w.alloc (.cells #[.int .i64 k1, .bool b1, .pointer (some ⟨g1, 0, none⟩), .int .i64 E1] 26)).alloc (.cells #[.int .i64 k2, .bool b2, .pointer (some ⟨g2, 0, none⟩), .int .i64 E2] 26)) W ∧ w.heap.size < W.heap.size ∧ w.heap.size + 1 < W.heap.size) 7 (.firm 0 (.firm 1 (.firm 3 (.firm 4 (.one 2 (.one 5 (.one 6 (.one 7 .nil)))))))) (by kernel_rfl) (by kernel_rfl) ⟨by go_simp, by go_simp, by go_simp, by go_simp, by go_simp, by go_simp, by go_simp, by go_simp, (by repeat (first | with_reducible assumption | with_reducible exact ib_new _ _ (by simp; done) | with_reducible refine IntB.alloc ?_ _ | with_reducible refine IntB.drew ?_ | with_reducible refine IntB.drewN ?_ _)), (by repeat (first | with_reducible assumption | with_reducible exact ib_new _ _ (by simp; done) | with_reducible refine IntB.alloc ?_ _ | with_reducible refine IntB.drew ?_ | with_reducible refine IntB.drewN ?_ _)), Within.refl _, by simp; omega, by simp⟩ ?_
  rintro w0 ⟨c0, c1, c2, c3, c4, c5, c6, c7, hJ1, hJ2, hw0, hs0, hs1⟩
  try simp only [Act.put, List.setIfInBounds_toArray, List.set_cons_zero, List.set_cons_succ]
  repeat
    apply sch_firm rfl rfl (by repeat (first | with_reducible exact Within.refl _ | with_reducible assumption | with_reducible refine Within.alloc ?_ _ | with_reducible refine Within.drew ?_ | with_reducible refine Within.drewN ?_ _ | with_reducible refine Within.setCell ?_ (by first | (simp; done) | (simp; omega)) _ | with_reducible refine Within.trans ?_ (by assumption)))
    · intro wq hq
      have hcq := hq.cells
      clear hq
      go_simp
      first | rfl | (trace_state; fail)
    try simp only [Act.put, List.setIfInBounds_toArray, List.set_cons_zero, List.set_cons_succ]
  refine sch_one rfl rfl (fun K hK => ?_)
  go_simp
  refine (SG1.out _ (by repeat (first | with_reducible assumption | with_reducible exact ib_new _ _ (by simp; done) | with_reducible refine IntB.alloc ?_ _ | with_reducible refine IntB.drew ?_ | with_reducible refine IntB.drewN ?_ _))).mono ?_; rintro e4 w4 ⟨h1, rfl, hA1, hg1, hb4⟩
  have hv4 : Within w0 w4 := (Within.refl w0).drew.trans hb4
  refine hK _ _ (fun _ => (by repeat (first | with_reducible exact Within.refl _ | with_reducible assumption | with_reducible refine Within.alloc ?_ _ | with_reducible refine Within.drew ?_ | with_reducible refine Within.drewN ?_ _ | with_reducible refine Within.setCell ?_ (by first | (simp; done) | (simp; omega)) _ | with_reducible refine Within.trans ?_ (by assumption)))) ?_
  clear hK K
  try simp only [Act.put, List.setIfInBounds_toArray, List.set_cons_zero, List.set_cons_succ]
  refine sch_one rfl rfl (fun K hK => ?_)
  go_simp
  refine (SG2.out _ (hJ2.of hv4)).mono ?_; rintro e5 w5 ⟨h2, rfl, hA2, hg2, hb5⟩
  have hA1' := hA1.of hb5
  have hv5 := hv4.trans hb5
  refine hK _ _ (fun _ => (by repeat (first | with_reducible exact Within.refl _ | with_reducible assumption | with_reducible refine Within.alloc ?_ _ | with_reducible refine Within.drew ?_ | with_reducible refine Within.drewN ?_ _ | with_reducible refine Within.setCell ?_ (by first | (simp; done) | (simp; omega)) _ | with_reducible refine Within.trans ?_ (by assumption)))) ?_
  clear hK K
  try simp only [Act.put, List.setIfInBounds_toArray, List.set_cons_zero, List.set_cons_succ]
  refine sch_one rfl rfl (fun K hK => ?_)
  go_simp
  refine (Bcmp h1 h2 v1 v2 (Nat.le_trans HL1.out (by decide)) (Nat.le_trans HL2.out (by decide)) _ hA1' hA2).mono ?_; rintro e6 w6 ⟨rfl, hb6⟩
  have hv6 := hv5.trans hb6
  refine hK _ _ (fun _ => (by repeat (first | with_reducible exact Within.refl _ | with_reducible assumption | with_reducible refine Within.alloc ?_ _ | with_reducible refine Within.drew ?_ | with_reducible refine Within.drewN ?_ _ | with_reducible refine Within.setCell ?_ (by first | (simp; done) | (simp; omega)) _ | with_reducible refine Within.trans ?_ (by assumption)))) ?_
  clear hK K
  try simp only [Act.put, List.setIfInBounds_toArray, List.set_cons_zero, List.set_cons_succ]
  refine sch_one rfl rfl (fun K hK => ?_)
  go_simp
  refine hK _ _ (fun h => absurd h (by decide)) ?_
  clear hK K
  try simp only [Act.put, List.setIfInBounds_toArray, List.set_cons_zero, List.set_cons_succ]
  refine sch_nil ?_
  go_wp2
  go_ret
  exact ⟨rfl, Within.trans (((Within.refl w).alloc _).alloc _) (hw0.trans hv6)⟩

set_option maxRecDepth 100000 in
set_option maxHeartbeats 600000 in
theorem Rsum_fin (k1 k2 E1 E2 : Int) (b1 b2 : Bool) (g1 g2 : Nat) (e v1 v2 : Int) (M1 M2 : Nat) (v : Int) (hv : v1 + v2 = v) (hlv : (dg v.natAbs).length ≤ 2000) (he : min E1 E2 = e) (hl1 : (dg v1.natAbs).length ≤ 1400) (hl2 : (dg v2.natAbs).length ≤ 1400) (SG1 : Hid (∀ w, IntB w g1 (M1 : Int) → Calls Tryd.prog 60 #[.agg #[.int .i64 k1, .bool b1, .pointer (some ⟨g1, 0, none⟩), .int .i64 E1], .int .i64 e] w (fun en w' => ∃ h, en = .returned (.pointer (some ⟨h, 0, none⟩)) ∧ IntB w' h (v1) ∧ w.heap.size ≤ h ∧ Within w w'))) (SG2 : Hid (∀ w, IntB w g2 (M2 : Int) → Calls Tryd.prog 60 #[.agg #[.int .i64 k2, .bool b2, .pointer (some ⟨g2, 0, none⟩), .int .i64 E2], .int .i64 e] w (fun en w' => ∃ h, en = .returned (.pointer (some ⟨h, 0, none⟩)) ∧ IntB w' h (v2) ∧ w.heap.size ≤ h ∧ Within w w'))) (w : World) (hI1 : IntB w g1 (M1 : Int)) (hI2 : IntB w g2 (M2 : Int)) : Calls Tryd.prog 16 #[.agg #[.int .i64 k1, .bool b1, .pointer (some ⟨g1, 0, none⟩), .int .i64 E1], .agg #[.int .i64 k2, .bool b2, .pointer (some ⟨g2, 0, none⟩), .int .i64 E2]] w (fun en w' => ∃ g, en = .returned (.agg #[.int .i64 0, .bool (decide (v < 0)), .pointer (some ⟨g, 0, none⟩), .int .i64 e]) ∧ IntB w' g (v.natAbs : Int) ∧ w.heap.size ≤ g ∧ Within w w') := by
  have HL1 := Lib.hid hl1; have HL2 := Lib.hid hl2; have HLV := Lib.hid hlv; have HV := Lib.hid hv; clear hl1 hl2 hlv hv
  go_enter Tryd.func16, Tryd.ntmps16
  go_upto_region 2 with fail
  go_cut [6] (fun s6 wx => PtrI (((w.alloc (.cells #[.int .i64 k1, .bool b1, .pointer (some ⟨g1, 0, none⟩), .int .i64 E1] 26)).alloc (.cells #[.int .i64 k2, .bool b2, .pointer (some ⟨g2, 0, none⟩), .int .i64 E2] 26)).alloc (.cells #[.int .i64 0, .bool false, .pointer none, .int .i64 0] 26)) v s6 wx ∧ Within (((w.alloc (.cells #[.int .i64 k1, .bool b1, .pointer (some ⟨g1, 0, none⟩), .int .i64 E1] 26)).alloc (.cells #[.int .i64 k2, .bool b2, .pointer (some ⟨g2, 0, none⟩), .int .i64 E2] 26)).alloc (.cells #[.int .i64 0, .bool false, .pointer none, .int .i64 0] 26)) wx)
  case first =>
    refine wp_region_schG (fun W => W.cell? ⟨w.heap.size, 0, none⟩ = some (.int .i64 k1) ∧ W.cell? ⟨w.heap.size, 1, none⟩ = some (.bool b1) ∧ W.cell? ⟨w.heap.size, 2, none⟩ = some (.pointer (some ⟨g1, 0, none⟩)) ∧ W.cell? ⟨w.heap.size, 3, none⟩ = some (.int .i64 E1) ∧ W.cell? ⟨w.heap.size + 1, 0, none⟩ = some (.int .i64 k2) ∧ W.cell? ⟨w.heap.size + 1, 1, none⟩ = some (.bool b2) ∧ W.cell? ⟨w.heap.size + 1, 2, none⟩ = some (.pointer (some ⟨g2, 0, none⟩)) ∧ W.cell? ⟨w.heap.size + 1, 3, none⟩ = some (.int .i64 E2) ∧ IntB W g1 (M1 : Int) ∧ IntB W g2 (M2 : Int) ∧ Within (((w.alloc (.cells #[.int .i64 k1, .bool b1, .pointer (some ⟨g1, 0, none⟩), .int .i64 E1] 26)).alloc (.cells #[.int .i64 k2, .bool b2, .pointer (some ⟨g2, 0, none⟩), .int .i64 E2] 26)).alloc (.cells #[.int .i64 0, .bool false, .pointer none, .int .i64 0] 26)) W ∧ w.heap.size < W.heap.size ∧ w.heap.size + 1 < W.heap.size) 8 (.firm 1 (.firm 2 (.firm 4 (.firm 5 (.two 0 (.one 3 (.one 6 (.one 7 (.one 8 .nil)))) 3 (.two 0 (.one 6 (.one 7 (.one 8 .nil))) 6 (.one 0 (.one 7 (.one 8 .nil))))))))) (by kernel_rfl) (by kernel_rfl) ⟨by go_simp, by go_simp, by go_simp, by go_simp, by go_simp, by go_simp, by go_simp, by go_simp, (by repeat (first | with_reducible assumption | with_reducible exact ib_new _ _ (by simp; done) | with_reducible refine IntB.alloc ?_ _ | with_reducible refine IntB.drew ?_ | with_reducible refine IntB.drewN ?_ _)), (by repeat (first | with_reducible assumption | with_reducible exact ib_new _ _ (by simp; done) | with_reducible refine IntB.alloc ?_ _ | with_reducible refine IntB.drew ?_ | with_reducible refine IntB.drewN ?_ _)), Within.refl _, by first | (simp; done) | (simp; omega), by first | (simp; done) | (simp; omega)⟩ ?_
    rintro w0 ⟨c0, c1, c2, c3, c4, c5, c6, c7, hJ1, hJ2, hw0, hs0, hs1⟩
    try simp only [Act.put, List.setIfInBounds_toArray, List.set_cons_zero, List.set_cons_succ]
    repeat
      apply sch_firm rfl rfl (by repeat (first | with_reducible exact Within.refl _ | with_reducible assumption | with_reducible refine Within.alloc ?_ _ | with_reducible refine Within.drew ?_ | with_reducible refine Within.drewN ?_ _ | with_reducible refine Within.setCell ?_ (by first | (simp; done) | (simp; omega)) _ | with_reducible refine Within.trans ?_ (by assumption)))
      · intro wq hq
        have hcq := hq.cells
        clear hq
        go_simp
        first | rfl | (trace_state; fail)
      try simp only [Act.put, List.setIfInBounds_toArray, List.set_cons_zero, List.set_cons_succ]
    refine sch_two rfl rfl rfl rfl (fun K hK => ?_) (fun K hK => ?_)
    · go_simp
      refine hK _ _ (by repeat (first | with_reducible exact Within.refl _ | with_reducible assumption | with_reducible refine Within.alloc ?_ _ | with_reducible refine Within.drew ?_ | with_reducible refine Within.drewN ?_ _ | with_reducible refine Within.setCell ?_ (by first | (simp; done) | (simp; omega)) _ | with_reducible refine Within.trans ?_ (by assumption))) ?_
      clear hK K
      try simp only [Act.put, List.setIfInBounds_toArray, List.set_cons_zero, List.set_cons_succ]
      refine sch_one rfl rfl (fun K hK => ?_)
      go_simp
      refine (SG1.out _ (by repeat (first | with_reducible assumption | with_reducible exact ib_new _ _ (by simp; done) | with_reducible refine IntB.alloc ?_ _ | with_reducible refine IntB.drew ?_ | with_reducible refine IntB.drewN ?_ _))).mono ?_; rintro e4 w4 ⟨h1, rfl, hA1, hg1, hb4⟩
      have hv4 : Within w0 w4 := Within.trans (by repeat (first | with_reducible exact Within.refl _ | with_reducible assumption | with_reducible refine Within.alloc ?_ _ | with_reducible refine Within.drew ?_ | with_reducible refine Within.drewN ?_ _ | with_reducible refine Within.setCell ?_ (by first | (simp; done) | (simp; omega)) _ | with_reducible refine Within.trans ?_ (by assumption))) hb4
      have hT4 : IntTy w4 w0.heap.size := IntTy.of (by repeat (first | with_reducible assumption | with_reducible exact ty_new _ _ _ _ (by simp; done) | with_reducible refine ty_drew ?_ | with_reducible refine ty_alloc ?_ _)) hb4
      refine hK _ _ (fun _ => (by repeat (first | with_reducible exact Within.refl _ | with_reducible assumption | with_reducible refine Within.alloc ?_ _ | with_reducible refine Within.drew ?_ | with_reducible refine Within.drewN ?_ _ | with_reducible refine Within.setCell ?_ (by first | (simp; done) | (simp; omega)) _ | with_reducible refine Within.trans ?_ (by assumption)))) ?_
      clear hK K
      try simp only [Act.put, List.setIfInBounds_toArray, List.set_cons_zero, List.set_cons_succ]
      refine sch_one rfl rfl (fun K hK => ?_)
      go_simp
      have hJ2' := hJ2.of hv4
      refine (SG2.out _ (by repeat (first | with_reducible assumption | with_reducible exact ib_new _ _ (by simp; done) | with_reducible refine IntB.alloc ?_ _ | with_reducible refine IntB.drew ?_ | with_reducible refine IntB.drewN ?_ _))).mono ?_; rintro e5 w5 ⟨h2, rfl, hA2, hg2, hb5⟩
      have hA1' : IntB w5 h1 v1 := IntB.of (by repeat (first | with_reducible assumption | with_reducible exact ib_new _ _ (by simp; done) | with_reducible refine IntB.alloc ?_ _ | with_reducible refine IntB.drew ?_ | with_reducible refine IntB.drewN ?_ _)) hb5
      have hv5 : Within w0 w5 := Within.trans (by repeat (first | with_reducible exact Within.refl _ | with_reducible assumption | with_reducible refine Within.alloc ?_ _ | with_reducible refine Within.drew ?_ | with_reducible refine Within.drewN ?_ _ | with_reducible refine Within.setCell ?_ (by first | (simp; done) | (simp; omega)) _ | with_reducible refine Within.trans ?_ (by assumption))) hb5
      have hT5 : IntTy w5 w0.heap.size := IntTy.of (by repeat (first | with_reducible assumption | with_reducible exact ty_new _ _ _ _ (by simp; done) | with_reducible refine ty_drew ?_ | with_reducible refine ty_alloc ?_ _)) hb5
      refine hK _ _ (fun _ => (by repeat (first | with_reducible exact Within.refl _ | with_reducible assumption | with_reducible refine Within.alloc ?_ _ | with_reducible refine Within.drew ?_ | with_reducible refine Within.drewN ?_ _ | with_reducible refine Within.setCell ?_ (by first | (simp; done) | (simp; omega)) _ | with_reducible refine Within.trans ?_ (by assumption)))) ?_
      clear hK K
      try simp only [Act.put, List.setIfInBounds_toArray, List.set_cons_zero, List.set_cons_succ]
      refine sch_one rfl rfl (fun K hK => ?_)
      go_simp
      refine (BAdd _ h1 h2 v1 v2 (Nat.le_trans HL1.out (by decide)) (Nat.le_trans HL2.out (by decide)) _ (by repeat (first | with_reducible assumption | with_reducible exact ty_new _ _ _ _ (by simp; done) | with_reducible refine ty_drew ?_ | with_reducible refine ty_alloc ?_ _)) (by repeat (first | with_reducible assumption | with_reducible exact ib_new _ _ (by simp; done) | with_reducible refine IntB.alloc ?_ _ | with_reducible refine IntB.drew ?_ | with_reducible refine IntB.drewN ?_ _)) (by repeat (first | with_reducible assumption | with_reducible exact ib_new _ _ (by simp; done) | with_reducible refine IntB.alloc ?_ _ | with_reducible refine IntB.drew ?_ | with_reducible refine IntB.drewN ?_ _))).mono ?_; rintro e6 w6 ⟨rfl, hA3, hG3⟩
      rw [HV.out] at hA3
      have hv3 : Within w0 w6 := Within.grown (by repeat (first | with_reducible exact Within.refl _ | with_reducible assumption | with_reducible refine Within.alloc ?_ _ | with_reducible refine Within.drew ?_ | with_reducible refine Within.drewN ?_ _ | with_reducible refine Within.setCell ?_ (by first | (simp; done) | (simp; omega)) _ | with_reducible refine Within.trans ?_ (by assumption))) hG3 (by first | (simp; done) | exact hv4.sizes | exact hv5.sizes)
      refine hK _ _ (fun _ => (by repeat (first | with_reducible exact Within.refl _ | with_reducible assumption | with_reducible refine Within.alloc ?_ _ | with_reducible refine Within.drew ?_ | with_reducible refine Within.drewN ?_ _ | with_reducible refine Within.setCell ?_ (by first | (simp; done) | (simp; omega)) _ | with_reducible refine Within.trans ?_ (by assumption)))) ?_
      clear hK K
      try simp only [Act.put, List.setIfInBounds_toArray, List.set_cons_zero, List.set_cons_succ]
      refine sch_one rfl rfl (fun K hK => ?_)
      go_simp
      refine hK _ _ (fun h => absurd h (by decide)) ?_
      clear hK K
      try simp only [Act.put, List.setIfInBounds_toArray, List.set_cons_zero, List.set_cons_succ]
      refine sch_nil ?_
      go_wp2_with fail
      go_meet
      exact ⟨⟨_, rfl, hA3, Nat.le_trans hw0.sizes (by first | (simp; done) | exact hv4.sizes | exact hv5.sizes)⟩, hw0.trans hv3⟩
    · go_simp
      refine (SG1.out _ (by repeat (first | with_reducible assumption | with_reducible exact ib_new _ _ (by simp; done) | with_reducible refine IntB.alloc ?_ _ | with_reducible refine IntB.drew ?_ | with_reducible refine IntB.drewN ?_ _))).mono ?_; rintro e4 w4 ⟨h1, rfl, hA1, hg1, hb4⟩
      have hv4 : Within w0 w4 := Within.trans (by repeat (first | with_reducible exact Within.refl _ | with_reducible assumption | with_reducible refine Within.alloc ?_ _ | with_reducible refine Within.drew ?_ | with_reducible refine Within.drewN ?_ _ | with_reducible refine Within.setCell ?_ (by first | (simp; done) | (simp; omega)) _ | with_reducible refine Within.trans ?_ (by assumption))) hb4
      refine hK _ _ (by repeat (first | with_reducible exact Within.refl _ | with_reducible assumption | with_reducible refine Within.alloc ?_ _ | with_reducible refine Within.drew ?_ | with_reducible refine Within.drewN ?_ _ | with_reducible refine Within.setCell ?_ (by first | (simp; done) | (simp; omega)) _ | with_reducible refine Within.trans ?_ (by assumption))) ?_
      clear hK K
      try simp only [Act.put, List.setIfInBounds_toArray, List.set_cons_zero, List.set_cons_succ]
      refine sch_two rfl rfl rfl rfl (fun K hK => ?_) (fun K hK => ?_)
      · go_simp
        refine hK _ _ (by repeat (first | with_reducible exact Within.refl _ | with_reducible assumption | with_reducible refine Within.alloc ?_ _ | with_reducible refine Within.drew ?_ | with_reducible refine Within.drewN ?_ _ | with_reducible refine Within.setCell ?_ (by first | (simp; done) | (simp; omega)) _ | with_reducible refine Within.trans ?_ (by assumption))) ?_
        clear hK K
        try simp only [Act.put, List.setIfInBounds_toArray, List.set_cons_zero, List.set_cons_succ]
        refine sch_one rfl rfl (fun K hK => ?_)
        go_simp
        have hJ2' := hJ2.of hv4
        refine (SG2.out _ (by repeat (first | with_reducible assumption | with_reducible exact ib_new _ _ (by simp; done) | with_reducible refine IntB.alloc ?_ _ | with_reducible refine IntB.drew ?_ | with_reducible refine IntB.drewN ?_ _))).mono ?_; rintro e5 w5 ⟨h2, rfl, hA2, hg2, hb5⟩
        have hA1' : IntB w5 h1 v1 := IntB.of (by repeat (first | with_reducible assumption | with_reducible exact ib_new _ _ (by simp; done) | with_reducible refine IntB.alloc ?_ _ | with_reducible refine IntB.drew ?_ | with_reducible refine IntB.drewN ?_ _)) hb5
        have hv5 : Within w0 w5 := Within.trans (by repeat (first | with_reducible exact Within.refl _ | with_reducible assumption | with_reducible refine Within.alloc ?_ _ | with_reducible refine Within.drew ?_ | with_reducible refine Within.drewN ?_ _ | with_reducible refine Within.setCell ?_ (by first | (simp; done) | (simp; omega)) _ | with_reducible refine Within.trans ?_ (by assumption))) hb5
        have hT5 : IntTy w5 w4.heap.size := IntTy.of (by repeat (first | with_reducible assumption | with_reducible exact ty_new _ _ _ _ (by simp; done) | with_reducible refine ty_drew ?_ | with_reducible refine ty_alloc ?_ _)) hb5
        refine hK _ _ (fun _ => (by repeat (first | with_reducible exact Within.refl _ | with_reducible assumption | with_reducible refine Within.alloc ?_ _ | with_reducible refine Within.drew ?_ | with_reducible refine Within.drewN ?_ _ | with_reducible refine Within.setCell ?_ (by first | (simp; done) | (simp; omega)) _ | with_reducible refine Within.trans ?_ (by assumption)))) ?_
        clear hK K
        try simp only [Act.put, List.setIfInBounds_toArray, List.set_cons_zero, List.set_cons_succ]
        refine sch_one rfl rfl (fun K hK => ?_)
        go_simp
        refine (BAdd _ h1 h2 v1 v2 (Nat.le_trans HL1.out (by decide)) (Nat.le_trans HL2.out (by decide)) _ (by repeat (first | with_reducible assumption | with_reducible exact ty_new _ _ _ _ (by simp; done) | with_reducible refine ty_drew ?_ | with_reducible refine ty_alloc ?_ _)) (by repeat (first | with_reducible assumption | with_reducible exact ib_new _ _ (by simp; done) | with_reducible refine IntB.alloc ?_ _ | with_reducible refine IntB.drew ?_ | with_reducible refine IntB.drewN ?_ _)) (by repeat (first | with_reducible assumption | with_reducible exact ib_new _ _ (by simp; done) | with_reducible refine IntB.alloc ?_ _ | with_reducible refine IntB.drew ?_ | with_reducible refine IntB.drewN ?_ _))).mono ?_; rintro e6 w6 ⟨rfl, hA3, hG3⟩
        rw [HV.out] at hA3
        have hv3 : Within w0 w6 := Within.grown (by repeat (first | with_reducible exact Within.refl _ | with_reducible assumption | with_reducible refine Within.alloc ?_ _ | with_reducible refine Within.drew ?_ | with_reducible refine Within.drewN ?_ _ | with_reducible refine Within.setCell ?_ (by first | (simp; done) | (simp; omega)) _ | with_reducible refine Within.trans ?_ (by assumption))) hG3 (by first | (simp; done) | exact hv4.sizes | exact hv5.sizes)
        refine hK _ _ (fun _ => (by repeat (first | with_reducible exact Within.refl _ | with_reducible assumption | with_reducible refine Within.alloc ?_ _ | with_reducible refine Within.drew ?_ | with_reducible refine Within.drewN ?_ _ | with_reducible refine Within.setCell ?_ (by first | (simp; done) | (simp; omega)) _ | with_reducible refine Within.trans ?_ (by assumption)))) ?_
        clear hK K
        try simp only [Act.put, List.setIfInBounds_toArray, List.set_cons_zero, List.set_cons_succ]
        refine sch_one rfl rfl (fun K hK => ?_)
        go_simp
        refine hK _ _ (fun h => absurd h (by decide)) ?_
        clear hK K
        try simp only [Act.put, List.setIfInBounds_toArray, List.set_cons_zero, List.set_cons_succ]
        refine sch_nil ?_
        go_wp2_with fail
        go_meet
        exact ⟨⟨_, rfl, hA3, Nat.le_trans hw0.sizes (by first | (simp; done) | exact hv4.sizes | exact hv5.sizes)⟩, hw0.trans hv3⟩
      · go_simp
        have hJ2' := hJ2.of hv4
        refine (SG2.out _ (by repeat (first | with_reducible assumption | with_reducible exact ib_new _ _ (by simp; done) | with_reducible refine IntB.alloc ?_ _ | with_reducible refine IntB.drew ?_ | with_reducible refine IntB.drewN ?_ _))).mono ?_; rintro e5 w5 ⟨h2, rfl, hA2, hg2, hb5⟩
        have hA1' : IntB w5 h1 v1 := IntB.of (by repeat (first | with_reducible assumption | with_reducible exact ib_new _ _ (by simp; done) | with_reducible refine IntB.alloc ?_ _ | with_reducible refine IntB.drew ?_ | with_reducible refine IntB.drewN ?_ _)) hb5
        have hv5 : Within w0 w5 := Within.trans (by repeat (first | with_reducible exact Within.refl _ | with_reducible assumption | with_reducible refine Within.alloc ?_ _ | with_reducible refine Within.drew ?_ | with_reducible refine Within.drewN ?_ _ | with_reducible refine Within.setCell ?_ (by first | (simp; done) | (simp; omega)) _ | with_reducible refine Within.trans ?_ (by assumption))) hb5
        refine hK _ _ (by repeat (first | with_reducible exact Within.refl _ | with_reducible assumption | with_reducible refine Within.alloc ?_ _ | with_reducible refine Within.drew ?_ | with_reducible refine Within.drewN ?_ _ | with_reducible refine Within.setCell ?_ (by first | (simp; done) | (simp; omega)) _ | with_reducible refine Within.trans ?_ (by assumption))) ?_
        clear hK K
        try simp only [Act.put, List.setIfInBounds_toArray, List.set_cons_zero, List.set_cons_succ]
        refine sch_one rfl rfl (fun K hK => ?_)
        go_simp
        refine hK _ _ (fun _ => (by repeat (first | with_reducible exact Within.refl _ | with_reducible assumption | with_reducible refine Within.alloc ?_ _ | with_reducible refine Within.drew ?_ | with_reducible refine Within.drewN ?_ _ | with_reducible refine Within.setCell ?_ (by first | (simp; done) | (simp; omega)) _ | with_reducible refine Within.trans ?_ (by assumption)))) ?_
        clear hK K
        try simp only [Act.put, List.setIfInBounds_toArray, List.set_cons_zero, List.set_cons_succ]
        refine sch_one rfl rfl (fun K hK => ?_)
        go_simp
        refine (BAdd _ h1 h2 v1 v2 (Nat.le_trans HL1.out (by decide)) (Nat.le_trans HL2.out (by decide)) _ (by repeat (first | with_reducible assumption | with_reducible exact ty_new _ _ _ _ (by simp; done) | with_reducible refine ty_drew ?_ | with_reducible refine ty_alloc ?_ _)) (by repeat (first | with_reducible assumption | with_reducible exact ib_new _ _ (by simp; done) | with_reducible refine IntB.alloc ?_ _ | with_reducible refine IntB.drew ?_ | with_reducible refine IntB.drewN ?_ _)) (by repeat (first | with_reducible assumption | with_reducible exact ib_new _ _ (by simp; done) | with_reducible refine IntB.alloc ?_ _ | with_reducible refine IntB.drew ?_ | with_reducible refine IntB.drewN ?_ _))).mono ?_; rintro e6 w6 ⟨rfl, hA3, hG3⟩
        rw [HV.out] at hA3
        have hv3 : Within w0 w6 := Within.grown (by repeat (first | with_reducible exact Within.refl _ | with_reducible assumption | with_reducible refine Within.alloc ?_ _ | with_reducible refine Within.drew ?_ | with_reducible refine Within.drewN ?_ _ | with_reducible refine Within.setCell ?_ (by first | (simp; done) | (simp; omega)) _ | with_reducible refine Within.trans ?_ (by assumption))) hG3 (by first | (simp; done) | exact hv4.sizes | exact hv5.sizes)
        refine hK _ _ (fun _ => (by repeat (first | with_reducible exact Within.refl _ | with_reducible assumption | with_reducible refine Within.alloc ?_ _ | with_reducible refine Within.drew ?_ | with_reducible refine Within.drewN ?_ _ | with_reducible refine Within.setCell ?_ (by first | (simp; done) | (simp; omega)) _ | with_reducible refine Within.trans ?_ (by assumption)))) ?_
        clear hK K
        try simp only [Act.put, List.setIfInBounds_toArray, List.set_cons_zero, List.set_cons_succ]
        refine sch_one rfl rfl (fun K hK => ?_)
        go_simp
        refine hK _ _ (fun h => absurd h (by decide)) ?_
        clear hK K
        try simp only [Act.put, List.setIfInBounds_toArray, List.set_cons_zero, List.set_cons_succ]
        refine sch_nil ?_
        go_wp2_with fail
        go_meet
        exact ⟨⟨_, rfl, hA3, Nat.le_trans hw0.sizes (by first | (simp; done) | exact hv4.sizes | exact hv5.sizes)⟩, hw0.trans hv3⟩
  case rest =>
    obtain ⟨⟨z, rfl, hI, hz⟩, hw⟩ := hcut
    have hz3 : w.heap.size + 3 ≤ z := Nat.le_trans (by simp) hz
    clear hz
    have r0 : wc.cell? ⟨w.heap.size + 1 + 1, 0, none⟩ = some (.int .i64 0) := (hw.cells _ _ (by simp)).trans (by go_simp)
    have r1 : wc.cell? ⟨w.heap.size + 1 + 1, 1, none⟩ = some (.bool false) := (hw.cells _ _ (by simp)).trans (by go_simp)
    have r2 : wc.cell? ⟨w.heap.size + 1 + 1, 2, none⟩ = some (.pointer none) := (hw.cells _ _ (by simp)).trans (by go_simp)
    have r3 : wc.cell? ⟨w.heap.size + 1 + 1, 3, none⟩ = some (.int .i64 0) := (hw.cells _ _ (by simp)).trans (by go_simp)
    have rf : ∀ o, wc.frozen? ⟨w.heap.size + 1 + 1, o, none⟩ = false := fun o => (hw.frozens _ _ (by simp)).trans (by go_simp)
    have hl1 : w.heap.size + 1 + 1 < wc.heap.size := World.block_lt_of_cell? wc _ r0
    have tr : NumTy wc (w.heap.size + 1 + 1) := ⟨_, (hw.block _ (by simp)).trans (hp_new _ _ _ (by simp))⟩
    have hww : Within w wc := ((((Within.refl w).alloc _).alloc _).alloc _).trans hw
    clear hw
    have hty := hI.ty
    have hsg := Lib.hid (sign_lt v)
    go_wp2_with fail
    refine (Bsign z v _ hI).mono ?_; rintro e7 w7 ⟨rfl, rfl⟩
    have d2 : decide (v.sign < 0) = decide (v < 0) := by rw [decide_eq_decide]; exact hsg.out
    go_wp2_with fail
    refine (Babs z z v (Nat.le_trans HLV.out (by decide)) _ hty hI).mono ?_; rintro e8 w8 ⟨rfl, hI8, hG8⟩
    have hcl := grown_cells hG8; have hfz := grown_frozens hG8; have hsz := hG8.size
    have q5 : ¬ (w.heap.size + 1 + 1 = z) := by omega
    have r0 := (hcl _ 0 hl1 q5).trans r0
    have r1 := (hcl _ 1 hl1 q5).trans r1
    have r2 := (hcl _ 2 hl1 q5).trans r2
    have r3 := (hcl _ 3 hl1 q5).trans r3
    have rf8 : ∀ o, w8.frozen? ⟨w.heap.size + 1 + 1, o, none⟩ = false := fun o => (hfz _ o hl1 q5).trans (rf o)
    have tr2 := tr.grown hG8 q5
    have hl2 : w.heap.size + 1 + 1 < w8.heap.size := by omega
    have hw8 : Within w w8 := Within.grown hww hG8 (by omega)
    clear hcl hfz hsz hG8 tr rf hl1 hty
    go_wp2
    refine bodyPost_ret (v := .agg #[.int .i64 0, .bool (decide (v < 0)), .pointer (some ⟨z, 0, none⟩), .int .i64 e]) (by simp [results, Tryd.results16, go_sem, r0, r1, r2, r3, hl2]) rfl ⟨z, rfl, ?_, by omega, ?_⟩
    · exact (by repeat (first | with_reducible assumption | with_reducible refine NumTy.set ?_ _ _ | with_reducible refine IntB.setNum ?_ (by show z ≠ w.heap.size + 1 + 1; omega) ?_ _))
    · exact (by repeat (first | with_reducible exact Within.refl _ | with_reducible assumption | with_reducible refine Within.alloc ?_ _ | with_reducible refine Within.drew ?_ | with_reducible refine Within.drewN ?_ _ | with_reducible refine Within.setCell ?_ (by first | (simp; done) | (simp; omega)) _ | with_reducible refine Within.trans ?_ (by assumption)))

theorem sgI_add (b : Bool) (M d c : Nat) : sgI b M (d + c) = sgI b M d * 2 ^ c := by
  unfold sgI
  rw [Int.pow_add]
  cases b
  · simp only [Bool.false_eq_true, if_false, Int.mul_assoc]
  · simp only [if_true, Int.neg_mul, Int.mul_assoc]
theorem pow2_pos (c : Nat) : (0 : Int) < 2 ^ c := by
  have : ((2 ^ c : Nat) : Int) = 2 ^ c := by simp
  rw [← this]; exact Int.ofNat_lt.2 (Nat.pow_pos (by decide))
theorem cmpI_scale (a b : Int) (c : Nat) : cmpI (a * 2 ^ c) (b * 2 ^ c) = cmpI a b := by
  unfold cmpI
  have h := pow2_pos c
  have e1 : (a * 2 ^ c < b * 2 ^ c) ↔ a < b := ⟨fun k => Int.lt_of_mul_lt_mul_right k (Int.le_of_lt h), fun k => Int.mul_lt_mul_of_pos_right k h⟩
  have e2 : (b * 2 ^ c < a * 2 ^ c) ↔ b < a := ⟨fun k => Int.lt_of_mul_lt_mul_right k (Int.le_of_lt h), fun k => Int.mul_lt_mul_of_pos_right k h⟩
  simp only [e1, e2]
/-- the exponents that the walks of exact numbers bear -/
def ExpOk (J : Nat) (E : Int) : Prop := 0 ≤ E + J ∧ E ≤ 5000 ∧ J ≤ 5000
theorem sgI_min {J : Nat} {E e : Int} (b : Bool) (M : Nat) (h0 : 0 ≤ e + J) (h : e ≤ E) : sgI b M (E + J).toNat = sgI b M (E - e).toNat * 2 ^ (e + J).toNat := by
  rw [← sgI_add]; congr 1; omega
theorem Rcmp_val (k1 k2 E1 E2 : Int) (b1 b2 : Bool) (g1 g2 M1 M2 : Nat) (J : Nat) (h1 : ExpOk J E1) (h2 : ExpOk J E2) (hk1 : k1 ≠ 1) (hk2 : k2 ≠ 1) (l1 : (dg M1).length ≤ 900) (l2 : (dg M2).length ≤ 900) (w : World) (hI1 : IntB w g1 (M1 : Int)) (hI2 : IntB w g2 (M2 : Int)) : Calls Tryd.prog 15 #[.agg #[.int .i64 k1, .bool b1, .pointer (some ⟨g1, 0, none⟩), .int .i64 E1], .agg #[.int .i64 k2, .bool b2, .pointer (some ⟨g2, 0, none⟩), .int .i64 E2]] w (fun en w' => en = .returned (.int .i64 (cmpI (sgI b1 M1 (E1 + J).toNat) (sgI b2 M2 (E2 + J).toNat))) ∧ Within w w') := by
  obtain ⟨h1a, h1b, hJ⟩ := h1
  obtain ⟨h2a, h2b, _⟩ := h2
  obtain ⟨e, he⟩ : ∃ e, min E1 E2 = e := ⟨_, rfl⟩
  rw [sgI_min b1 M1 (e := e) (by omega) (by omega), sgI_min b2 M2 (e := e) (by omega) (by omega), cmpI_scale]
  exact Rcmp_fin k1 k2 E1 E2 b1 b2 g1 g2 e _ _ M1 M2 he (sgI_len (by omega) l1) (sgI_len (by omega) l2)
    (Lib.hid fun w hI => Rsigned k1 E1 e b1 g1 M1 _ (by omega) (by omega) l1 w hI) (Lib.hid fun w hI => Rsigned k2 E2 e b2 g2 M2 _ (by omega) (by omega) l2 w hI)
    (beq_eq_false_iff_ne.2 hk1) (beq_eq_false_iff_ne.2 hk2) w hI1 hI2
theorem sgI_abs (v : Int) (d : Nat) : sgI (decide (v < 0)) v.natAbs d = v * 2 ^ d := by
  unfold sgI
  by_cases h : v < 0
  · rw [decide_eq_true h, if_pos rfl, ← Int.neg_mul]; congr 1; omega
  · rw [decide_eq_false h, if_neg Bool.false_ne_true]; congr 1; omega
theorem dg_sum_len {a b : Int} {n : Nat} (ha : (dg a.natAbs).length ≤ n) (hb : (dg b.natAbs).length ≤ n) : (dg (a + b).natAbs).length ≤ n + 1 := by
  refine dg_len_le ?_
  have h1 := Nat.lt_of_lt_of_le (lt_of_dg a.natAbs) (Nat.pow_le_pow_right (by decide) ha)
  have h2 := Nat.lt_of_lt_of_le (lt_of_dg b.natAbs) (Nat.pow_le_pow_right (by decide) hb)
  have h3 : (a + b).natAbs ≤ a.natAbs + b.natAbs := Int.natAbs_add_le a b
  rw [Nat.pow_succ]
  generalize 4294967296 ^ n = Z at *
  omega
theorem Rsum_val (k1 k2 E1 E2 : Int) (b1 b2 : Bool) (g1 g2 M1 M2 : Nat) (J : Nat) (h1 : ExpOk J E1) (h2 : ExpOk J E2) (l1 : (dg M1).length ≤ 900) (l2 : (dg M2).length ≤ 900) (w : World) (hI1 : IntB w g1 (M1 : Int)) (hI2 : IntB w g2 (M2 : Int)) : Calls Tryd.prog 16 #[.agg #[.int .i64 k1, .bool b1, .pointer (some ⟨g1, 0, none⟩), .int .i64 E1], .agg #[.int .i64 k2, .bool b2, .pointer (some ⟨g2, 0, none⟩), .int .i64 E2]] w (fun en w' => ∃ (g : Nat) (v : Int), en = .returned (.agg #[.int .i64 0, .bool (decide (v < 0)), .pointer (some ⟨g, 0, none⟩), .int .i64 (min E1 E2)]) ∧ sgI (decide (v < 0)) v.natAbs (min E1 E2 + J).toNat = sgI b1 M1 (E1 + J).toNat + sgI b2 M2 (E2 + J).toNat ∧ (dg v.natAbs).length ≤ 1401 ∧ IntB w' g (v.natAbs : Int) ∧ w.heap.size ≤ g ∧ Within w w') := by
  obtain ⟨h1a, h1b, hJ⟩ := h1
  obtain ⟨h2a, h2b, _⟩ := h2
  obtain ⟨e, he⟩ : ∃ e, min E1 E2 = e := ⟨_, rfl⟩
  have r1 := sgI_min b1 M1 (J := J) (E := E1) (e := e) (by omega) (by omega)
  have r2 := sgI_min b2 M2 (J := J) (E := E2) (e := e) (by omega) (by omega)
  have n1 : (dg (sgI b1 M1 (E1 - e).toNat).natAbs).length ≤ 1400 := sgI_len (by omega) l1
  have n2 : (dg (sgI b2 M2 (E2 - e).toNat).natAbs).length ≤ 1400 := sgI_len (by omega) l2
  obtain ⟨v, hv⟩ : ∃ v, sgI b1 M1 (E1 - e).toNat + sgI b2 M2 (E2 - e).toNat = v := ⟨_, rfl⟩
  have n3 : (dg v.natAbs).length ≤ 1401 := hv ▸ dg_sum_len n1 n2
  refine (Rsum_fin k1 k2 E1 E2 b1 b2 g1 g2 e _ _ M1 M2 v hv (Nat.le_trans n3 (by decide)) he n1 n2
    (Lib.hid fun w hI => Rsigned k1 E1 e b1 g1 M1 _ (by omega) (by omega) l1 w hI) (Lib.hid fun w hI => Rsigned k2 E2 e b2 g2 M2 _ (by omega) (by omega) l2 w hI) w hI1 hI2).mono fun en w' h => ?_
  obtain ⟨g, h1, h2, h3, h4⟩ := h
  rw [he]
  refine ⟨g, v, h1, ?_, n3, h2, h3, h4⟩
  rw [sgI_abs, r1, r2, ← hv, Int.add_mul]
section
variable {P : Program} {ops : Array Oper} {Q : Exit → Act → World → Prop} {S : World → Prop} {p k : Nat} {a : Act} {w : World} {t : Sch}
theorem sch_one_want {o : Oper} (ho : ops.toList[k]? = some o) (hg : Region.wanted o (yielded ops a.tmps) = true) (h : ∀ K : Act → World → Prop, (∀ a' w', (k < p → S w') → wpSch P ops (OnlyN Q) S p t a' w' → K a' w') → o.wp P a w K (OnlyN Q)) : wpSch P ops (OnlyN Q) S p (.one k t) a w := by
  show wpOp P ops (OnlyN Q) k _ a w
  unfold wpOp
  rw [Array.getElem?_toList] at ho
  simp only [ho]
  rw [if_pos hg]
  exact .inl (h _ fun a' w' hS hr => ⟨hS, hr⟩)
theorem sch_one_skip {o : Oper} (ho : ops.toList[k]? = some o) (hg : Region.wanted o (yielded ops a.tmps) = false) (hS : S w) (h2 : wpSch P ops (OnlyN Q) S p t (a.put o.dst undef) w) : wpSch P ops (OnlyN Q) S p (.one k t) a w := by
  show wpOp P ops (OnlyN Q) k _ a w
  unfold wpOp
  rw [Array.getElem?_toList] at ho
  simp only [ho]
  rw [if_neg (by rw [hg]; decide)]
  exact ⟨fun _ => hS, h2⟩
end
end Go.Proofs.YtifgngmebnjfkaaDoor
