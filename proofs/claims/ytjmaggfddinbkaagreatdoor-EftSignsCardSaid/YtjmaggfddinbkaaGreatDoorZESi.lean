/- The card of EftSigns: whatever the input, the call returns true and the input reads as it did; the de Bruijn table holds what the program's text lays. -/
import Derived.Test.YtjmaggfddinbkaaGreatDoorRows
import Derived.WalkKit
import Derived.WalkSpells
import Derived.WalkLawsBesides
import Derived.BigQuiet
import Derived.Lib.Hide
import Derived.Deep.OwnRows
import Derived.OwnWalk
import Derived.LoopTactic
import Derived.Outline
import Derived.IntWalk
import Derived.Shelf.Bits.Mul64
import Derived.Laws.Externs
import Derived.Deep.QuietTactic
import Derived.Deep.RegionWith
import Derived.OrdersHeld
import Derived.StillTail
import Derived.Deep.RegionHeld3
import Derived.Maps.AppendAt
import Ieee.Arith
import Derived.Lib.TrailingZeros
import Derived.Lib.BitFns
import Derived.Lib.Strings
import Derived.Lib.Slices
import Derived.Lib.Small
import Derived.Lib.Walk
import Derived.Deep.AppendLies
import Derived.Deep.Draws
import Derived.Laws.OwnMore
import Derived.Deep.DeepCutAuto
import Derived.Test.YtjmaggfddinbkaaGreatDoorCards
import Derived.Test.YtjmaggfddinbkaaGreatDoorTie
import Derived.ProofKit
import Derived.OpenShut
import Derived.ShutString
import Derived.ChangeOld
import Derived.Below
import Derived.Deep.DeepHandedRow
import Derived.Lib.LaidTab
import Derived.Test.YtjmaggfddinbkaaGreatDoorZESi3
set_option linter.unusedVariables false
set_option linter.unusedSimpArgs false
section
namespace Go.Proofs.YtjmaggfddinbkaaGreatDoor
open Go.RowKit
theorem of_val (b : Nat) : valE (ofN b) (pExpD b) 1074 = P64.wholeI b := rfl
theorem dg_len_of {n e k : Nat} (h : n < 2 ^ e) (he : e ≤ 32 * k) : (dg n).length ≤ k :=
  dg_len_le (Nat.lt_of_lt_of_le h (by rw [show (4294967296 : Nat) = 2 ^ 32 from rfl, ← Nat.pow_mul]; exact Nat.pow_le_pow_right (by decide) he))
theorem lim80 {k : Nat} (h : k ≤ 2174) : 64 + k ≤ 32 * 80 := by omega
theorem whole_len (b : Nat) : (dg (P64.wholeI b).natAbs).length ≤ 80 := dg_len_of (P64.wholeI_lt b) (lim80 (by have := (P64.pExpD_range b).2; omega))
theorem XofW (b : Nat) (hb : b < 18446744073709551616) (w : World) : Calls Tryz.prog 44 #[.float .f64 b] w (ExW 1074 1100 (P64.wholeI b) w) := by
  refine (Xof b hb w).mono fun e w' ⟨h, h1, h2, _, h4⟩ => ⟨h, ofN b, pExpD b, h1, h2, (P64.pExpD_range b).1, (P64.pExpD_range b).2, of_val b, h4⟩
theorem whole_sub_len (a b : Nat) : (dg (P64.wholeI a - P64.wholeI b).natAbs).length ≤ 81 := by
  refine dg_len_le ?_
  have h1 := Nat.lt_of_lt_of_le (lt_of_dg (P64.wholeI a).natAbs) (Nat.pow_le_pow_right (by decide) (whole_len a))
  have h2 := Nat.lt_of_lt_of_le (lt_of_dg (P64.wholeI b).natAbs) (Nat.pow_le_pow_right (by decide) (whole_len b))
  rw [Nat.pow_succ]
  generalize 4294967296 ^ 80 = X at *
  omega
theorem ne_ex {w : World} {g b : Nat} {v : Int} {cs : Array Value} (hI : IntB w g v) (hz : w.heap[b]? = some (.cells cs 53 (0, 0))) : g ≠ b := by
  rintro rfl
  obtain ⟨A, c, hb, _⟩ := hI
  rw [hz] at hb
  injection hb with hb
  injection hb with _ h2
  exact absurd h2 (by decide)
theorem cmpI_sign (x y : Int) : P64.cmpI x y = (x - y).sign := by
  unfold P64.cmpI
  rcases Int.lt_trichotomy x y with h | h | h
  · rw [if_pos h, Int.sign_eq_neg_one_of_neg (by omega)]
  · subst h; rw [if_neg (Int.lt_irrefl x), if_neg (Int.lt_irrefl x), Int.sub_self]; rfl
  · rw [if_neg (by omega), if_pos h, Int.sign_eq_one_of_pos (by omega)]
theorem val_mul (n m E F : Int) (L M : Nat) (h1 : -(L : Int) ≤ E) (h2 : -(M : Int) ≤ F) : valE (n * m) (E + F) (L + M) = valE n E L * valE m F M := by
  unfold valE
  rw [show (E + F + ((L + M : Nat) : Int)).toNat = (E + L).toNat + (F + M).toNat by omega, Int.pow_add]
  rw [Int.mul_assoc, Int.mul_assoc, Int.mul_left_comm m]
set_option maxRecDepth 100000 in
set_option maxHeartbeats 600000 in
theorem Xminus (a b : Nat) (ha : a < 18446744073709551616) (hb : b < 18446744073709551616) (w : World) : Calls Tryz.prog 82 #[.float .f64 a, .float .f64 b] w (ExW 1074 1100 (P64.wholeI a - P64.wholeI b) w) := by
  have CA := Lib.hid (fun w => XofW a ha w)
  have CB := Lib.hid (fun w => XofW b hb w)
  clear ha hb
  go_enter Tryz.func82, Tryz.ntmps82
  go_wp2_with fail
  refine (CA.out _).mono ?_; rintro e1 w1 ⟨g1, n1, E1, rfl, hI1, a1, a2, hv1, hb1⟩
  go_wp2_with fail
  refine (CB.out _).mono ?_; rintro e2 w2 ⟨g2, n2, E2, rfl, hI2, b1, b2, hv2, hb2⟩
  have l1 : (dg n1.natAbs).length ≤ 900 := Nat.le_trans (val_len n1 E1 1074) (by rw [hv1]; exact Nat.le_trans (whole_len a) (by decide))
  have l2 : (dg n2.natAbs).length ≤ 900 := Nat.le_trans (val_len n2 E2 1074) (by rw [hv2]; exact Nat.le_trans (whole_len b) (by decide))
  go_wp2_with fail
  refine (Xneg n2 E2 g2 (Nat.le_trans l2 (by decide)) w2 hI2).mono ?_; rintro e3 w3 ⟨g3, rfl, hI3, hg3, hb3⟩
  have CC := Lib.hid (Xadd n1 (-n2) E1 E2 g1 g3 1074 1100 (by decide) (by decide) a1 a2 b1 b2 l1 (by rw [Int.natAbs_neg]; exact l2) w3 (hI1.of (hb2.trans hb3)) hI3)
  rw [val_neg, hv1, hv2, ← Int.sub_eq_add_neg] at CC
  go_wp2_with fail
  refine CC.out.mono ?_; rintro e4 w4 ⟨g4, n4, E4, rfl, hI4, c1, c2, hv4, hb4⟩
  have hx : Within (w.alloc (.cells #[.pointer none, .int .i64 0] 53)) w4 := ((hb1.trans hb2).trans hb3).trans hb4
  have hz5 : w4.heap[w.heap.size]? = some (.cells #[.pointer none, .int .i64 0] 53 (0, 0)) := (hx.block _ (by simp)).trans (heap_alloc_new w _)
  have hg4 := ne_ex hI4 hz5
  obtain ⟨y0, y1, yf⟩ := ex_cells hz5
  have yl : w.heap.size < w4.heap.size := World.block_lt_of_cell? _ _ y0
  obtain ⟨r0, r1, rI⟩ := ex_set (E := E4) hz5 hI4 hg4
  go_wp2
  refine bodyPost_ret (v := .agg #[.pointer (some ⟨g4, 0, none⟩), .int .i64 E4]) (by simp [results, Tryz.results82, go_sem, r0, r1, yl]) rfl ⟨g4, n4, E4, rfl, rI, c1, c2, hv4, ?_⟩
  exact ((((Within.refl w).alloc _).trans hx).setCell (by show _ ≤ w.heap.size; omega) _).setCell (by show _ ≤ w.heap.size; omega) _
set_option maxRecDepth 100000 in
set_option maxHeartbeats 600000 in
theorem Xdet (a b c d : Nat) (ha : a < 18446744073709551616) (hb : b < 18446744073709551616) (hc : c < 18446744073709551616) (hd : d < 18446744073709551616) (w : World) : Calls Tryz.prog 23 #[.float .f64 a, .float .f64 b, .float .f64 c, .float .f64 d] w fun e w' => e = .returned (.tuple #[.int .i64 (if [a, b, c, d].all finD then P64.detI a b c d else 0), .int .i64 (if [a, b, c, d].all finD then 0 else 4)]) ∧ Within w w' := by
  have HA := Lib.hid ha; have HB := Lib.hid hb; have HC := Lib.hid hc; have HD := Lib.hid hd
  have CF := Lib.hid (fun (w' : World) hr => RallFinite_any (some ⟨w.heap.size, 0, none⟩) 4 [a, b, c, d] (by intro x hx; simp at hx; omega) (by simp) w' hr)
  have HS := Lib.hid (P64.slAt_made w [a, b, c, d] _ 29 rfl)
  clear ha hb hc hd
  obtain ⟨al, hal⟩ : ∃ al, al = [a, b, c, d].all finD := ⟨_, rfl⟩
  rw [← hal] at CF ⊢
  clear hal
  have Ca := Lib.hid (fun w => XofW a HA.out w)
  have Cb := Lib.hid (fun w => XofW b HB.out w)
  have Cc := Lib.hid (fun w => XofW c HC.out w)
  have Cd := Lib.hid (fun w => XofW d HD.out w)
  have b1 : ∀ C, Within w (w.alloc (.cells C 29)) := fun C => (Within.refl w).alloc _
  cases al
  · go_enter Tryz.func23, Tryz.ntmps23
    go_wp2_with fail
    refine (CF.out _ HS.out).mono ?_; rintro e1 w1 ⟨rfl, hb1⟩
    go_wp2
    go_ret2
    exact ⟨rfl, (b1 _).trans hb1⟩
  · go_enter Tryz.func23, Tryz.ntmps23
    go_wp2_with fail
    refine (CF.out _ HS.out).mono ?_; rintro e0 w0 ⟨rfl, hb0'⟩
    have hx0 := (b1 _).trans hb0'
    clear hb0'
    go_wp2_with fail
    refine (Ca.out _).mono ?_; rintro e1 w1 ⟨g1, n1, E1, rfl, hI1, a1, b1, hv1, hb1⟩
    have l1 : (dg n1.natAbs).length ≤ 90 := Nat.le_trans (val_len n1 E1 1074) (by rw [hv1]; exact Nat.le_trans (whole_len a) (by decide))
    have hx1 := hx0.trans hb1
    go_wp2_with fail
    refine (Cd.out _).mono ?_; rintro e2 w2 ⟨g2, n2, E2, rfl, hI2, a2, b2, hv2, hb2⟩
    have l2 : (dg n2.natAbs).length ≤ 90 := Nat.le_trans (val_len n2 E2 1074) (by rw [hv2]; exact Nat.le_trans (whole_len d) (by decide))
    have hx2 := hx1.trans hb2
    have C3 := Lib.hid (Xmul n1 n2 E1 E2 g1 g2 (Nat.le_trans l1 (by decide)) (Nat.le_trans l2 (by decide)) ⟨by omega, by omega⟩ ⟨by omega, by omega⟩ w2 (hI1.of hb2) hI2)
    go_wp2_with fail
    refine C3.out.mono ?_; rintro e3 w3 ⟨g3, rfl, hI3, _, hb3⟩
    have hx3 := hx2.trans hb3
    go_wp2_with fail
    refine (Cb.out _).mono ?_; rintro e4 w4 ⟨g4, n4, E4, rfl, hI4, a4, b4, hv4, hb4⟩
    have l4 : (dg n4.natAbs).length ≤ 90 := Nat.le_trans (val_len n4 E4 1074) (by rw [hv4]; exact Nat.le_trans (whole_len b) (by decide))
    have hx4 := (hx3.alloc _).trans hb4
    go_wp2_with fail
    refine (Cc.out _).mono ?_; rintro e5 w5 ⟨g5, n5, E5, rfl, hI5, a5, b5, hv5, hb5⟩
    have l5 : (dg n5.natAbs).length ≤ 90 := Nat.le_trans (val_len n5 E5 1074) (by rw [hv5]; exact Nat.le_trans (whole_len c) (by decide))
    have hx5 := hx4.trans hb5
    have C6 := Lib.hid (Xmul n4 n5 E4 E5 g4 g5 (Nat.le_trans l4 (by decide)) (Nat.le_trans l5 (by decide)) ⟨by omega, by omega⟩ ⟨by omega, by omega⟩ w5 (hI4.of hb5) hI5)
    go_wp2_with fail
    refine C6.out.mono ?_; rintro e6 w6 ⟨g6, rfl, hI6, _, hb6⟩
    have hx6 := hx5.trans hb6
    have hq : Within (w3.alloc (.cells #[.pointer (some ⟨g3, 0, none⟩), .int .i64 (E1 + E2)] 53)) w6 := (hb4.trans hb5).trans hb6
    have p0 : w6.cell? ⟨w3.heap.size, 0, none⟩ = some (.pointer (some ⟨g3, 0, none⟩)) := (hq.cells _ _ (by simp)).trans (by go_simp)
    have p1 : w6.cell? ⟨w3.heap.size, 1, none⟩ = some (.int .i64 (E1 + E2)) := (hq.cells _ _ (by simp)).trans (by go_simp)
    have pl : w3.heap.size < w6.heap.size := World.block_lt_of_cell? _ _ p0
    have q3 := ((hI3.of ((Within.refl w3).alloc _)).of hq)
    have CM := Lib.hid (fun w k1 k2 => Xcmp (n1 * n2) (n4 * n5) (E1 + E2) (E4 + E5) g3 g6 2148 2200 (by decide) (by decide) (by omega) (by omega) (by omega) (by omega) (by rw [Int.natAbs_mul]; exact Nat.le_trans (dg_mul_len l1 l2) (by decide)) (by rw [Int.natAbs_mul]; exact Nat.le_trans (dg_mul_len l4 l5) (by decide)) w k1 k2)
    rw [val_mul n1 n2 E1 E2 1074 1074 a1 a2, val_mul n4 n5 E4 E5 1074 1074 a4 a5, hv1, hv2, hv4, hv5, ← cmpI_sign] at CM
    go_wp2_with fail
    refine (CM.out _ (q3.of ((Within.refl w6).alloc _)) (hI6.of ((Within.refl w6).alloc _))).mono ?_; rintro e7 w7 ⟨rfl, hb7⟩
    go_wp2
    go_ret2
    exact ⟨rfl, (hx6.alloc _).trans hb7⟩
set_option maxRecDepth 100000 in
set_option maxHeartbeats 600000 in
theorem Xturn (a b c d p q : Nat) (ha : a < 18446744073709551616) (hb : b < 18446744073709551616) (hc : c < 18446744073709551616) (hd : d < 18446744073709551616) (hp : p < 18446744073709551616) (hq : q < 18446744073709551616) (w : World) : Calls Tryz.prog 25 #[.float .f64 a, .float .f64 b, .float .f64 c, .float .f64 d, .float .f64 p, .float .f64 q] w fun e w' => e = .returned (.tuple #[.int .i64 (if [a, b, c, d, p, q].all finD then P64.turnI a b c d p q else 0), .int .i64 (if [a, b, c, d, p, q].all finD then 0 else 4)]) ∧ Within w w' := by
  have HW := Lib.hid (And.intro ha (And.intro hb (And.intro hc (And.intro hd (And.intro hp hq)))))
  have CF := Lib.hid (fun (w' : World) hr => RallFinite_any (some ⟨w.heap.size, 0, none⟩) 6 [a, b, c, d, p, q] (by intro x hx; simp at hx; omega) (by simp) w' hr)
  have HS := Lib.hid (P64.slAt_made w [a, b, c, d, p, q] _ 29 rfl)
  have M1 := Lib.hid (fun w => Xminus c a hc ha w)
  have M2 := Lib.hid (fun w => Xminus q b hq hb w)
  have M4 := Lib.hid (fun w => Xminus d b hd hb w)
  have M5 := Lib.hid (fun w => Xminus p a hp ha w)
  clear ha hb hc hd hp hq
  obtain ⟨al, hal⟩ : ∃ al, al = [a, b, c, d, p, q].all finD := ⟨_, rfl⟩
  rw [← hal] at CF ⊢
  clear hal
  have b1 : ∀ C, Within w (w.alloc (.cells C 29)) := fun C => (Within.refl w).alloc _
  cases al
  · go_enter Tryz.func25, Tryz.ntmps25
    go_wp2_with fail
    refine (CF.out _ HS.out).mono ?_; rintro e1 w1 ⟨rfl, hb1⟩
    go_wp2
    go_ret2
    exact ⟨rfl, (b1 _).trans hb1⟩
  · go_enter Tryz.func25, Tryz.ntmps25
    go_wp2_with fail
    refine (CF.out _ HS.out).mono ?_; rintro e0 w0 ⟨rfl, hb0'⟩
    have hx0 := (b1 _).trans hb0'
    clear hb0'
    go_wp2_with fail
    refine (M1.out _).mono ?_; rintro e1 w1 ⟨g1, n1, E1, rfl, hI1, a1, b1, hv1, hb1⟩
    have l1 : (dg n1.natAbs).length ≤ 90 := Nat.le_trans (val_len n1 E1 1074) (by rw [hv1]; exact Nat.le_trans (whole_sub_len c a) (by decide))
    have hx1 := hx0.trans hb1
    go_wp2_with fail
    refine (M2.out _).mono ?_; rintro e2 w2 ⟨g2, n2, E2, rfl, hI2, a2, b2, hv2, hb2⟩
    have l2 : (dg n2.natAbs).length ≤ 90 := Nat.le_trans (val_len n2 E2 1074) (by rw [hv2]; exact Nat.le_trans (whole_sub_len q b) (by decide))
    have hx2 := hx1.trans hb2
    have C3 := Lib.hid (Xmul n1 n2 E1 E2 g1 g2 (Nat.le_trans l1 (by decide)) (Nat.le_trans l2 (by decide)) ⟨by omega, by omega⟩ ⟨by omega, by omega⟩ w2 (hI1.of hb2) hI2)
    go_wp2_with fail
    refine C3.out.mono ?_; rintro e3 w3 ⟨g3, rfl, hI3, _, hb3⟩
    have hx3 := hx2.trans hb3
    go_wp2_with fail
    refine (M4.out _).mono ?_; rintro e4 w4 ⟨g4, n4, E4, rfl, hI4, a4, b4, hv4, hb4⟩
    have l4 : (dg n4.natAbs).length ≤ 90 := Nat.le_trans (val_len n4 E4 1074) (by rw [hv4]; exact Nat.le_trans (whole_sub_len d b) (by decide))
    have hx4 := hx3.trans hb4
    go_wp2_with fail
    refine (M5.out _).mono ?_; rintro e5 w5 ⟨g5, n5, E5, rfl, hI5, a5, b5, hv5, hb5⟩
    have l5 : (dg n5.natAbs).length ≤ 90 := Nat.le_trans (val_len n5 E5 1074) (by rw [hv5]; exact Nat.le_trans (whole_sub_len p a) (by decide))
    have hx5 := hx4.trans hb5
    have C6 := Lib.hid (Xmul n4 n5 E4 E5 g4 g5 (Nat.le_trans l4 (by decide)) (Nat.le_trans l5 (by decide)) ⟨by omega, by omega⟩ ⟨by omega, by omega⟩ w5 (hI4.of hb5) hI5)
    go_wp2_with fail
    refine C6.out.mono ?_; rintro e6 w6 ⟨g6, rfl, hI6, _, hb6⟩
    have hx6 := hx5.trans hb6
    have CM := Lib.hid (fun w k1 k2 => Xcmp (n1 * n2) (n4 * n5) (E1 + E2) (E4 + E5) g3 g6 2148 2200 (by decide) (by decide) (by omega) (by omega) (by omega) (by omega) (by rw [Int.natAbs_mul]; exact Nat.le_trans (dg_mul_len l1 l2) (by decide)) (by rw [Int.natAbs_mul]; exact Nat.le_trans (dg_mul_len l4 l5) (by decide)) w k1 k2)
    rw [val_mul n1 n2 E1 E2 1074 1074 a1 a2, val_mul n4 n5 E4 E5 1074 1074 a4 a5, hv1, hv2, hv4, hv5, ← cmpI_sign] at CM
    go_wp2_with fail
    refine (CM.out _ (hI3.of ((hb4.trans hb5).trans hb6)) hI6).mono ?_; rintro e7 w7 ⟨rfl, hb7⟩
    go_wp2
    go_ret2
    exact ⟨rfl, hx6.trans hb7⟩
end Go.Proofs.YtjmaggfddinbkaaGreatDoor
end

section
namespace Go.Proofs.YtjmaggfddinbkaaGreatDoor
open Go.RowKit
set_option maxRecDepth 100000 in
set_option maxHeartbeats 2000000 in
theorem signs_walk (a b c d p q : Nat) (s m r n : Int) (D1 : Hid (∀ w, Tab w → Calls Tryz.prog 22 #[.float .f64 a, .float .f64 b, .float .f64 c, .float .f64 d] w fun e w' => e = .returned (.tuple #[.int .i64 (r), .int .i64 n]) ∧ Within w w')) (D2 : Hid (∀ w, Calls Tryz.prog 23 #[.float .f64 a, .float .f64 b, .float .f64 c, .float .f64 d] w fun e w' => e = .returned (.tuple #[.int .i64 (r), .int .i64 n]) ∧ Within w w')) (T1 : Hid (∀ w, Tab w → Calls Tryz.prog 24 #[.float .f64 a, .float .f64 b, .float .f64 c, .float .f64 d, .float .f64 p, .float .f64 q] w fun e w' => e = .returned (.tuple #[.int .i64 (s), .int .i64 m]) ∧ Within w w')) (T2 : Hid (∀ w, Calls Tryz.prog 25 #[.float .f64 a, .float .f64 b, .float .f64 c, .float .f64 d, .float .f64 p, .float .f64 q] w fun e w' => e = .returned (.tuple #[.int .i64 (s), .int .i64 m]) ∧ Within w w')) (w : World) (hT : Tab w) : Calls Tryz.prog 4 #[.int .u64 (a : Int), .int .u64 (b : Int), .int .u64 (c : Int), .int .u64 (d : Int), .int .u64 (p : Int), .int .u64 (q : Int)] w fun e w' => e = .returned (.bool true) ∧ Within w w' := by
  have g5 : (s == s) = true := beq_self_eq_true _
  have g6 : (m == m) = true := beq_self_eq_true _
  have g7 : (r != r) = false := bne_self_eq_false _
  have g8 : (n != n) = false := bne_self_eq_false _
  have AW := Lib.hid (fun w hT => awake_true w hT)
  have HT := Lib.hid hT; clear hT
  go_enter Tryz.func4, Tryz.ntmps4
  go_wp2_with fail
  refine (ef_any a _).mono ?_; rintro e0 w0 ⟨rfl, rfl⟩
  go_wp2_with fail
  refine (ef_any b _).mono ?_; rintro e0 w0 ⟨rfl, rfl⟩
  go_wp2_with fail
  refine (ef_any c _).mono ?_; rintro e0 w0 ⟨rfl, rfl⟩
  go_wp2_with fail
  refine (ef_any d _).mono ?_; rintro e0 w0 ⟨rfl, rfl⟩
  go_wp2_with fail
  refine (D1.out _ (HT.out.of (Within.refl w))).mono ?_; rintro e2 w2 ⟨rfl, hb2⟩
  have hx1 := (Within.refl w).trans hb2
  go_wp2_with fail
  refine (ef_any a _).mono ?_; rintro e0 w0 ⟨rfl, rfl⟩
  go_wp2_with fail
  refine (ef_any b _).mono ?_; rintro e0 w0 ⟨rfl, rfl⟩
  go_wp2_with fail
  refine (ef_any c _).mono ?_; rintro e0 w0 ⟨rfl, rfl⟩
  go_wp2_with fail
  refine (ef_any d _).mono ?_; rintro e0 w0 ⟨rfl, rfl⟩
  go_wp2_with fail
  refine (D2.out _).mono ?_; rintro e3 w3 ⟨rfl, hb3⟩
  have hx2 := hx1.trans hb3
  go_wp2_with fail
  refine (ef_any a _).mono ?_; rintro e0 w0 ⟨rfl, rfl⟩
  go_wp2_with fail
  refine (ef_any b _).mono ?_; rintro e0 w0 ⟨rfl, rfl⟩
  go_wp2_with fail
  refine (ef_any c _).mono ?_; rintro e0 w0 ⟨rfl, rfl⟩
  go_wp2_with fail
  refine (ef_any d _).mono ?_; rintro e0 w0 ⟨rfl, rfl⟩
  go_wp2_with fail
  refine (ef_any p _).mono ?_; rintro e0 w0 ⟨rfl, rfl⟩
  go_wp2_with fail
  refine (ef_any q _).mono ?_; rintro e0 w0 ⟨rfl, rfl⟩
  go_wp2_with fail
  refine (T1.out _ (HT.out.of hx2)).mono ?_; rintro e4 w4 ⟨rfl, hb4⟩
  have hx3 := hx2.trans hb4
  go_wp2_with fail
  refine (ef_any a _).mono ?_; rintro e0 w0 ⟨rfl, rfl⟩
  go_wp2_with fail
  refine (ef_any b _).mono ?_; rintro e0 w0 ⟨rfl, rfl⟩
  go_wp2_with fail
  refine (ef_any c _).mono ?_; rintro e0 w0 ⟨rfl, rfl⟩
  go_wp2_with fail
  refine (ef_any d _).mono ?_; rintro e0 w0 ⟨rfl, rfl⟩
  go_wp2_with fail
  refine (ef_any p _).mono ?_; rintro e0 w0 ⟨rfl, rfl⟩
  go_wp2_with fail
  refine (ef_any q _).mono ?_; rintro e0 w0 ⟨rfl, rfl⟩
  go_wp2_with fail
  refine (T2.out _).mono ?_; rintro e5 w5 ⟨rfl, hb5⟩
  have hx4 := hx3.trans hb5
  go_wp2_with fail
  refine (AW.out _ (HT.out.of hx4)).mono ?_; rintro e6 w6 ⟨rfl, hb6⟩
  go_wp2
  go_ret
  exact ⟨rfl, hx4.trans hb6⟩
theorem signs_law (a b c d p q : Nat) (ha : a < 18446744073709551616) (hb : b < 18446744073709551616) (hc : c < 18446744073709551616) (hd : d < 18446744073709551616) (hp : p < 18446744073709551616) (hq : q < 18446744073709551616) (w : World) (hT : Tab w) : Calls Tryz.prog 4 #[.int .u64 (a : Int), .int .u64 (b : Int), .int .u64 (c : Int), .int .u64 (d : Int), .int .u64 (p : Int), .int .u64 (q : Int)] w fun e w' => e = .returned (.bool true) ∧ Within w w' :=
  signs_walk a b c d p q _ _ _ _ (Lib.hid fun w hT => P64.Edet a b c d ha hb hc hd w hT) (Lib.hid fun w => Xdet a b c d ha hb hc hd w) (Lib.hid fun w hT => P64.Eturn a b c d p q ha hb hc hd hp hq w hT) (Lib.hid fun w => Xturn a b c d p q ha hb hc hd hp hq w) w hT
end Go.Proofs.YtjmaggfddinbkaaGreatDoor
end

section
namespace Go.Proofs.YtjmaggfddinbkaaGreatDoor.Base
open Go.ChangeShapes Go.WideShapes Go.ChangeAt Go.RowKit
theorem own : ownKnob Tryz.prog.godebug = none := by kernel_rfl
theorem gTab : Tryz.prog.globalNamed "math/bits.deBruijn64tab" = some 2 := by kernel_rfl
theorem gTabType : (Tryz.prog.globals[2]?).map (·.type) = some 174 := by kernel_rfl
theorem cellsT : Tryz.prog.cellsOf 174 = 64 := by kernel_rfl
theorem cellsB : Tryz.prog.cellsOf 5 = 1 := by kernel_rfl
theorem tab {W : World} (h : laidMetH Tryz.prog [("math/bits.deBruijn64tab", Rows.laid_math_bits_deBruijn64tab)] W) : Tab W := fun j hj => by
  have e := (Lib.tabIs_of_head (zs := Lib.deBruijn64tab.map Int.ofNat) (rest := []) gTab gTabType Tryz.underlying174 Tryz.underlying5 cellsB cellsT h).cell gTab j (by simpa [Lib.deBruijn64tab] using hj)
  rw [e]
  congr 2
  have hl : j < Lib.deBruijn64tab.length := hj
  simp [List.getD, List.getElem?_map, List.getElem?_eq_getElem hl]
theorem nat_of_u64 {n : Int} (h : (Lit.int .u64 n).wf = true) : ∃ a : Nat, n = a ∧ a < 18446744073709551616 := by
  simp only [Lit.wf, Bool.and_eq_true, decide_eq_true_eq] at h
  have h1 : (0 : Int) ≤ n := h.1
  have h2 : n ≤ 18446744073709551615 := h.2
  exact ⟨n.toNat, by omega, by omega⟩
noncomputable def laidWorld (os : Os) : World :=
  { World.holding Tryz.prog os ⟨#[], #[], []⟩ with heap := (World.holding Tryz.prog os ⟨#[], #[], []⟩).heap.modify 2 fun
      | .cells _ t frozen => .cells #[.int .u8 0, .int .u8 1, .int .u8 56, .int .u8 2, .int .u8 57, .int .u8 49, .int .u8 28, .int .u8 3, .int .u8 61, .int .u8 58, .int .u8 42, .int .u8 50, .int .u8 38, .int .u8 29, .int .u8 17, .int .u8 4, .int .u8 62, .int .u8 47, .int .u8 59, .int .u8 36, .int .u8 45, .int .u8 43, .int .u8 51, .int .u8 22, .int .u8 53, .int .u8 39, .int .u8 33, .int .u8 30, .int .u8 24, .int .u8 18, .int .u8 12, .int .u8 5, .int .u8 63, .int .u8 55, .int .u8 48, .int .u8 27, .int .u8 60, .int .u8 41, .int .u8 37, .int .u8 16, .int .u8 46, .int .u8 35, .int .u8 44, .int .u8 21, .int .u8 52, .int .u8 32, .int .u8 23, .int .u8 11, .int .u8 54, .int .u8 26, .int .u8 40, .int .u8 15, .int .u8 34, .int .u8 20, .int .u8 31, .int .u8 10, .int .u8 25, .int .u8 14, .int .u8 19, .int .u8 9, .int .u8 13, .int .u8 8, .int .u8 7, .int .u8 6] t frozen
      | o => o }
end Go.Proofs.YtjmaggfddinbkaaGreatDoor.Base
end

section
namespace Go.Proofs.YtjmaggfddinbkaaGreatDoor.eftSigns
open Go.ChangeShapes Go.WideShapes Go.ChangeAt Go.RowKit
set_option maxRecDepth 100000 in
theorem contract (H : Type) (enc : TypeId × Value → H) (W : World) (base : Nat) (args : Array Value) (ds gs : List (DataW H)) (before : List MemPlace)
    (hval : ∀ (j : Nat) t v, Tryz.f4.params[j]? = some t → args[j]? = some v → Value.okWide Tryz.prog W .any base t v)
    (hW : DataW.Whole enc Tryz.prog Tryz.f4.params.toList Rows.eftSignsSpec.vars false W args.toList ds gs before) (hL : laidMetH Tryz.prog Rows.eftSignsRow.laid W) :
    Calls Tryz.prog 4 args W fun e W' => ∃ v, e = .returned v ∧ Rows.eftSignsSpec.post enc Tryz.prog Tryz.f4 false true false false W args v W' := by
  have hW' := hW
  obtain ⟨p, q, hA0, hV, rfl, hfz, hnd⟩ := hW
  have hA : DataW.TrodAll enc Tryz.prog W 0 (fun _ => true) true Tryz.f4.params.toList args.toList ds p := hA0
  rw [Tryz.params4] at hA hval
  obtain ⟨v0, vs0, d0, ds0, p0, q0, hargs, rfl, rfl, h0, r0⟩ := trodAll_cons hA
  obtain ⟨v1, vs1, d1, ds1, p1, q1, rfl, rfl, rfl, h1, r1⟩ := trodAll_cons r0
  obtain ⟨v2, vs2, d2, ds2, p2, q2, rfl, rfl, rfl, h2, r2⟩ := trodAll_cons r1
  obtain ⟨v3, vs3, d3, ds3, p3, q3, rfl, rfl, rfl, h3, r3⟩ := trodAll_cons r2
  obtain ⟨v4, vs4, d4, ds4, p4, q4, rfl, rfl, rfl, h4, r4⟩ := trodAll_cons r3
  obtain ⟨v5, vs5, d5, ds5, p5, q5, rfl, rfl, rfl, h5, r5⟩ := trodAll_cons r4
  obtain ⟨rfl, rfl, rfl⟩ := trodAll_nil r5
  obtain rfl : args = #[v0, v1, v2, v3, v4, v5] := by cases args; simp_all
  obtain ⟨rfl, rfl⟩ := trodVars_none hV
  obtain ⟨n0, rfl, rfl, rfl, w0⟩ := open_int Tryz.underlying23 (hval 0 23 v0 rfl rfl) h0
  obtain ⟨a0, rfl, ha0⟩ := Base.nat_of_u64 w0
  obtain ⟨n1, rfl, rfl, rfl, w1⟩ := open_int Tryz.underlying23 (hval 1 23 v1 rfl rfl) h1
  obtain ⟨a1, rfl, ha1⟩ := Base.nat_of_u64 w1
  obtain ⟨n2, rfl, rfl, rfl, w2⟩ := open_int Tryz.underlying23 (hval 2 23 v2 rfl rfl) h2
  obtain ⟨a2, rfl, ha2⟩ := Base.nat_of_u64 w2
  obtain ⟨n3, rfl, rfl, rfl, w3⟩ := open_int Tryz.underlying23 (hval 3 23 v3 rfl rfl) h3
  obtain ⟨a3, rfl, ha3⟩ := Base.nat_of_u64 w3
  obtain ⟨n4, rfl, rfl, rfl, w4⟩ := open_int Tryz.underlying23 (hval 4 23 v4 rfl rfl) h4
  obtain ⟨a4, rfl, ha4⟩ := Base.nat_of_u64 w4
  obtain ⟨n5, rfl, rfl, rfl, w5⟩ := open_int Tryz.underlying23 (hval 5 23 v5 rfl rfl) h5
  obtain ⟨a5, rfl, ha5⟩ := Base.nat_of_u64 w5
  clear hA0
  simp only [List.append_nil] at hW'
  refine (signs_law a0 a1 a2 a3 a4 a5 ha0 ha1 ha2 ha3 ha4 ha5 W (Base.tab hL)).mono fun e W' ⟨he, bel⟩ => ?_
  subst he
  exact ⟨_, rfl, _, _, _, [], _, [], hW', trodAll_mk1 (shut_bool Tryz.underlying4 _), (trodAll_cons_mk (shut_int Tryz.underlying23 w0) (trodAll_cons_mk (shut_int Tryz.underlying23 w1) (trodAll_cons_mk (shut_int Tryz.underlying23 w2) (trodAll_cons_mk (shut_int Tryz.underlying23 w3) (trodAll_cons_mk (shut_int Tryz.underlying23 w4) (trodAll_cons_mk (shut_int Tryz.underlying23 w5) trodAll_mk0)))))), rfl, Below.frame bel _, fun h => by cases h⟩
theorem laid_met (os : Os) : laidMet Tryz.prog Rows.eftSignsRow.laid ((Base.laidWorld os).forCall (fun _ _ => 0) ⟨#[], #[Value.int .u64 0, Value.int .u64 0, Value.int .u64 0, Value.int .u64 0, Value.int .u64 0, Value.int .u64 0], []⟩).memory :=
  laidMet_of_run' 8 (by kernel_rfl) (by kernel_rfl)
theorem reads (os : Os) {H : Type} (enc : TypeId × Value → H) : ∃ places, DataW.whole enc Tryz.prog ((Base.laidWorld os).forCall (fun _ _ => 0) ⟨#[], #[Value.int .u64 0, Value.int .u64 0, Value.int .u64 0, Value.int .u64 0, Value.int .u64 0, Value.int .u64 0], []⟩).memory Tryz.f4.params.toList Rows.eftSignsSpec.vars false (#[Value.int .u64 0, Value.int .u64 0, Value.int .u64 0, Value.int .u64 0, Value.int .u64 0, Value.int .u64 0] : Array Value).toList 8 = some ([.lit (.int .u64 0), .lit (.int .u64 0), .lit (.int .u64 0), .lit (.int .u64 0), .lit (.int .u64 0), .lit (.int .u64 0)], [], places) :=
  ⟨[], by kernel_rfl⟩
set_option maxRecDepth 100000 in
theorem lifted (os : Os) (started : os.Started) (H : Type) (enc : TypeId × Value → H) (F : Stop.Interp) :
    ReturnsInHanded {} Tryz.checked os 4 .any ((OpenSpec.ofChange Rows.eftSignsSpec).preRow enc Tryz.prog Tryz.f4 Rows.eftSignsRow.domain false Rows.eftSignsRow.laid) (((OpenSpec.ofChange Rows.eftSignsSpec).at F).post enc Tryz.prog Tryz.f4 false true false false) := by
  obtain ⟨places, hx⟩ := reads os enc
  refine returnsInHanded_of_row (C := Tryz.checked) (s := OpenSpec.ofChange Rows.eftSignsSpec) Base.own started (by kernel_rfl) Tryz.func4
    (witness_row_at (enc := enc) (C := Tryz.checked) false (Base.laidWorld os) #[Value.int .u64 0, Value.int .u64 0, Value.int .u64 0, Value.int .u64 0, Value.int .u64 0, Value.int .u64 0] rfl (by kernel_rfl) (by kernel_rfl) (by kernel_rfl)
      (OpenSpec.preRow_of_cond 8 hx (by kernel_rfl) (fun k hk => by cases hk) (by kernel_rfl) (laid_met os))) ?_
  intro W base args ds gs before hval hW _ _ _ hL _ _
  exact contract H enc W base args ds gs before hval hW hL
theorem said : Rows.EftSignsSaid :=
  OpenClaim.holds_of_cond 4 Tryz.f4 rfl rfl rfl rfl rfl rfl rfl ⟨rfl, rfl, rfl, rfl, rfl⟩ rfl rfl rfl rfl rfl (by kernel_rfl) Tryz.func4 (by kernel_rfl)
    (of_decide_eq_true (by kernel_rfl)) (by unfold Func.isWrapper; first | (rw [if_pos (by decide +kernel)]; kernel_rfl) | (rw [if_neg (by decide +kernel)]; exact ⟨rfl, rfl⟩))
    (fun os started H enc _ F => by rw [OpenClaim.pre_eq_preRow]; exact lifted os started H enc F)
theorem plain (f : FuncId) (fn : Func) (hf : Tryz.pinned.checked.prog.funcNamed "binnacle/binnaclelaw04.EftSigns" = some f) (hfn : Tryz.pinned.checked.prog.funcs[f]? = some fn) :
    false = Tryz.pinned.checked.prog.looks [] ∧ ∀ (j : Nat) t, fn.params[j]? = some t → Tryz.pinned.checked.prog.wantsStandIn t = false := by
  obtain rfl : f = 4 := Option.some.inj ((show Tryz.prog.funcNamed "binnacle/binnaclelaw04.EftSigns" = some 4 by kernel_rfl).symm.trans hf) |>.symm
  obtain rfl : fn = Tryz.f4 := (Option.some.inj (Tryz.func4.symm.trans hfn)).symm
  refine ⟨by kernel_rfl, fun j t ht => ?_⟩
  rw [Tryz.params4] at ht
  have hm := Array.mem_of_getElem? ht
  have hm' : t = 23 := by simpa using hm
  subst hm'
  exact (show Tryz.prog.wantsStandIn 23 = false by kernel_rfl)
theorem card : Rows.EftSignsCardSaid :=
  Claim7.holds_tied_plain_at .later [] _ _ _ _ said (fun _ h => by cases h) (by kernel_rfl) (fun _ h => by cases h) eftSigns_row_tie rfl ⟨rfl, rfl⟩ (by kernel_rfl) rfl plain (by kernel_rfl)
#print axioms card
end Go.Proofs.YtjmaggfddinbkaaGreatDoor.eftSigns
end
