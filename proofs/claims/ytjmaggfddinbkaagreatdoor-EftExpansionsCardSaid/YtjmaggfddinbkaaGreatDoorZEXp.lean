/- The card of EftExpansions: whatever the input, the call returns true and the input reads as it did; the format holds what the program's text lays. -/
import Derived.Test.YtjmaggfddinbkaaGreatDoorRows
import Derived.WalkKit
import Derived.WalkSpells
import Derived.WalkLawsBesides
import Derived.BigQuiet
import Derived.Lib.Hide
import Derived.Deep.OwnRows
import Derived.OwnWalk
import Derived.LoopTactic
import Derived.Outline
import Derived.IntWalk
import Derived.OrdersHeld
import Derived.StillTail
import Derived.Deep.RegionHeld3
import Derived.Maps.AppendAt
import Derived.Deep.QuietTactic
import Derived.Deep.DeepCutAuto
import Derived.Shelf.Bits.Mul64
import Derived.Laws.Externs
import Derived.Deep.RegionWith
import Ieee.Arith
import Derived.Lib.TrailingZeros
import Derived.Lib.BitFns
import Derived.Lib.Strings
import Derived.Lib.Slices
import Derived.Lib.Small
import Derived.Lib.Walk
import Derived.Deep.AppendLies
import Derived.Deep.Draws
import Derived.Laws.OwnMore
import Derived.Test.YtjmaggfddinbkaaGreatDoorCards
import Derived.Test.YtjmaggfddinbkaaGreatDoorTie
import Derived.ProofKit
import Derived.OpenShut
import Derived.ShutString
import Derived.ChangeOld
import Derived.Below
import Derived.Deep.DeepHandedRow
import Derived.Lib.LaidTab
import Derived.ChangeSlices
import Derived.Carry
import Derived.SizedLaws
import Derived.Deep.Strs
import Derived.Lib.SmallJoins
import Derived.Test.YtjmaggfddinbkaaGreatDoorZEXp3
set_option linter.unusedVariables false
set_option linter.unusedSimpArgs false
section
namespace Go.Proofs.YtjmaggfddinbkaaGreatDoor
open Go.RowKit
set_option maxRecDepth 100000 in
set_option maxHeartbeats 600000 in
theorem Xpower (E : Int) (w : World) : Calls Tryz.prog 61 #[.int .i64 E] w (ExR w 1 E) := by
  have CN := Lib.hid (fun w => BnewInt 1 (by decide) (by decide) w)
  go_enter Tryz.func61, Tryz.ntmps61
  go_wp2_with fail
  refine (CN.out _).mono ?_; rintro e1 w1 ⟨h, rfl, hI, hg, hb1⟩
  have hz5 : w1.heap[w.heap.size]? = some (.cells #[.pointer none, .int .i64 0] 53 (0, 0)) := (hb1.block _ (by simp)).trans (heap_alloc_new w _)
  obtain ⟨y0, y1, yf⟩ := ex_cells hz5
  have yl : w.heap.size < w1.heap.size := World.block_lt_of_cell? _ _ y0
  have hne : h ≠ w.heap.size := by have : (w.alloc (.cells #[.pointer none, .int .i64 0] 53)).heap.size ≤ h := hg; simp at this; omega
  obtain ⟨r0, r1, rI⟩ := ex_set (E := E) hz5 hI hne
  go_wp2
  refine bodyPost_ret (v := .agg #[.pointer (some ⟨h, 0, none⟩), .int .i64 E]) (by simp [results, Tryz.results61, go_sem, r0, r1, yl]) rfl ⟨h, rfl, rI, (by have : (w.alloc (.cells #[.pointer none, .int .i64 0] 53)).heap.size ≤ h := hg; simp at this; omega), ?_⟩
  exact ((((Within.refl w).alloc _).trans hb1).setCell (by show _ ≤ w.heap.size; omega) _).setCell (by show _ ≤ w.heap.size; omega) _
set_option maxRecDepth 100000 in
set_option maxHeartbeats 600000 in
theorem Rlast (b : Nat) (hb : b < 18446744073709551616) (w : World) : Calls Tryz.prog 77 #[.float .f64 b] w fun e w' => e = .returned (.int .i64 (pExpD b)) ∧ Within w w' := by
  have CP := Lib.hid (fun w => Rparts_D b hb w)
  clear hb
  obtain ⟨p, hp⟩ : ∃ p, p = pExpD b := ⟨_, rfl⟩
  rw [← hp] at CP ⊢
  clear hp
  go_enter Tryz.func77, Tryz.ntmps77
  go_wp2_with fail
  refine (CP.out _).mono ?_; rintro e1 w1 ⟨rfl, hb1⟩
  go_wp2
  go_ret
  exact ⟨rfl, (by repeat (first | with_reducible exact Within.refl _ | with_reducible assumption | with_reducible refine Within.alloc ?_ _ | with_reducible refine Within.drew ?_ | with_reducible refine Within.drewN ?_ _ | with_reducible refine Within.setCell ?_ (by first | (simp; done) | (simp; omega)) _ | with_reducible refine Within.trans ?_ (by assumption)))⟩
set_option maxRecDepth 100000 in
set_option maxHeartbeats 600000 in
theorem rgood_fin (A : Option Addr) (c : Nat) (es : List Nat) (hw : Words64 es) (hl : es.length ≤ 1152921504606846976) (hf : es.all finD = false) (w : World) (hr : SlAt w A (f64v es)) : Calls Tryz.prog 18 #[.slice A es.length c] w fun e w' => e = .returned (.int .i64 (4)) ∧ Within w w' := by
  have CF := Lib.hid (fun w hr => RallFinite_any A c es hw hl w hr)
  rw [hf] at CF
  have HR := Lib.hid hr; clear hw hr hf
  go_enter Tryz.func18, Tryz.ntmps18
  go_wp2_with fail
  refine (CF.out _ HR.out).mono ?_; rintro e1 w1 ⟨rfl, hb1⟩
  go_wp2
  go_ret
  exact ⟨rfl, (by repeat (first | with_reducible exact Within.refl _ | with_reducible assumption | with_reducible refine Within.alloc ?_ _ | with_reducible refine Within.drew ?_ | with_reducible refine Within.drewN ?_ _ | with_reducible refine Within.setCell ?_ (by first | (simp; done) | (simp; omega)) _ | with_reducible refine Within.trans ?_ (by assumption)))⟩
set_option maxRecDepth 100000 in
set_option maxHeartbeats 600000 in
theorem rgood_long (A : Option Addr) (c : Nat) (es : List Nat) (hw : Words64 es) (hl : es.length ≤ 1152921504606846976) (hf : es.all finD = true) (h64 : 64 < es.length) (w : World) (hr : SlAt w A (f64v es)) : Calls Tryz.prog 18 #[.slice A es.length c] w fun e w' => e = .returned (.int .i64 (2)) ∧ Within w w' := by
  have CF := Lib.hid (fun w hr => RallFinite_any A c es hw hl w hr)
  rw [hf] at CF
  have d : decide ((es.length : Int) > 64) = true := decide_eq_true (by omega)
  have HR := Lib.hid hr; clear hw hr hf
  go_enter Tryz.func18, Tryz.ntmps18
  go_wp2_with fail
  refine (CF.out _ HR.out).mono ?_; rintro e1 w1 ⟨rfl, hb1⟩
  go_wp2
  go_ret
  exact ⟨rfl, (by repeat (first | with_reducible exact Within.refl _ | with_reducible assumption | with_reducible refine Within.alloc ?_ _ | with_reducible refine Within.drew ?_ | with_reducible refine Within.drewN ?_ _ | with_reducible refine Within.setCell ?_ (by first | (simp; done) | (simp; omega)) _ | with_reducible refine Within.trans ?_ (by assumption)))⟩
theorem geq_cmp {x y : Nat} (hy : y < 18446744073709551616) (fy : y % 9223372036854775808 < 9218868437227405312) {n E : Int} (hv : valE n E 1074 = P64.wholeI y) :
    decide ((valE (n.natAbs : Int) E 1074 - valE 1 (pExpD x) 1074).sign ≥ 0) = !lowB y x := by
  have h1 : valE (n.natAbs : Int) E 1074 = ((Fp.un Ieee.double y).natAbs : Int) := by
    rw [← whole_un hy fy, ← hv]
    unfold valE
    rw [Int.natAbs_mul, Int.natAbs_pow, Int.natCast_mul, Int.natCast_pow]
    rfl
  have h2 : valE 1 (pExpD x) 1074 = ((2 ^ (pExpD x + 1074).toNat : Nat) : Int) := by
    unfold valE
    rw [Int.one_mul, cast_pow]; rfl
  rw [h1, h2]
  unfold lowB
  generalize (2 ^ (pExpD x + 1074).toNat : Nat) = P
  by_cases h : (Fp.un Ieee.double y).natAbs < P
  · rw [decide_eq_true h, Int.sign_eq_neg_one_of_neg (by omega)]; rfl
  · rw [decide_eq_false h]
    refine decide_eq_true ?_
    have : (0 : Int) ≤ ((Fp.un Ieee.double y).natAbs : Int) - (P : Int) := by omega
    rcases Int.lt_or_eq_of_le this with g | g
    · rw [Int.sign_eq_one_of_pos g]; decide
    · rw [← g]; decide
set_option maxRecDepth 100000 in
set_option maxHeartbeats 600000 in
theorem rgood_main (A : Option Addr) (c : Nat) (es : List Nat) (hw : Words64 es) (hl : es.length ≤ 1152921504606846976) (hf : es.all finD = true) (h64 : es.length ≤ 64) (v : Int) (hv1 : isB es = false → v = 40) (hv2 : isB es = true → v = 0) (w : World) (hr : SlAt w A (f64v es)) : Calls Tryz.prog 18 #[.slice A es.length c] w fun e w' => e = .returned (.int .i64 (v)) ∧ Within w w' := by
  have d : decide ((es.length : Int) > 64) = false := decide_eq_false (by omega)
  have CF := Lib.hid (fun w hr => RallFinite_any A c es hw hl w hr)
  rw [hf] at CF
  have HW := Lib.hid hw; have HR := Lib.hid hr; have HF := Lib.hid hf; have H64 := Lib.hid h64; have HV := Lib.hid (And.intro hv1 hv2); clear hw hr hf hv1 hv2
  go_enter Tryz.func18, Tryz.ntmps18
  go_wp2_with fail
  refine (CF.out _ HR.out).mono ?_; rintro e1 w1 ⟨rfl, hb1⟩
  go_wp2
  go_loopw [3] (fun iv wr => ∃ k : Nat, k ≤ es.length ∧ iv = .int .i64 (k : Int) ∧ (∀ j, j < k → okAt es j = true) ∧ Within w wr) (fun iv _ => es.length - (intOf iv).toNat)
  case atStart => exact ⟨0, Nat.zero_le _, rfl, fun j hj => absurd hj (Nat.not_lt_zero _), hb1⟩
  case round =>
    obtain ⟨k, hk, rfl, hok, hin⟩ := hrel
    have HOK := Lib.hid hok; clear hok
    by_cases hlt : k < es.length
    · obtain ⟨ad, hA, hblk, hc⟩ := (HR.out.of hin).at hlt
      have fx := fin_at HW.out HF.out hlt
      have hx64 := HW.out.at hlt
      obtain ⟨x, hx⟩ : ∃ x, x = es.getD k 0 := ⟨_, rfl⟩
      rw [← hx] at hc fx hx64
      by_cases h0 : x % 9223372036854775808 = 0
      · have hz : (FloatKind.f64.format.order x 0 == some .eq) = true := by rw [c_zero, decide_eq_true h0]
        have NO := Lib.hid (HV.out.1 (isB_no hlt (by unfold okAt; rw [← hx, decide_eq_false (by omega)]; rfl)))
        subst hA
        have cx := hc
        clear hc fx hx64 hx h0
        go_wp2
        go_region
        go_wp2
        go_ret
        exact ⟨(by rw [NO.out]; first | done | rfl), (by repeat (first | with_reducible exact Within.refl _ | with_reducible assumption | with_reducible refine Within.alloc ?_ _ | with_reducible refine Within.drew ?_ | with_reducible refine Within.drewN ?_ _ | with_reducible refine Within.setCell ?_ (by first | (simp; done) | (simp; omega)) _ | with_reducible refine Within.trans ?_ (by assumption)))⟩
      · have hz : (FloatKind.f64.format.order x 0 == some .eq) = false := by rw [c_zero, decide_eq_false h0]
        rcases k with _ | j
        · have OKN := Lib.hid (show ∀ j, j < 0 + 1 → okAt es j = true by
            intro j hj
            have : j = 0 := by omega
            subst this
            unfold okAt
            rw [← hx, decide_eq_true (by omega)]; rfl)
          subst hA
          have cx : wr.cell? ad = some (.float .f64 x) := hc
          clear hc fx hx64 hx h0
          go_wp2
          go_region
          go_wp2
          go_roundw
          case rel => exact ⟨0 + 1, hlt, by go_num, OKN.out, (by repeat (first | with_reducible exact Within.refl _ | with_reducible assumption | with_reducible refine Within.alloc ?_ _ | with_reducible refine Within.drew ?_ | with_reducible refine Within.drewN ?_ _ | with_reducible refine Within.setCell ?_ (by first | (simp; done) | (simp; omega)) _ | with_reducible refine Within.trans ?_ (by assumption)))⟩
          case measure => simp [intOf]; omega
        · obtain ⟨ad', hA', _, hc'⟩ := (HR.out.of hin).at (k := j) (by omega)
          have ead : ad = ad' := by rw [hA] at hA'; injection hA' with h
          subst ead
          have fy := fin_at HW.out HF.out (k := j) (by omega)
          have hy64 := HW.out.at (k := j) (by omega)
          obtain ⟨y, hy⟩ : ∃ y, y = es.getD j 0 := ⟨_, rfl⟩
          rw [← hy] at hc' fy hy64
          have CO := Lib.hid (fun w => XofW y hy64 w)
          have CL := Lib.hid (fun w => Rlast x hx64 w)
          have GE := Lib.hid (fun (n E : Int) (hv : valE n E 1074 = P64.wholeI y) => geq_cmp (x := x) hy64 fy hv)
          have PR := Lib.hid (P64.pExpD_range x)
          obtain ⟨p, hp⟩ : ∃ p, p = pExpD x := ⟨_, rfl⟩
          rw [← hp] at CL GE PR
          clear hp
          have e9 : IntKind.i64.wrap (((j + 1 : Nat) : Int) - 1) = (j : Int) := by rw [IntWalk.i64_in _ (by omega)]; omega
          have e8 : decide (((j + 1 : Nat) : Int) > 0) = true := decide_eq_true (by omega)
          have e8' : decide ((j : Int) + 1 > 0) = true := decide_eq_true (by omega)
          have HIN := Lib.hid hin; clear hin
          subst hA
          have cx := hc
          have cy := hc'
          clear hc hc' hA' fx fy hx64 hy64
          obtain ⟨k, hke⟩ : ∃ k, k = j + 1 := ⟨_, rfl⟩
          cases hlb : lowB y x
          · rw [hlb] at GE
            have NO := Lib.hid (HV.out.1 (isB_no hlt (by unfold okAt; rw [← hx, Nat.add_sub_cancel, ← hy, hlb, decide_eq_false (Nat.succ_ne_zero j)]; simp)))
            clear hlb hx hy h0
            rw [← hke] at hlt cx e8 e9 ⊢
            have hjl : j < es.length := by omega
            have hk0 : 0 < k := by omega
            have HKE := Lib.hid hke; clear hke e8'
            go_wp2
            refine wp_region_schG (fun W => W.cell? (ad.add k) = some (.float .f64 x) ∧ W.cell? (ad.add j) = some (.float .f64 y) ∧ ad.block < W.heap.size ∧ Within w W) 25 (.firm 0 (.firm 1 (.firm 2 (.firm 3 (.firm 4 (.firm 5 (.firm 6 (.firm 7 (.firm 8 (.firm 9 (.firm 10 (.firm 11 (.firm 12 (.firm 13 (.firm 16 (.firm 17 (.firm 18 (.firm 19 (.one 14 (.one 15 (.one 20 (.one 21 (.one 22 (.firm 23 (.firm 24 (.one 25 .nil)))))))))))))))))))))))))) (by kernel_rfl) (by kernel_rfl) ⟨cx, cy, hblk, HIN.out⟩ ?_
            rintro w0 ⟨cx, cy, hblk, hw0⟩
            try simp only [Act.put, List.setIfInBounds_toArray, List.set_cons_zero, List.set_cons_succ]
            apply sch_firm rfl rfl (by repeat (first | with_reducible exact Within.refl _ | with_reducible assumption | with_reducible refine Within.alloc ?_ _ | with_reducible refine Within.drew ?_ | with_reducible refine Within.drewN ?_ _ | with_reducible refine Within.setCell ?_ (by first | (simp; done) | (simp; omega)) _ | with_reducible refine Within.trans ?_ (by assumption)))
            · intro wq hq
              have hcq := hq.cells
              have gx := (hq.cell (p := ad.add k) (by rw [add_block]; exact hblk)).trans cx
              have gxb := Nat.lt_of_lt_of_le hblk hq.size
              have gy := (hq.cell (p := ad.add j) (by rw [add_block]; exact hblk)).trans cy
              clear hq
              go_simp
              first | rfl | (trace_state; fail)
            try simp only [Act.put, List.setIfInBounds_toArray, List.set_cons_zero, List.set_cons_succ]
            apply sch_firm rfl rfl (by repeat (first | with_reducible exact Within.refl _ | with_reducible assumption | with_reducible refine Within.alloc ?_ _ | with_reducible refine Within.drew ?_ | with_reducible refine Within.drewN ?_ _ | with_reducible refine Within.setCell ?_ (by first | (simp; done) | (simp; omega)) _ | with_reducible refine Within.trans ?_ (by assumption)))
            · intro wq hq
              have hcq := hq.cells
              have gx := (hq.cell (p := ad.add k) (by rw [add_block]; exact hblk)).trans cx
              have gxb := Nat.lt_of_lt_of_le hblk hq.size
              have gy := (hq.cell (p := ad.add j) (by rw [add_block]; exact hblk)).trans cy
              clear hq
              go_simp
              first | rfl | (trace_state; fail)
            try simp only [Act.put, List.setIfInBounds_toArray, List.set_cons_zero, List.set_cons_succ]
            apply sch_firm rfl rfl (by repeat (first | with_reducible exact Within.refl _ | with_reducible assumption | with_reducible refine Within.alloc ?_ _ | with_reducible refine Within.drew ?_ | with_reducible refine Within.drewN ?_ _ | with_reducible refine Within.setCell ?_ (by first | (simp; done) | (simp; omega)) _ | with_reducible refine Within.trans ?_ (by assumption)))
            · intro wq hq
              have hcq := hq.cells
              have gx := (hq.cell (p := ad.add k) (by rw [add_block]; exact hblk)).trans cx
              have gxb := Nat.lt_of_lt_of_le hblk hq.size
              have gy := (hq.cell (p := ad.add j) (by rw [add_block]; exact hblk)).trans cy
              clear hq
              go_simp
              first | rfl | (trace_state; fail)
            try simp only [Act.put, List.setIfInBounds_toArray, List.set_cons_zero, List.set_cons_succ]
            apply sch_firm rfl rfl (by repeat (first | with_reducible exact Within.refl _ | with_reducible assumption | with_reducible refine Within.alloc ?_ _ | with_reducible refine Within.drew ?_ | with_reducible refine Within.drewN ?_ _ | with_reducible refine Within.setCell ?_ (by first | (simp; done) | (simp; omega)) _ | with_reducible refine Within.trans ?_ (by assumption)))
            · intro wq hq
              have hcq := hq.cells
              have gx := (hq.cell (p := ad.add k) (by rw [add_block]; exact hblk)).trans cx
              have gxb := Nat.lt_of_lt_of_le hblk hq.size
              have gy := (hq.cell (p := ad.add j) (by rw [add_block]; exact hblk)).trans cy
              clear hq
              go_simp
              first | rfl | (trace_state; fail)
            try simp only [Act.put, List.setIfInBounds_toArray, List.set_cons_zero, List.set_cons_succ]
            apply sch_firm rfl rfl (by repeat (first | with_reducible exact Within.refl _ | with_reducible assumption | with_reducible refine Within.alloc ?_ _ | with_reducible refine Within.drew ?_ | with_reducible refine Within.drewN ?_ _ | with_reducible refine Within.setCell ?_ (by first | (simp; done) | (simp; omega)) _ | with_reducible refine Within.trans ?_ (by assumption)))
            · intro wq hq
              have hcq := hq.cells
              have gx := (hq.cell (p := ad.add k) (by rw [add_block]; exact hblk)).trans cx
              have gxb := Nat.lt_of_lt_of_le hblk hq.size
              have gy := (hq.cell (p := ad.add j) (by rw [add_block]; exact hblk)).trans cy
              clear hq
              go_simp
              first | rfl | (trace_state; fail)
            try simp only [Act.put, List.setIfInBounds_toArray, List.set_cons_zero, List.set_cons_succ]
            apply sch_firm rfl rfl (by repeat (first | with_reducible exact Within.refl _ | with_reducible assumption | with_reducible refine Within.alloc ?_ _ | with_reducible refine Within.drew ?_ | with_reducible refine Within.drewN ?_ _ | with_reducible refine Within.setCell ?_ (by first | (simp; done) | (simp; omega)) _ | with_reducible refine Within.trans ?_ (by assumption)))
            · intro wq hq
              have hcq := hq.cells
              have gx := (hq.cell (p := ad.add k) (by rw [add_block]; exact hblk)).trans cx
              have gxb := Nat.lt_of_lt_of_le hblk hq.size
              have gy := (hq.cell (p := ad.add j) (by rw [add_block]; exact hblk)).trans cy
              clear hq
              go_simp
              first | rfl | (trace_state; fail)
            try simp only [Act.put, List.setIfInBounds_toArray, List.set_cons_zero, List.set_cons_succ]
            apply sch_want rfl (by first | rfl | decide | (simp [Region.wanted, yielded]; done) | (simp [Region.wanted, yielded]; assumption)) (by repeat (first | with_reducible exact Within.refl _ | with_reducible assumption | with_reducible refine Within.alloc ?_ _ | with_reducible refine Within.drew ?_ | with_reducible refine Within.drewN ?_ _ | with_reducible refine Within.setCell ?_ (by first | (simp; done) | (simp; omega)) _ | with_reducible refine Within.trans ?_ (by assumption)))
            · intro wq hq
              have hcq := hq.cells
              have gx := (hq.cell (p := ad.add k) (by rw [add_block]; exact hblk)).trans cx
              have gxb := Nat.lt_of_lt_of_le hblk hq.size
              have gy := (hq.cell (p := ad.add j) (by rw [add_block]; exact hblk)).trans cy
              clear hq
              go_simp
              first | rfl | (trace_state; fail)
            try simp only [Act.put, List.setIfInBounds_toArray, List.set_cons_zero, List.set_cons_succ]
            apply sch_want rfl (by first | rfl | decide | (simp [Region.wanted, yielded]; done) | (simp [Region.wanted, yielded]; assumption)) (by repeat (first | with_reducible exact Within.refl _ | with_reducible assumption | with_reducible refine Within.alloc ?_ _ | with_reducible refine Within.drew ?_ | with_reducible refine Within.drewN ?_ _ | with_reducible refine Within.setCell ?_ (by first | (simp; done) | (simp; omega)) _ | with_reducible refine Within.trans ?_ (by assumption)))
            · intro wq hq
              have hcq := hq.cells
              have gx := (hq.cell (p := ad.add k) (by rw [add_block]; exact hblk)).trans cx
              have gxb := Nat.lt_of_lt_of_le hblk hq.size
              have gy := (hq.cell (p := ad.add j) (by rw [add_block]; exact hblk)).trans cy
              clear hq
              go_simp
              first | rfl | (trace_state; fail)
            try simp only [Act.put, List.setIfInBounds_toArray, List.set_cons_zero, List.set_cons_succ]
            apply sch_want rfl (by first | rfl | decide | (simp [Region.wanted, yielded]; done) | (simp [Region.wanted, yielded]; assumption)) (by repeat (first | with_reducible exact Within.refl _ | with_reducible assumption | with_reducible refine Within.alloc ?_ _ | with_reducible refine Within.drew ?_ | with_reducible refine Within.drewN ?_ _ | with_reducible refine Within.setCell ?_ (by first | (simp; done) | (simp; omega)) _ | with_reducible refine Within.trans ?_ (by assumption)))
            · intro wq hq
              have hcq := hq.cells
              have gx := (hq.cell (p := ad.add k) (by rw [add_block]; exact hblk)).trans cx
              have gxb := Nat.lt_of_lt_of_le hblk hq.size
              have gy := (hq.cell (p := ad.add j) (by rw [add_block]; exact hblk)).trans cy
              clear hq
              go_simp
              first | rfl | (trace_state; fail)
            try simp only [Act.put, List.setIfInBounds_toArray, List.set_cons_zero, List.set_cons_succ]
            apply sch_want rfl (by first | rfl | decide | (simp [Region.wanted, yielded]; done) | (simp [Region.wanted, yielded]; assumption)) (by repeat (first | with_reducible exact Within.refl _ | with_reducible assumption | with_reducible refine Within.alloc ?_ _ | with_reducible refine Within.drew ?_ | with_reducible refine Within.drewN ?_ _ | with_reducible refine Within.setCell ?_ (by first | (simp; done) | (simp; omega)) _ | with_reducible refine Within.trans ?_ (by assumption)))
            · intro wq hq
              have hcq := hq.cells
              have gx := (hq.cell (p := ad.add k) (by rw [add_block]; exact hblk)).trans cx
              have gxb := Nat.lt_of_lt_of_le hblk hq.size
              have gy := (hq.cell (p := ad.add j) (by rw [add_block]; exact hblk)).trans cy
              clear hq
              go_simp
              first | rfl | (trace_state; fail)
            try simp only [Act.put, List.setIfInBounds_toArray, List.set_cons_zero, List.set_cons_succ]
            apply sch_want rfl (by first | rfl | decide | (simp [Region.wanted, yielded]; done) | (simp [Region.wanted, yielded]; assumption)) (by repeat (first | with_reducible exact Within.refl _ | with_reducible assumption | with_reducible refine Within.alloc ?_ _ | with_reducible refine Within.drew ?_ | with_reducible refine Within.drewN ?_ _ | with_reducible refine Within.setCell ?_ (by first | (simp; done) | (simp; omega)) _ | with_reducible refine Within.trans ?_ (by assumption)))
            · intro wq hq
              have hcq := hq.cells
              have gx := (hq.cell (p := ad.add k) (by rw [add_block]; exact hblk)).trans cx
              have gxb := Nat.lt_of_lt_of_le hblk hq.size
              have gy := (hq.cell (p := ad.add j) (by rw [add_block]; exact hblk)).trans cy
              clear hq
              go_simp
              first | rfl | (trace_state; fail)
            try simp only [Act.put, List.setIfInBounds_toArray, List.set_cons_zero, List.set_cons_succ]
            apply sch_want rfl (by first | rfl | decide | (simp [Region.wanted, yielded]; done) | (simp [Region.wanted, yielded]; assumption)) (by repeat (first | with_reducible exact Within.refl _ | with_reducible assumption | with_reducible refine Within.alloc ?_ _ | with_reducible refine Within.drew ?_ | with_reducible refine Within.drewN ?_ _ | with_reducible refine Within.setCell ?_ (by first | (simp; done) | (simp; omega)) _ | with_reducible refine Within.trans ?_ (by assumption)))
            · intro wq hq
              have hcq := hq.cells
              have gx := (hq.cell (p := ad.add k) (by rw [add_block]; exact hblk)).trans cx
              have gxb := Nat.lt_of_lt_of_le hblk hq.size
              have gy := (hq.cell (p := ad.add j) (by rw [add_block]; exact hblk)).trans cy
              clear hq
              go_simp
              first | rfl | (trace_state; fail)
            try simp only [Act.put, List.setIfInBounds_toArray, List.set_cons_zero, List.set_cons_succ]
            apply sch_want rfl (by first | rfl | decide | (simp [Region.wanted, yielded]; done) | (simp [Region.wanted, yielded]; assumption)) (by repeat (first | with_reducible exact Within.refl _ | with_reducible assumption | with_reducible refine Within.alloc ?_ _ | with_reducible refine Within.drew ?_ | with_reducible refine Within.drewN ?_ _ | with_reducible refine Within.setCell ?_ (by first | (simp; done) | (simp; omega)) _ | with_reducible refine Within.trans ?_ (by assumption)))
            · intro wq hq
              have hcq := hq.cells
              have gx := (hq.cell (p := ad.add k) (by rw [add_block]; exact hblk)).trans cx
              have gxb := Nat.lt_of_lt_of_le hblk hq.size
              have gy := (hq.cell (p := ad.add j) (by rw [add_block]; exact hblk)).trans cy
              clear hq
              go_simp
              first | rfl | (trace_state; fail)
            try simp only [Act.put, List.setIfInBounds_toArray, List.set_cons_zero, List.set_cons_succ]
            apply sch_want rfl (by first | rfl | decide | (simp [Region.wanted, yielded]; done) | (simp [Region.wanted, yielded]; assumption)) (by repeat (first | with_reducible exact Within.refl _ | with_reducible assumption | with_reducible refine Within.alloc ?_ _ | with_reducible refine Within.drew ?_ | with_reducible refine Within.drewN ?_ _ | with_reducible refine Within.setCell ?_ (by first | (simp; done) | (simp; omega)) _ | with_reducible refine Within.trans ?_ (by assumption)))
            · intro wq hq
              have hcq := hq.cells
              have gx := (hq.cell (p := ad.add k) (by rw [add_block]; exact hblk)).trans cx
              have gxb := Nat.lt_of_lt_of_le hblk hq.size
              have gy := (hq.cell (p := ad.add j) (by rw [add_block]; exact hblk)).trans cy
              clear hq
              go_simp
              first | rfl | (trace_state; fail)
            try simp only [Act.put, List.setIfInBounds_toArray, List.set_cons_zero, List.set_cons_succ]
            apply sch_want rfl (by first | rfl | decide | (simp [Region.wanted, yielded]; done) | (simp [Region.wanted, yielded]; assumption)) (by repeat (first | with_reducible exact Within.refl _ | with_reducible assumption | with_reducible refine Within.alloc ?_ _ | with_reducible refine Within.drew ?_ | with_reducible refine Within.drewN ?_ _ | with_reducible refine Within.setCell ?_ (by first | (simp; done) | (simp; omega)) _ | with_reducible refine Within.trans ?_ (by assumption)))
            · intro wq hq
              have hcq := hq.cells
              have gx := (hq.cell (p := ad.add k) (by rw [add_block]; exact hblk)).trans cx
              have gxb := Nat.lt_of_lt_of_le hblk hq.size
              have gy := (hq.cell (p := ad.add j) (by rw [add_block]; exact hblk)).trans cy
              clear hq
              go_simp
              first | rfl | (trace_state; fail)
            try simp only [Act.put, List.setIfInBounds_toArray, List.set_cons_zero, List.set_cons_succ]
            apply sch_want rfl (by first | rfl | decide | (simp [Region.wanted, yielded]; done) | (simp [Region.wanted, yielded]; assumption)) (by repeat (first | with_reducible exact Within.refl _ | with_reducible assumption | with_reducible refine Within.alloc ?_ _ | with_reducible refine Within.drew ?_ | with_reducible refine Within.drewN ?_ _ | with_reducible refine Within.setCell ?_ (by first | (simp; done) | (simp; omega)) _ | with_reducible refine Within.trans ?_ (by assumption)))
            · intro wq hq
              have hcq := hq.cells
              have gx := (hq.cell (p := ad.add k) (by rw [add_block]; exact hblk)).trans cx
              have gxb := Nat.lt_of_lt_of_le hblk hq.size
              have gy := (hq.cell (p := ad.add j) (by rw [add_block]; exact hblk)).trans cy
              clear hq
              go_simp
              first | rfl | (trace_state; fail)
            try simp only [Act.put, List.setIfInBounds_toArray, List.set_cons_zero, List.set_cons_succ]
            apply sch_want rfl (by first | rfl | decide | (simp [Region.wanted, yielded]; done) | (simp [Region.wanted, yielded]; assumption)) (by repeat (first | with_reducible exact Within.refl _ | with_reducible assumption | with_reducible refine Within.alloc ?_ _ | with_reducible refine Within.drew ?_ | with_reducible refine Within.drewN ?_ _ | with_reducible refine Within.setCell ?_ (by first | (simp; done) | (simp; omega)) _ | with_reducible refine Within.trans ?_ (by assumption)))
            · intro wq hq
              have hcq := hq.cells
              have gx := (hq.cell (p := ad.add k) (by rw [add_block]; exact hblk)).trans cx
              have gxb := Nat.lt_of_lt_of_le hblk hq.size
              have gy := (hq.cell (p := ad.add j) (by rw [add_block]; exact hblk)).trans cy
              clear hq
              go_simp
              first | rfl | (trace_state; fail)
            try simp only [Act.put, List.setIfInBounds_toArray, List.set_cons_zero, List.set_cons_succ]
            apply sch_want rfl (by first | rfl | decide | (simp [Region.wanted, yielded]; done) | (simp [Region.wanted, yielded]; assumption)) (by repeat (first | with_reducible exact Within.refl _ | with_reducible assumption | with_reducible refine Within.alloc ?_ _ | with_reducible refine Within.drew ?_ | with_reducible refine Within.drewN ?_ _ | with_reducible refine Within.setCell ?_ (by first | (simp; done) | (simp; omega)) _ | with_reducible refine Within.trans ?_ (by assumption)))
            · intro wq hq
              have hcq := hq.cells
              have gx := (hq.cell (p := ad.add k) (by rw [add_block]; exact hblk)).trans cx
              have gxb := Nat.lt_of_lt_of_le hblk hq.size
              have gy := (hq.cell (p := ad.add j) (by rw [add_block]; exact hblk)).trans cy
              clear hq
              go_simp
              first | rfl | (trace_state; fail)
            try simp only [Act.put, List.setIfInBounds_toArray, List.set_cons_zero, List.set_cons_succ]
            refine sch_one_want rfl (by first | rfl | decide | (simp [Region.wanted, yielded]; done) | (simp [Region.wanted, yielded]; assumption)) (fun K hK => ?_)
            go_simp
            refine (CO.out _).mono ?_; rintro e4 w4 ⟨g, n, E, rfl, hI, a1, a2, hv, hb4⟩
            have ln : (dg n.natAbs).length ≤ 80 := Nat.le_trans (val_len n E 1074) (by rw [hv]; exact whole_len y)
            have HG := Lib.hid (GE.out n E hv)
            clear hv
            refine hK _ _ (fun _ => (by repeat (first | with_reducible exact Within.refl _ | with_reducible assumption | with_reducible refine Within.alloc ?_ _ | with_reducible refine Within.drew ?_ | with_reducible refine Within.drewN ?_ _ | with_reducible refine Within.setCell ?_ (by first | (simp; done) | (simp; omega)) _ | with_reducible refine Within.trans ?_ (by assumption)))) ?_
            clear hK K
            try simp only [Act.put, List.setIfInBounds_toArray, List.set_cons_zero, List.set_cons_succ]
            refine sch_one_want rfl (by first | rfl | decide | (simp [Region.wanted, yielded]; done) | (simp [Region.wanted, yielded]; assumption)) (fun K hK => ?_)
            go_simp
            refine (Xabs n E g (Nat.le_trans ln (by decide)) _ hI).mono ?_; rintro e5 w5 ⟨h, rfl, hI5, hG5, hb5⟩
            refine hK _ _ (fun _ => (by repeat (first | with_reducible exact Within.refl _ | with_reducible assumption | with_reducible refine Within.alloc ?_ _ | with_reducible refine Within.drew ?_ | with_reducible refine Within.drewN ?_ _ | with_reducible refine Within.setCell ?_ (by first | (simp; done) | (simp; omega)) _ | with_reducible refine Within.trans ?_ (by assumption)))) ?_
            clear hK K
            try simp only [Act.put, List.setIfInBounds_toArray, List.set_cons_zero, List.set_cons_succ]
            refine sch_one_want rfl (by first | rfl | decide | (simp [Region.wanted, yielded]; done) | (simp [Region.wanted, yielded]; assumption)) (fun K hK => ?_)
            go_simp
            refine (CL.out _).mono ?_; rintro e6 w6 ⟨rfl, hb6⟩
            refine hK _ _ (fun _ => (by repeat (first | with_reducible exact Within.refl _ | with_reducible assumption | with_reducible refine Within.alloc ?_ _ | with_reducible refine Within.drew ?_ | with_reducible refine Within.drewN ?_ _ | with_reducible refine Within.setCell ?_ (by first | (simp; done) | (simp; omega)) _ | with_reducible refine Within.trans ?_ (by assumption)))) ?_
            clear hK K
            try simp only [Act.put, List.setIfInBounds_toArray, List.set_cons_zero, List.set_cons_succ]
            refine sch_one_want rfl (by first | rfl | decide | (simp [Region.wanted, yielded]; done) | (simp [Region.wanted, yielded]; assumption)) (fun K hK => ?_)
            go_simp
            refine (Xpower _ _).mono ?_; rintro e7 w7 ⟨h7, rfl, hI7, hG7, hb7⟩
            refine hK _ _ (fun _ => (by repeat (first | with_reducible exact Within.refl _ | with_reducible assumption | with_reducible refine Within.alloc ?_ _ | with_reducible refine Within.drew ?_ | with_reducible refine Within.drewN ?_ _ | with_reducible refine Within.setCell ?_ (by first | (simp; done) | (simp; omega)) _ | with_reducible refine Within.trans ?_ (by assumption)))) ?_
            clear hK K
            try simp only [Act.put, List.setIfInBounds_toArray, List.set_cons_zero, List.set_cons_succ]
            refine sch_one_want rfl (by first | rfl | decide | (simp [Region.wanted, yielded]; done) | (simp [Region.wanted, yielded]; assumption)) (fun K hK => ?_)
            go_simp
            refine (Xcmp (n.natAbs : Int) 1 E p h h7 1074 1100 (by decide) (by decide) a1 a2 PR.out.1 PR.out.2 (Nat.le_trans ln (by decide)) (Nat.le_trans (dg_len_le (k := 1) (by decide)) (by decide)) _ (IntB.of hI5 (by repeat (first | with_reducible exact Within.refl _ | with_reducible assumption | with_reducible refine Within.alloc ?_ _ | with_reducible refine Within.drew ?_ | with_reducible refine Within.drewN ?_ _ | with_reducible refine Within.setCell ?_ (by first | (simp; done) | (simp; omega)) _ | with_reducible refine Within.trans ?_ (by assumption)))) hI7).mono ?_; rintro e8 w8 ⟨rfl, hb8⟩
            have hgv := HG.out
            obtain ⟨sg, hsg⟩ : ∃ sg, sg = (valE (n.natAbs : Int) E 1074 - valE 1 p 1074).sign := ⟨_, rfl⟩
            rw [← hsg] at hgv ⊢
            clear hsg
            refine hK _ _ (fun _ => (by repeat (first | with_reducible exact Within.refl _ | with_reducible assumption | with_reducible refine Within.alloc ?_ _ | with_reducible refine Within.drew ?_ | with_reducible refine Within.drewN ?_ _ | with_reducible refine Within.setCell ?_ (by first | (simp; done) | (simp; omega)) _ | with_reducible refine Within.trans ?_ (by assumption)))) ?_
            clear hK K
            try simp only [Act.put, List.setIfInBounds_toArray, List.set_cons_zero, List.set_cons_succ]
            apply sch_want rfl (by first | rfl | decide | (simp [Region.wanted, yielded]; done) | (simp [Region.wanted, yielded]; assumption)) (by repeat (first | with_reducible exact Within.refl _ | with_reducible assumption | with_reducible refine Within.alloc ?_ _ | with_reducible refine Within.drew ?_ | with_reducible refine Within.drewN ?_ _ | with_reducible refine Within.setCell ?_ (by first | (simp; done) | (simp; omega)) _ | with_reducible refine Within.trans ?_ (by assumption)))
            · intro wq hq
              have hcq := hq.cells
              have gx := (hq.cell (p := ad.add k) (by rw [add_block]; exact hblk)).trans cx
              have gxb := Nat.lt_of_lt_of_le hblk hq.size
              have gy := (hq.cell (p := ad.add j) (by rw [add_block]; exact hblk)).trans cy
              clear hq
              go_simp
              first | rfl | (trace_state; fail)
            try simp only [Act.put, List.setIfInBounds_toArray, List.set_cons_zero, List.set_cons_succ]
            apply sch_want rfl (by first | rfl | decide | (simp [Region.wanted, yielded]; done) | (simp [Region.wanted, yielded]; assumption)) (by repeat (first | with_reducible exact Within.refl _ | with_reducible assumption | with_reducible refine Within.alloc ?_ _ | with_reducible refine Within.drew ?_ | with_reducible refine Within.drewN ?_ _ | with_reducible refine Within.setCell ?_ (by first | (simp; done) | (simp; omega)) _ | with_reducible refine Within.trans ?_ (by assumption)))
            · intro wq hq
              have hcq := hq.cells
              have gx := (hq.cell (p := ad.add k) (by rw [add_block]; exact hblk)).trans cx
              have gxb := Nat.lt_of_lt_of_le hblk hq.size
              have gy := (hq.cell (p := ad.add j) (by rw [add_block]; exact hblk)).trans cy
              clear hq
              go_simp
              first | rfl | (trace_state; fail)
            try simp only [Act.put, List.setIfInBounds_toArray, List.set_cons_zero, List.set_cons_succ]
            refine sch_one rfl rfl (fun K hK => ?_)
            go_simp
            refine hK _ _ (fun h => absurd h (by decide)) ?_
            clear hK K
            try simp only [Act.put, List.setIfInBounds_toArray, List.set_cons_zero, List.set_cons_succ]
            refine sch_nil ?_
            have hw8 : Within w w8 := (hw0.drew.trans (((hb4.trans hb5).trans hb6).trans (hb7.trans hb8)))
            clear hw0
            go_wp2
            go_ret
            exact ⟨(by rw [NO.out]; first | done | rfl), hw8⟩
          · rw [hlb] at GE
            have OKN := Lib.hid (show ∀ i, i < j + 1 + 1 → okAt es i = true by
              intro i hi
              rcases Nat.lt_or_ge i (j + 1) with h | h
              · exact HOK.out i h
              · have : i = j + 1 := by omega
                subst this
                unfold okAt
                rw [← hx, Nat.add_sub_cancel, ← hy, hlb, decide_eq_true (by omega)]; simp)
            clear hlb hx hy h0
            rw [← hke] at hlt cx e8 e9 OKN ⊢
            have hjl : j < es.length := by omega
            have hk0 : 0 < k := by omega
            have HKE := Lib.hid hke; clear hke e8'
            go_wp2
            refine wp_region_schG (fun W => W.cell? (ad.add k) = some (.float .f64 x) ∧ W.cell? (ad.add j) = some (.float .f64 y) ∧ ad.block < W.heap.size ∧ Within w W) 25 (.firm 0 (.firm 1 (.firm 2 (.firm 3 (.firm 4 (.firm 5 (.firm 6 (.firm 7 (.firm 8 (.firm 9 (.firm 10 (.firm 11 (.firm 12 (.firm 13 (.firm 16 (.firm 17 (.firm 18 (.firm 19 (.one 14 (.one 15 (.one 20 (.one 21 (.one 22 (.firm 23 (.firm 24 (.one 25 .nil)))))))))))))))))))))))))) (by kernel_rfl) (by kernel_rfl) ⟨cx, cy, hblk, HIN.out⟩ ?_
            rintro w0 ⟨cx, cy, hblk, hw0⟩
            try simp only [Act.put, List.setIfInBounds_toArray, List.set_cons_zero, List.set_cons_succ]
            apply sch_firm rfl rfl (by repeat (first | with_reducible exact Within.refl _ | with_reducible assumption | with_reducible refine Within.alloc ?_ _ | with_reducible refine Within.drew ?_ | with_reducible refine Within.drewN ?_ _ | with_reducible refine Within.setCell ?_ (by first | (simp; done) | (simp; omega)) _ | with_reducible refine Within.trans ?_ (by assumption)))
            · intro wq hq
              have hcq := hq.cells
              have gx := (hq.cell (p := ad.add k) (by rw [add_block]; exact hblk)).trans cx
              have gxb := Nat.lt_of_lt_of_le hblk hq.size
              have gy := (hq.cell (p := ad.add j) (by rw [add_block]; exact hblk)).trans cy
              clear hq
              go_simp
              first | rfl | (trace_state; fail)
            try simp only [Act.put, List.setIfInBounds_toArray, List.set_cons_zero, List.set_cons_succ]
            apply sch_firm rfl rfl (by repeat (first | with_reducible exact Within.refl _ | with_reducible assumption | with_reducible refine Within.alloc ?_ _ | with_reducible refine Within.drew ?_ | with_reducible refine Within.drewN ?_ _ | with_reducible refine Within.setCell ?_ (by first | (simp; done) | (simp; omega)) _ | with_reducible refine Within.trans ?_ (by assumption)))
            · intro wq hq
              have hcq := hq.cells
              have gx := (hq.cell (p := ad.add k) (by rw [add_block]; exact hblk)).trans cx
              have gxb := Nat.lt_of_lt_of_le hblk hq.size
              have gy := (hq.cell (p := ad.add j) (by rw [add_block]; exact hblk)).trans cy
              clear hq
              go_simp
              first | rfl | (trace_state; fail)
            try simp only [Act.put, List.setIfInBounds_toArray, List.set_cons_zero, List.set_cons_succ]
            apply sch_firm rfl rfl (by repeat (first | with_reducible exact Within.refl _ | with_reducible assumption | with_reducible refine Within.alloc ?_ _ | with_reducible refine Within.drew ?_ | with_reducible refine Within.drewN ?_ _ | with_reducible refine Within.setCell ?_ (by first | (simp; done) | (simp; omega)) _ | with_reducible refine Within.trans ?_ (by assumption)))
            · intro wq hq
              have hcq := hq.cells
              have gx := (hq.cell (p := ad.add k) (by rw [add_block]; exact hblk)).trans cx
              have gxb := Nat.lt_of_lt_of_le hblk hq.size
              have gy := (hq.cell (p := ad.add j) (by rw [add_block]; exact hblk)).trans cy
              clear hq
              go_simp
              first | rfl | (trace_state; fail)
            try simp only [Act.put, List.setIfInBounds_toArray, List.set_cons_zero, List.set_cons_succ]
            apply sch_firm rfl rfl (by repeat (first | with_reducible exact Within.refl _ | with_reducible assumption | with_reducible refine Within.alloc ?_ _ | with_reducible refine Within.drew ?_ | with_reducible refine Within.drewN ?_ _ | with_reducible refine Within.setCell ?_ (by first | (simp; done) | (simp; omega)) _ | with_reducible refine Within.trans ?_ (by assumption)))
            · intro wq hq
              have hcq := hq.cells
              have gx := (hq.cell (p := ad.add k) (by rw [add_block]; exact hblk)).trans cx
              have gxb := Nat.lt_of_lt_of_le hblk hq.size
              have gy := (hq.cell (p := ad.add j) (by rw [add_block]; exact hblk)).trans cy
              clear hq
              go_simp
              first | rfl | (trace_state; fail)
            try simp only [Act.put, List.setIfInBounds_toArray, List.set_cons_zero, List.set_cons_succ]
            apply sch_firm rfl rfl (by repeat (first | with_reducible exact Within.refl _ | with_reducible assumption | with_reducible refine Within.alloc ?_ _ | with_reducible refine Within.drew ?_ | with_reducible refine Within.drewN ?_ _ | with_reducible refine Within.setCell ?_ (by first | (simp; done) | (simp; omega)) _ | with_reducible refine Within.trans ?_ (by assumption)))
            · intro wq hq
              have hcq := hq.cells
              have gx := (hq.cell (p := ad.add k) (by rw [add_block]; exact hblk)).trans cx
              have gxb := Nat.lt_of_lt_of_le hblk hq.size
              have gy := (hq.cell (p := ad.add j) (by rw [add_block]; exact hblk)).trans cy
              clear hq
              go_simp
              first | rfl | (trace_state; fail)
            try simp only [Act.put, List.setIfInBounds_toArray, List.set_cons_zero, List.set_cons_succ]
            apply sch_firm rfl rfl (by repeat (first | with_reducible exact Within.refl _ | with_reducible assumption | with_reducible refine Within.alloc ?_ _ | with_reducible refine Within.drew ?_ | with_reducible refine Within.drewN ?_ _ | with_reducible refine Within.setCell ?_ (by first | (simp; done) | (simp; omega)) _ | with_reducible refine Within.trans ?_ (by assumption)))
            · intro wq hq
              have hcq := hq.cells
              have gx := (hq.cell (p := ad.add k) (by rw [add_block]; exact hblk)).trans cx
              have gxb := Nat.lt_of_lt_of_le hblk hq.size
              have gy := (hq.cell (p := ad.add j) (by rw [add_block]; exact hblk)).trans cy
              clear hq
              go_simp
              first | rfl | (trace_state; fail)
            try simp only [Act.put, List.setIfInBounds_toArray, List.set_cons_zero, List.set_cons_succ]
            apply sch_want rfl (by first | rfl | decide | (simp [Region.wanted, yielded]; done) | (simp [Region.wanted, yielded]; assumption)) (by repeat (first | with_reducible exact Within.refl _ | with_reducible assumption | with_reducible refine Within.alloc ?_ _ | with_reducible refine Within.drew ?_ | with_reducible refine Within.drewN ?_ _ | with_reducible refine Within.setCell ?_ (by first | (simp; done) | (simp; omega)) _ | with_reducible refine Within.trans ?_ (by assumption)))
            · intro wq hq
              have hcq := hq.cells
              have gx := (hq.cell (p := ad.add k) (by rw [add_block]; exact hblk)).trans cx
              have gxb := Nat.lt_of_lt_of_le hblk hq.size
              have gy := (hq.cell (p := ad.add j) (by rw [add_block]; exact hblk)).trans cy
              clear hq
              go_simp
              first | rfl | (trace_state; fail)
            try simp only [Act.put, List.setIfInBounds_toArray, List.set_cons_zero, List.set_cons_succ]
            apply sch_want rfl (by first | rfl | decide | (simp [Region.wanted, yielded]; done) | (simp [Region.wanted, yielded]; assumption)) (by repeat (first | with_reducible exact Within.refl _ | with_reducible assumption | with_reducible refine Within.alloc ?_ _ | with_reducible refine Within.drew ?_ | with_reducible refine Within.drewN ?_ _ | with_reducible refine Within.setCell ?_ (by first | (simp; done) | (simp; omega)) _ | with_reducible refine Within.trans ?_ (by assumption)))
            · intro wq hq
              have hcq := hq.cells
              have gx := (hq.cell (p := ad.add k) (by rw [add_block]; exact hblk)).trans cx
              have gxb := Nat.lt_of_lt_of_le hblk hq.size
              have gy := (hq.cell (p := ad.add j) (by rw [add_block]; exact hblk)).trans cy
              clear hq
              go_simp
              first | rfl | (trace_state; fail)
            try simp only [Act.put, List.setIfInBounds_toArray, List.set_cons_zero, List.set_cons_succ]
            apply sch_want rfl (by first | rfl | decide | (simp [Region.wanted, yielded]; done) | (simp [Region.wanted, yielded]; assumption)) (by repeat (first | with_reducible exact Within.refl _ | with_reducible assumption | with_reducible refine Within.alloc ?_ _ | with_reducible refine Within.drew ?_ | with_reducible refine Within.drewN ?_ _ | with_reducible refine Within.setCell ?_ (by first | (simp; done) | (simp; omega)) _ | with_reducible refine Within.trans ?_ (by assumption)))
            · intro wq hq
              have hcq := hq.cells
              have gx := (hq.cell (p := ad.add k) (by rw [add_block]; exact hblk)).trans cx
              have gxb := Nat.lt_of_lt_of_le hblk hq.size
              have gy := (hq.cell (p := ad.add j) (by rw [add_block]; exact hblk)).trans cy
              clear hq
              go_simp
              first | rfl | (trace_state; fail)
            try simp only [Act.put, List.setIfInBounds_toArray, List.set_cons_zero, List.set_cons_succ]
            apply sch_want rfl (by first | rfl | decide | (simp [Region.wanted, yielded]; done) | (simp [Region.wanted, yielded]; assumption)) (by repeat (first | with_reducible exact Within.refl _ | with_reducible assumption | with_reducible refine Within.alloc ?_ _ | with_reducible refine Within.drew ?_ | with_reducible refine Within.drewN ?_ _ | with_reducible refine Within.setCell ?_ (by first | (simp; done) | (simp; omega)) _ | with_reducible refine Within.trans ?_ (by assumption)))
            · intro wq hq
              have hcq := hq.cells
              have gx := (hq.cell (p := ad.add k) (by rw [add_block]; exact hblk)).trans cx
              have gxb := Nat.lt_of_lt_of_le hblk hq.size
              have gy := (hq.cell (p := ad.add j) (by rw [add_block]; exact hblk)).trans cy
              clear hq
              go_simp
              first | rfl | (trace_state; fail)
            try simp only [Act.put, List.setIfInBounds_toArray, List.set_cons_zero, List.set_cons_succ]
            apply sch_want rfl (by first | rfl | decide | (simp [Region.wanted, yielded]; done) | (simp [Region.wanted, yielded]; assumption)) (by repeat (first | with_reducible exact Within.refl _ | with_reducible assumption | with_reducible refine Within.alloc ?_ _ | with_reducible refine Within.drew ?_ | with_reducible refine Within.drewN ?_ _ | with_reducible refine Within.setCell ?_ (by first | (simp; done) | (simp; omega)) _ | with_reducible refine Within.trans ?_ (by assumption)))
            · intro wq hq
              have hcq := hq.cells
              have gx := (hq.cell (p := ad.add k) (by rw [add_block]; exact hblk)).trans cx
              have gxb := Nat.lt_of_lt_of_le hblk hq.size
              have gy := (hq.cell (p := ad.add j) (by rw [add_block]; exact hblk)).trans cy
              clear hq
              go_simp
              first | rfl | (trace_state; fail)
            try simp only [Act.put, List.setIfInBounds_toArray, List.set_cons_zero, List.set_cons_succ]
            apply sch_want rfl (by first | rfl | decide | (simp [Region.wanted, yielded]; done) | (simp [Region.wanted, yielded]; assumption)) (by repeat (first | with_reducible exact Within.refl _ | with_reducible assumption | with_reducible refine Within.alloc ?_ _ | with_reducible refine Within.drew ?_ | with_reducible refine Within.drewN ?_ _ | with_reducible refine Within.setCell ?_ (by first | (simp; done) | (simp; omega)) _ | with_reducible refine Within.trans ?_ (by assumption)))
            · intro wq hq
              have hcq := hq.cells
              have gx := (hq.cell (p := ad.add k) (by rw [add_block]; exact hblk)).trans cx
              have gxb := Nat.lt_of_lt_of_le hblk hq.size
              have gy := (hq.cell (p := ad.add j) (by rw [add_block]; exact hblk)).trans cy
              clear hq
              go_simp
              first | rfl | (trace_state; fail)
            try simp only [Act.put, List.setIfInBounds_toArray, List.set_cons_zero, List.set_cons_succ]
            apply sch_want rfl (by first | rfl | decide | (simp [Region.wanted, yielded]; done) | (simp [Region.wanted, yielded]; assumption)) (by repeat (first | with_reducible exact Within.refl _ | with_reducible assumption | with_reducible refine Within.alloc ?_ _ | with_reducible refine Within.drew ?_ | with_reducible refine Within.drewN ?_ _ | with_reducible refine Within.setCell ?_ (by first | (simp; done) | (simp; omega)) _ | with_reducible refine Within.trans ?_ (by assumption)))
            · intro wq hq
              have hcq := hq.cells
              have gx := (hq.cell (p := ad.add k) (by rw [add_block]; exact hblk)).trans cx
              have gxb := Nat.lt_of_lt_of_le hblk hq.size
              have gy := (hq.cell (p := ad.add j) (by rw [add_block]; exact hblk)).trans cy
              clear hq
              go_simp
              first | rfl | (trace_state; fail)
            try simp only [Act.put, List.setIfInBounds_toArray, List.set_cons_zero, List.set_cons_succ]
            apply sch_want rfl (by first | rfl | decide | (simp [Region.wanted, yielded]; done) | (simp [Region.wanted, yielded]; assumption)) (by repeat (first | with_reducible exact Within.refl _ | with_reducible assumption | with_reducible refine Within.alloc ?_ _ | with_reducible refine Within.drew ?_ | with_reducible refine Within.drewN ?_ _ | with_reducible refine Within.setCell ?_ (by first | (simp; done) | (simp; omega)) _ | with_reducible refine Within.trans ?_ (by assumption)))
            · intro wq hq
              have hcq := hq.cells
              have gx := (hq.cell (p := ad.add k) (by rw [add_block]; exact hblk)).trans cx
              have gxb := Nat.lt_of_lt_of_le hblk hq.size
              have gy := (hq.cell (p := ad.add j) (by rw [add_block]; exact hblk)).trans cy
              clear hq
              go_simp
              first | rfl | (trace_state; fail)
            try simp only [Act.put, List.setIfInBounds_toArray, List.set_cons_zero, List.set_cons_succ]
            apply sch_want rfl (by first | rfl | decide | (simp [Region.wanted, yielded]; done) | (simp [Region.wanted, yielded]; assumption)) (by repeat (first | with_reducible exact Within.refl _ | with_reducible assumption | with_reducible refine Within.alloc ?_ _ | with_reducible refine Within.drew ?_ | with_reducible refine Within.drewN ?_ _ | with_reducible refine Within.setCell ?_ (by first | (simp; done) | (simp; omega)) _ | with_reducible refine Within.trans ?_ (by assumption)))
            · intro wq hq
              have hcq := hq.cells
              have gx := (hq.cell (p := ad.add k) (by rw [add_block]; exact hblk)).trans cx
              have gxb := Nat.lt_of_lt_of_le hblk hq.size
              have gy := (hq.cell (p := ad.add j) (by rw [add_block]; exact hblk)).trans cy
              clear hq
              go_simp
              first | rfl | (trace_state; fail)
            try simp only [Act.put, List.setIfInBounds_toArray, List.set_cons_zero, List.set_cons_succ]
            apply sch_want rfl (by first | rfl | decide | (simp [Region.wanted, yielded]; done) | (simp [Region.wanted, yielded]; assumption)) (by repeat (first | with_reducible exact Within.refl _ | with_reducible assumption | with_reducible refine Within.alloc ?_ _ | with_reducible refine Within.drew ?_ | with_reducible refine Within.drewN ?_ _ | with_reducible refine Within.setCell ?_ (by first | (simp; done) | (simp; omega)) _ | with_reducible refine Within.trans ?_ (by assumption)))
            · intro wq hq
              have hcq := hq.cells
              have gx := (hq.cell (p := ad.add k) (by rw [add_block]; exact hblk)).trans cx
              have gxb := Nat.lt_of_lt_of_le hblk hq.size
              have gy := (hq.cell (p := ad.add j) (by rw [add_block]; exact hblk)).trans cy
              clear hq
              go_simp
              first | rfl | (trace_state; fail)
            try simp only [Act.put, List.setIfInBounds_toArray, List.set_cons_zero, List.set_cons_succ]
            apply sch_want rfl (by first | rfl | decide | (simp [Region.wanted, yielded]; done) | (simp [Region.wanted, yielded]; assumption)) (by repeat (first | with_reducible exact Within.refl _ | with_reducible assumption | with_reducible refine Within.alloc ?_ _ | with_reducible refine Within.drew ?_ | with_reducible refine Within.drewN ?_ _ | with_reducible refine Within.setCell ?_ (by first | (simp; done) | (simp; omega)) _ | with_reducible refine Within.trans ?_ (by assumption)))
            · intro wq hq
              have hcq := hq.cells
              have gx := (hq.cell (p := ad.add k) (by rw [add_block]; exact hblk)).trans cx
              have gxb := Nat.lt_of_lt_of_le hblk hq.size
              have gy := (hq.cell (p := ad.add j) (by rw [add_block]; exact hblk)).trans cy
              clear hq
              go_simp
              first | rfl | (trace_state; fail)
            try simp only [Act.put, List.setIfInBounds_toArray, List.set_cons_zero, List.set_cons_succ]
            apply sch_want rfl (by first | rfl | decide | (simp [Region.wanted, yielded]; done) | (simp [Region.wanted, yielded]; assumption)) (by repeat (first | with_reducible exact Within.refl _ | with_reducible assumption | with_reducible refine Within.alloc ?_ _ | with_reducible refine Within.drew ?_ | with_reducible refine Within.drewN ?_ _ | with_reducible refine Within.setCell ?_ (by first | (simp; done) | (simp; omega)) _ | with_reducible refine Within.trans ?_ (by assumption)))
            · intro wq hq
              have hcq := hq.cells
              have gx := (hq.cell (p := ad.add k) (by rw [add_block]; exact hblk)).trans cx
              have gxb := Nat.lt_of_lt_of_le hblk hq.size
              have gy := (hq.cell (p := ad.add j) (by rw [add_block]; exact hblk)).trans cy
              clear hq
              go_simp
              first | rfl | (trace_state; fail)
            try simp only [Act.put, List.setIfInBounds_toArray, List.set_cons_zero, List.set_cons_succ]
            refine sch_one_want rfl (by first | rfl | decide | (simp [Region.wanted, yielded]; done) | (simp [Region.wanted, yielded]; assumption)) (fun K hK => ?_)
            go_simp
            refine (CO.out _).mono ?_; rintro e4 w4 ⟨g, n, E, rfl, hI, a1, a2, hv, hb4⟩
            have ln : (dg n.natAbs).length ≤ 80 := Nat.le_trans (val_len n E 1074) (by rw [hv]; exact whole_len y)
            have HG := Lib.hid (GE.out n E hv)
            clear hv
            refine hK _ _ (fun _ => (by repeat (first | with_reducible exact Within.refl _ | with_reducible assumption | with_reducible refine Within.alloc ?_ _ | with_reducible refine Within.drew ?_ | with_reducible refine Within.drewN ?_ _ | with_reducible refine Within.setCell ?_ (by first | (simp; done) | (simp; omega)) _ | with_reducible refine Within.trans ?_ (by assumption)))) ?_
            clear hK K
            try simp only [Act.put, List.setIfInBounds_toArray, List.set_cons_zero, List.set_cons_succ]
            refine sch_one_want rfl (by first | rfl | decide | (simp [Region.wanted, yielded]; done) | (simp [Region.wanted, yielded]; assumption)) (fun K hK => ?_)
            go_simp
            refine (Xabs n E g (Nat.le_trans ln (by decide)) _ hI).mono ?_; rintro e5 w5 ⟨h, rfl, hI5, hG5, hb5⟩
            refine hK _ _ (fun _ => (by repeat (first | with_reducible exact Within.refl _ | with_reducible assumption | with_reducible refine Within.alloc ?_ _ | with_reducible refine Within.drew ?_ | with_reducible refine Within.drewN ?_ _ | with_reducible refine Within.setCell ?_ (by first | (simp; done) | (simp; omega)) _ | with_reducible refine Within.trans ?_ (by assumption)))) ?_
            clear hK K
            try simp only [Act.put, List.setIfInBounds_toArray, List.set_cons_zero, List.set_cons_succ]
            refine sch_one_want rfl (by first | rfl | decide | (simp [Region.wanted, yielded]; done) | (simp [Region.wanted, yielded]; assumption)) (fun K hK => ?_)
            go_simp
            refine (CL.out _).mono ?_; rintro e6 w6 ⟨rfl, hb6⟩
            refine hK _ _ (fun _ => (by repeat (first | with_reducible exact Within.refl _ | with_reducible assumption | with_reducible refine Within.alloc ?_ _ | with_reducible refine Within.drew ?_ | with_reducible refine Within.drewN ?_ _ | with_reducible refine Within.setCell ?_ (by first | (simp; done) | (simp; omega)) _ | with_reducible refine Within.trans ?_ (by assumption)))) ?_
            clear hK K
            try simp only [Act.put, List.setIfInBounds_toArray, List.set_cons_zero, List.set_cons_succ]
            refine sch_one_want rfl (by first | rfl | decide | (simp [Region.wanted, yielded]; done) | (simp [Region.wanted, yielded]; assumption)) (fun K hK => ?_)
            go_simp
            refine (Xpower _ _).mono ?_; rintro e7 w7 ⟨h7, rfl, hI7, hG7, hb7⟩
            refine hK _ _ (fun _ => (by repeat (first | with_reducible exact Within.refl _ | with_reducible assumption | with_reducible refine Within.alloc ?_ _ | with_reducible refine Within.drew ?_ | with_reducible refine Within.drewN ?_ _ | with_reducible refine Within.setCell ?_ (by first | (simp; done) | (simp; omega)) _ | with_reducible refine Within.trans ?_ (by assumption)))) ?_
            clear hK K
            try simp only [Act.put, List.setIfInBounds_toArray, List.set_cons_zero, List.set_cons_succ]
            refine sch_one_want rfl (by first | rfl | decide | (simp [Region.wanted, yielded]; done) | (simp [Region.wanted, yielded]; assumption)) (fun K hK => ?_)
            go_simp
            refine (Xcmp (n.natAbs : Int) 1 E p h h7 1074 1100 (by decide) (by decide) a1 a2 PR.out.1 PR.out.2 (Nat.le_trans ln (by decide)) (Nat.le_trans (dg_len_le (k := 1) (by decide)) (by decide)) _ (IntB.of hI5 (by repeat (first | with_reducible exact Within.refl _ | with_reducible assumption | with_reducible refine Within.alloc ?_ _ | with_reducible refine Within.drew ?_ | with_reducible refine Within.drewN ?_ _ | with_reducible refine Within.setCell ?_ (by first | (simp; done) | (simp; omega)) _ | with_reducible refine Within.trans ?_ (by assumption)))) hI7).mono ?_; rintro e8 w8 ⟨rfl, hb8⟩
            have hgv := HG.out
            obtain ⟨sg, hsg⟩ : ∃ sg, sg = (valE (n.natAbs : Int) E 1074 - valE 1 p 1074).sign := ⟨_, rfl⟩
            rw [← hsg] at hgv ⊢
            clear hsg
            refine hK _ _ (fun _ => (by repeat (first | with_reducible exact Within.refl _ | with_reducible assumption | with_reducible refine Within.alloc ?_ _ | with_reducible refine Within.drew ?_ | with_reducible refine Within.drewN ?_ _ | with_reducible refine Within.setCell ?_ (by first | (simp; done) | (simp; omega)) _ | with_reducible refine Within.trans ?_ (by assumption)))) ?_
            clear hK K
            try simp only [Act.put, List.setIfInBounds_toArray, List.set_cons_zero, List.set_cons_succ]
            apply sch_want rfl (by first | rfl | decide | (simp [Region.wanted, yielded]; done) | (simp [Region.wanted, yielded]; assumption)) (by repeat (first | with_reducible exact Within.refl _ | with_reducible assumption | with_reducible refine Within.alloc ?_ _ | with_reducible refine Within.drew ?_ | with_reducible refine Within.drewN ?_ _ | with_reducible refine Within.setCell ?_ (by first | (simp; done) | (simp; omega)) _ | with_reducible refine Within.trans ?_ (by assumption)))
            · intro wq hq
              have hcq := hq.cells
              have gx := (hq.cell (p := ad.add k) (by rw [add_block]; exact hblk)).trans cx
              have gxb := Nat.lt_of_lt_of_le hblk hq.size
              have gy := (hq.cell (p := ad.add j) (by rw [add_block]; exact hblk)).trans cy
              clear hq
              go_simp
              first | rfl | (trace_state; fail)
            try simp only [Act.put, List.setIfInBounds_toArray, List.set_cons_zero, List.set_cons_succ]
            apply sch_want rfl (by first | rfl | decide | (simp [Region.wanted, yielded]; done) | (simp [Region.wanted, yielded]; assumption)) (by repeat (first | with_reducible exact Within.refl _ | with_reducible assumption | with_reducible refine Within.alloc ?_ _ | with_reducible refine Within.drew ?_ | with_reducible refine Within.drewN ?_ _ | with_reducible refine Within.setCell ?_ (by first | (simp; done) | (simp; omega)) _ | with_reducible refine Within.trans ?_ (by assumption)))
            · intro wq hq
              have hcq := hq.cells
              have gx := (hq.cell (p := ad.add k) (by rw [add_block]; exact hblk)).trans cx
              have gxb := Nat.lt_of_lt_of_le hblk hq.size
              have gy := (hq.cell (p := ad.add j) (by rw [add_block]; exact hblk)).trans cy
              clear hq
              go_simp
              first | rfl | (trace_state; fail)
            try simp only [Act.put, List.setIfInBounds_toArray, List.set_cons_zero, List.set_cons_succ]
            refine sch_one rfl rfl (fun K hK => ?_)
            go_simp
            refine hK _ _ (fun h => absurd h (by decide)) ?_
            clear hK K
            try simp only [Act.put, List.setIfInBounds_toArray, List.set_cons_zero, List.set_cons_succ]
            refine sch_nil ?_
            have hw8 : Within w w8 := (hw0.drew.trans (((hb4.trans hb5).trans hb6).trans (hb7.trans hb8)))
            clear hw0
            go_wp2
            go_roundw
            case rel => exact ⟨k + 1, hlt, by go_num, OKN.out, hw8⟩
            case measure => simp [intOf]; omega
    · obtain rfl : k = es.length := by omega
      have YES := Lib.hid (HV.out.2 (isB_yes H64.out HF.out HOK.out))
      go_wp2
      go_ret
      exact ⟨(by rw [YES.out]; first | done | rfl), hin⟩
theorem rgood_any (A : Option Addr) (c : Nat) (es : List Nat) (hw : Words64 es) (hl : es.length ≤ 1152921504606846976) (w : World) (hr : SlAt w A (f64v es)) : Calls Tryz.prog 18 #[.slice A es.length c] w fun e w' => e = .returned (.int .i64 (chkE es)) ∧ Within w w' := by
  unfold chkE
  cases hf : es.all finD
  · rw [if_pos rfl]; exact rgood_fin A c es hw hl hf w hr
  · rw [if_neg (by decide)]
    by_cases h64 : 64 < es.length
    · rw [if_pos h64]; exact rgood_long A c es hw hl hf h64 w hr
    · rw [if_neg h64]; exact rgood_main A c es hw hl hf (by omega) _ (fun h => by rw [h]; rfl) (fun h => by rw [h]; rfl) w hr
end Go.Proofs.YtjmaggfddinbkaaGreatDoor
end

section
namespace Go.Proofs.YtjmaggfddinbkaaGreatDoor
/-! Scale -/
/-! Grow, Add -/
def toW (L : List (Option Nat)) : List Nat := L.map fun v => v.getD 0
theorem toW_fv : ∀ {ls : List Nat}, (∀ x ∈ ls, x % 9223372036854775808 < 9218868437227405312) → toW (ls.map fv) = ls
  | [], _ => rfl
  | x :: ls, h => by
    have h1 : fv x = some x := if_neg (by have := h x (List.mem_cons_self ..); omega)
    have h2 := toW_fv (ls := ls) fun y hy => h y (List.mem_cons_of_mem _ hy)
    unfold toW at h2 ⊢
    rw [List.map_cons, List.map_cons, h2, h1]; rfl
def addL : List Nat → List Nat → List (Option Nat) × Int
  | es, [] => (es.map fv, 0)
  | es, b :: fs => if growEr es b = 0 then addL (toW (growL es b)) fs else ([], growEr es b)
def addR (es fs : List Nat) : List (Option Nat) × Int := if chkE es = 0 then (if chkE fs = 0 then addL es fs else ([], chkE fs)) else ([], chkE es)
theorem growEr_zero {es : List Nat} {b : Nat} (h : growEr es b = 0) : chkE es = 0 ∧ finW b = true ∧ (growSt (es.map fv) (fv b)).err = 0 ∧ growL es b = (growSt (es.map fv) (fv b)).all := by
  unfold growEr at h
  by_cases h0 : chkE es = 0
  · rw [if_pos h0] at h
    cases hb : finW b
    · rw [hb, if_neg Bool.false_ne_true] at h; cases h
    · rw [hb, if_pos rfl] at h
      refine ⟨h0, rfl, h, ?_⟩
      unfold growL Lay.out
      rw [if_pos h0, hb, if_pos rfl, if_pos h]
  · rw [if_neg h0] at h; exact absurd h h0
theorem err_zero {s : Lay} (h : s.err = 0) : s.ov = false ∧ s.all.length ≤ 64 := by
  unfold Lay.err at h
  cases ho : s.ov
  · rw [ho, if_neg Bool.false_ne_true] at h
    refine ⟨rfl, ?_⟩
    split at h
    · cases h
    · omega
  · rw [ho, if_pos rfl] at h; cases h
theorem grow_res {es ls : List Nat} {b : Nat} (hw : Words64 es) (h0 : growEr es b = 0) (hws : Words64 ls) (hm : ls.map fv = growL es b) :
    ls = toW (growL es b) ∧ isB ls = true ∧ unL ls = growZ (unL es) (Fp.un Ieee.double b) := by
  obtain ⟨h1, h2, h3, h4⟩ := growEr_zero h0
  obtain ⟨h5, h6⟩ := err_zero h3
  obtain ⟨k1, k2, k3⟩ := isB_words hw (chkE_zero.1 h1)
  have hb : Fz (fv b) (Fp.un Ieee.double b) := fz_of (of_decide_eq_true h2)
  have hf := grow_keeps k1 hb h5
  rw [← h4, ← hm] at hf
  have hl : ls.length ≤ 64 := by rw [← h4, ← hm, List.length_map] at h6; exact h6
  obtain ⟨r1, r2⟩ := isB_res hws hf hl (grow_exp _ _ k2 k3 hb.rep)
  exact ⟨by rw [← hm, toW_fv (fzL_unL hf).1], r1, r2⟩
theorem isB_len {es : List Nat} (h : isB es = true) : es.length ≤ 64 := by
  unfold isB at h; simp only [Bool.and_eq_true, decide_eq_true_eq] at h; exact h.1.1
end Go.Proofs.YtjmaggfddinbkaaGreatDoor
end

section
namespace Go.Proofs.YtjmaggfddinbkaaGreatDoor
open Go.RowKit
set_option maxRecDepth 100000 in
set_option maxHeartbeats 600000 in
theorem same_law (x y : Nat) (w : World) : Calls Tryz.prog 42 #[.float .f64 x, .float .f64 y] w fun e w' => e = .returned (.bool (decide (x = canonD y))) ∧ w = w' := by
  obtain ⟨b, hb⟩ : ∃ b, b = decide (x = canonD y) := ⟨_, rfl⟩
  have he : ((x : Int) == ((canonD y : Nat) : Int)) = b := by
    rw [hb]; by_cases h : x = canonD y
    · rw [decide_eq_true h, beq_iff_eq]; omega
    · rw [decide_eq_false h, beq_eq_false_iff_ne]; omega
  rw [← hb]
  clear hb
  have CB := Lib.hid (fun w => Rbits_D y w)
  obtain ⟨z, hz⟩ : ∃ z, z = canonD y := ⟨_, rfl⟩
  rw [← hz] at CB he
  clear hz
  go_enter Tryz.func42, Tryz.ntmps42
  go_wp2_with fail
  refine (CB.out _).mono ?_; rintro e1 w1 ⟨rfl, rfl⟩
  go_wp2
  go_ret
  exact ⟨rfl, rfl⟩
set_option maxRecDepth 100000 in
set_option maxHeartbeats 600000 in
theorem told_law (A B : Option Addr) (c d : Nat) (l : List Nat) (n : Int) (hc : ∀ x ∈ l, canonD x = x) (hl : l.length ≤ 1152921504606846976) (w : World) (ha : SlAt w A (f64v l)) (hb : SlAt w B (f64v l)) : Calls Tryz.prog 16 #[.slice A l.length c, .int .i64 n, .slice B l.length d, .int .i64 n] w fun e w' => e = .returned (.bool true) ∧ Within w w' := by
  have HA := Lib.hid ha; have HB := Lib.hid hb; have HC := Lib.hid hc; clear ha hb hc
  have g1 : (n != n) = false := bne_self_eq_false _
  have g2 : ((l.length : Int) != (l.length : Int)) = false := bne_self_eq_false _
  go_enter Tryz.func16, Tryz.ntmps16
  go_wp2
  go_loopw [9] (fun iv wr => ∃ k : Nat, k ≤ l.length ∧ iv = .int .i64 (k : Int) ∧ Within w wr) (fun iv _ => l.length - (intOf iv).toNat)
  case atStart => exact ⟨0, Nat.zero_le _, rfl, Within.refl _⟩
  case round =>
    obtain ⟨k, hk, rfl, hin⟩ := hrel
    by_cases hlt : k < l.length
    · obtain ⟨ad, rfl, hblk, hca⟩ := (HA.out.of hin).at hlt
      obtain ⟨bd, rfl, hblk', hcb⟩ := (HB.out.of hin).at hlt
      have hcx : canonD (l.getD k 0) = l.getD k 0 := HC.out _ (by rw [List.getD, List.getElem?_eq_getElem hlt]; exact List.getElem_mem hlt)
      obtain ⟨x, hx⟩ : ∃ x, x = l.getD k 0 := ⟨_, rfl⟩
      rw [← hx] at hca hcb hcx
      have CS := Lib.hid (fun w => same_law x x w)
      rw [decide_eq_true hcx.symm] at CS
      clear hcx hx
      have HIN := Lib.hid hin; clear hin
      go_wp2
      refine wp_region_schG (fun W => W.cell? (ad.add k) = some (.float .f64 x) ∧ W.cell? (bd.add k) = some (.float .f64 x) ∧ ad.block < W.heap.size ∧ bd.block < W.heap.size ∧ Within w W) 9 (.firm 0 (.firm 1 (.firm 2 (.firm 3 (.firm 4 (.firm 5 (.firm 6 (.firm 7 (.one 8 (.one 9 .nil)))))))))) (by kernel_rfl) (by kernel_rfl) ⟨hca, hcb, hblk, hblk', HIN.out⟩ ?_
      rintro w0 ⟨cx, cy, hblk, hblk', hw0⟩
      try simp only [Act.put, List.setIfInBounds_toArray, List.set_cons_zero, List.set_cons_succ]
      apply sch_firm rfl rfl (by repeat (first | with_reducible exact Within.refl _ | with_reducible assumption | with_reducible refine Within.alloc ?_ _ | with_reducible refine Within.drew ?_ | with_reducible refine Within.drewN ?_ _ | with_reducible refine Within.setCell ?_ (by first | (simp; done) | (simp; omega)) _ | with_reducible refine Within.trans ?_ (by assumption)))
      · intro wq hq
        have hcq := hq.cells
        have gx := (hq.cell (p := ad.add k) (by rw [add_block]; exact hblk)).trans cx
        have gxb := Nat.lt_of_lt_of_le hblk hq.size
        have gy := (hq.cell (p := bd.add k) (by rw [add_block]; exact hblk')).trans cy
        have gyb := Nat.lt_of_lt_of_le hblk' hq.size
        clear hq
        go_simp
        first | rfl | (trace_state; fail)
      try simp only [Act.put, List.setIfInBounds_toArray, List.set_cons_zero, List.set_cons_succ]
      apply sch_firm rfl rfl (by repeat (first | with_reducible exact Within.refl _ | with_reducible assumption | with_reducible refine Within.alloc ?_ _ | with_reducible refine Within.drew ?_ | with_reducible refine Within.drewN ?_ _ | with_reducible refine Within.setCell ?_ (by first | (simp; done) | (simp; omega)) _ | with_reducible refine Within.trans ?_ (by assumption)))
      · intro wq hq
        have hcq := hq.cells
        have gx := (hq.cell (p := ad.add k) (by rw [add_block]; exact hblk)).trans cx
        have gxb := Nat.lt_of_lt_of_le hblk hq.size
        have gy := (hq.cell (p := bd.add k) (by rw [add_block]; exact hblk')).trans cy
        have gyb := Nat.lt_of_lt_of_le hblk' hq.size
        clear hq
        go_simp
        first | rfl | (trace_state; fail)
      try simp only [Act.put, List.setIfInBounds_toArray, List.set_cons_zero, List.set_cons_succ]
      apply sch_firm rfl rfl (by repeat (first | with_reducible exact Within.refl _ | with_reducible assumption | with_reducible refine Within.alloc ?_ _ | with_reducible refine Within.drew ?_ | with_reducible refine Within.drewN ?_ _ | with_reducible refine Within.setCell ?_ (by first | (simp; done) | (simp; omega)) _ | with_reducible refine Within.trans ?_ (by assumption)))
      · intro wq hq
        have hcq := hq.cells
        have gx := (hq.cell (p := ad.add k) (by rw [add_block]; exact hblk)).trans cx
        have gxb := Nat.lt_of_lt_of_le hblk hq.size
        have gy := (hq.cell (p := bd.add k) (by rw [add_block]; exact hblk')).trans cy
        have gyb := Nat.lt_of_lt_of_le hblk' hq.size
        clear hq
        go_simp
        first | rfl | (trace_state; fail)
      try simp only [Act.put, List.setIfInBounds_toArray, List.set_cons_zero, List.set_cons_succ]
      apply sch_firm rfl rfl (by repeat (first | with_reducible exact Within.refl _ | with_reducible assumption | with_reducible refine Within.alloc ?_ _ | with_reducible refine Within.drew ?_ | with_reducible refine Within.drewN ?_ _ | with_reducible refine Within.setCell ?_ (by first | (simp; done) | (simp; omega)) _ | with_reducible refine Within.trans ?_ (by assumption)))
      · intro wq hq
        have hcq := hq.cells
        have gx := (hq.cell (p := ad.add k) (by rw [add_block]; exact hblk)).trans cx
        have gxb := Nat.lt_of_lt_of_le hblk hq.size
        have gy := (hq.cell (p := bd.add k) (by rw [add_block]; exact hblk')).trans cy
        have gyb := Nat.lt_of_lt_of_le hblk' hq.size
        clear hq
        go_simp
        first | rfl | (trace_state; fail)
      try simp only [Act.put, List.setIfInBounds_toArray, List.set_cons_zero, List.set_cons_succ]
      apply sch_firm rfl rfl (by repeat (first | with_reducible exact Within.refl _ | with_reducible assumption | with_reducible refine Within.alloc ?_ _ | with_reducible refine Within.drew ?_ | with_reducible refine Within.drewN ?_ _ | with_reducible refine Within.setCell ?_ (by first | (simp; done) | (simp; omega)) _ | with_reducible refine Within.trans ?_ (by assumption)))
      · intro wq hq
        have hcq := hq.cells
        have gx := (hq.cell (p := ad.add k) (by rw [add_block]; exact hblk)).trans cx
        have gxb := Nat.lt_of_lt_of_le hblk hq.size
        have gy := (hq.cell (p := bd.add k) (by rw [add_block]; exact hblk')).trans cy
        have gyb := Nat.lt_of_lt_of_le hblk' hq.size
        clear hq
        go_simp
        first | rfl | (trace_state; fail)
      try simp only [Act.put, List.setIfInBounds_toArray, List.set_cons_zero, List.set_cons_succ]
      apply sch_firm rfl rfl (by repeat (first | with_reducible exact Within.refl _ | with_reducible assumption | with_reducible refine Within.alloc ?_ _ | with_reducible refine Within.drew ?_ | with_reducible refine Within.drewN ?_ _ | with_reducible refine Within.setCell ?_ (by first | (simp; done) | (simp; omega)) _ | with_reducible refine Within.trans ?_ (by assumption)))
      · intro wq hq
        have hcq := hq.cells
        have gx := (hq.cell (p := ad.add k) (by rw [add_block]; exact hblk)).trans cx
        have gxb := Nat.lt_of_lt_of_le hblk hq.size
        have gy := (hq.cell (p := bd.add k) (by rw [add_block]; exact hblk')).trans cy
        have gyb := Nat.lt_of_lt_of_le hblk' hq.size
        clear hq
        go_simp
        first | rfl | (trace_state; fail)
      try simp only [Act.put, List.setIfInBounds_toArray, List.set_cons_zero, List.set_cons_succ]
      apply sch_firm rfl rfl (by repeat (first | with_reducible exact Within.refl _ | with_reducible assumption | with_reducible refine Within.alloc ?_ _ | with_reducible refine Within.drew ?_ | with_reducible refine Within.drewN ?_ _ | with_reducible refine Within.setCell ?_ (by first | (simp; done) | (simp; omega)) _ | with_reducible refine Within.trans ?_ (by assumption)))
      · intro wq hq
        have hcq := hq.cells
        have gx := (hq.cell (p := ad.add k) (by rw [add_block]; exact hblk)).trans cx
        have gxb := Nat.lt_of_lt_of_le hblk hq.size
        have gy := (hq.cell (p := bd.add k) (by rw [add_block]; exact hblk')).trans cy
        have gyb := Nat.lt_of_lt_of_le hblk' hq.size
        clear hq
        go_simp
        first | rfl | (trace_state; fail)
      try simp only [Act.put, List.setIfInBounds_toArray, List.set_cons_zero, List.set_cons_succ]
      apply sch_firm rfl rfl (by repeat (first | with_reducible exact Within.refl _ | with_reducible assumption | with_reducible refine Within.alloc ?_ _ | with_reducible refine Within.drew ?_ | with_reducible refine Within.drewN ?_ _ | with_reducible refine Within.setCell ?_ (by first | (simp; done) | (simp; omega)) _ | with_reducible refine Within.trans ?_ (by assumption)))
      · intro wq hq
        have hcq := hq.cells
        have gx := (hq.cell (p := ad.add k) (by rw [add_block]; exact hblk)).trans cx
        have gxb := Nat.lt_of_lt_of_le hblk hq.size
        have gy := (hq.cell (p := bd.add k) (by rw [add_block]; exact hblk')).trans cy
        have gyb := Nat.lt_of_lt_of_le hblk' hq.size
        clear hq
        go_simp
        first | rfl | (trace_state; fail)
      try simp only [Act.put, List.setIfInBounds_toArray, List.set_cons_zero, List.set_cons_succ]
      refine sch_one rfl rfl (fun K hK => ?_)
      go_simp
      refine (CS.out _).mono ?_; rintro e5 w5 ⟨rfl, rfl⟩
      refine hK _ _ (fun _ => (by repeat (first | with_reducible exact Within.refl _ | with_reducible assumption | with_reducible refine Within.alloc ?_ _ | with_reducible refine Within.drew ?_ | with_reducible refine Within.drewN ?_ _ | with_reducible refine Within.setCell ?_ (by first | (simp; done) | (simp; omega)) _ | with_reducible refine Within.trans ?_ (by assumption)))) ?_
      clear hK K
      try simp only [Act.put, List.setIfInBounds_toArray, List.set_cons_zero, List.set_cons_succ]
      refine sch_one rfl rfl (fun K hK => ?_)
      go_simp
      refine hK _ _ (fun h => absurd h (by decide)) ?_
      clear hK K
      try simp only [Act.put, List.setIfInBounds_toArray, List.set_cons_zero, List.set_cons_succ]
      refine sch_nil ?_
      have hw4 : Within w _ := hw0.drew
      clear hw0
      go_wp2
      go_roundw
      case rel => exact ⟨k + 1, hlt, by go_num, hw4⟩
      case measure => simp [intOf]; omega
    · obtain rfl : k = l.length := by omega
      go_wp2
      go_ret
      exact ⟨rfl, hin⟩
set_option maxRecDepth 100000 in
set_option maxHeartbeats 600000 in
theorem l_any (A : Option Addr) (c : Nat) (l : List Nat) (hw : Words64 l) (hl : l.length * 8 ≤ 140737488355328) (w : World) (hr : SlAt w A (u64v l)) : Calls Tryz.prog 12 #[.slice A l.length c] w fun e w' => ∃ v, e = .returned v ∧ OwnF w' w.heap.size v l ∧ Within w w' := by
  have CO := Lib.hid (Rof64_any A c l hw hl w hr)
  clear hw hr
  go_enter Tryz.func12, Tryz.ntmps12
  go_wp2_with fail
  refine CO.out.mono ?_; rintro e1 w1 ⟨v, rfl, hO, hb1⟩
  have HO := Lib.hid hO; clear hO
  go_wp2
  go_ret
  exact ⟨_, rfl, HO.out, hb1⟩
theorem OwnF.lit0 (w : World) (base : Nat) (hb : base ≤ w.heap.size) : OwnF (w.alloc (.cells #[] 29)) base (.slice (some ⟨w.heap.size, 0, none⟩) 0 0) [] := by
  have h := World.ownsRow_lit (base := base) (e := 29) (size := 1) w #[] 0 hb (by decide) (by simp)
  unfold OwnF
  simpa [f64v] using h
set_option maxRecDepth 100000 in
set_option maxHeartbeats 600000 in
theorem eclone_any (A : Option Addr) (c : Nat) (l : List Nat) (hl : l.length * 8 ≤ 140737488355328) (w : World) (hr : SlAt w A (f64v l)) : Calls Tryz.prog 78 #[.slice A l.length c] w fun e w' => ∃ v, e = .returned v ∧ OwnF w' w.heap.size v l ∧ Within w w' := by
  rcases A with _ | ad
  · have h0 : l = [] := by
      rcases Nat.eq_zero_or_pos l.length with h | h
      · exact List.eq_nil_of_length_eq_zero h
      · obtain ⟨_, e, _⟩ := hr (by rw [f64v_len]; exact h); cases e
    subst h0
    clear hr
    have q : ∀ w : World, (binOp .eql 24 (.slice none 0 c) (.slice none 0 0)).run Tryz.prog w = .ok (.bool true) w := fun _ => by kernel_rfl
    go_enter Tryz.func78, Tryz.ntmps78
    go_wp2
    go_ret
    exact ⟨_, rfl, OwnF.nil_ _ _, Within.refl _⟩
  · have q : ∀ (n : Nat) (w : World), (binOp .eql 24 (.slice (some ad) n c) (.slice none 0 0)).run Tryz.prog w = .ok (.bool false) w := fun _ _ => by kernel_rfl
    have hin := (Within.refl w).alloc (.cells #[] 29)
    obtain ⟨v2, w2, hrun, hO2, hB2⟩ := run_app_f64 _ w.heap.size _ [] l (OwnF.lit0 w w.heap.size (Nat.le_refl _)) (some ad) c (hr.of hin) (by rw [List.length_nil]; omega) hin.size
    rw [List.nil_append] at hO2
    have hW2 : Within w w2 := Below.trans hin hB2
    have RUN := Lib.hid hrun; have HO := Lib.hid hO2; have HW := Lib.hid hW2; clear hrun hO2 hW2 hr hin hB2
    go_enter Tryz.func78, Tryz.ntmps78
    go_wp2_with (at_builtin; refine wpList_append_run rfl (.tmp 5) (.tmp 6) 24 rfl _ _ rfl rfl RUN.out ?_)
    go_ret
    exact ⟨_, rfl, HO.out, HW.out⟩
theorem rGrow_any (A : Option Addr) (c : Nat) (es : List Nat) (hw : Words64 es) (hl : es.length ≤ 1152921504606846976) (b : Nat) (hb : b < 18446744073709551616) (w : World) (hr : SlAt w A (f64v es)) : Calls Tryz.prog 15 #[.slice A es.length c, .float .f64 b] w (ResF w (growL es b) (growEr es b)) := by
  have GD : Hid (∀ w, SlAt w A (f64v es) → Calls Tryz.prog 18 #[.slice A es.length c] w fun e w' => e = .returned (.int .i64 (chkE es)) ∧ Within w w') := Lib.hid (fun w hr => rgood_any A c es hw hl w hr)
  have FI : Hid (∀ w, Calls Tryz.prog 69 #[.float .f64 b] w fun e w' => e = .returned (.bool (finW b)) ∧ w = w') := Lib.hid (fun w => by rw [← finD_is hb]; exact Rfinite b hb w)
  unfold growL growEr
  by_cases h0 : chkE es = 0
  · rw [if_pos h0, if_pos h0]
    have h64 := chk_len h0
    rw [h0] at GD
    cases hf : finW b
    · rw [if_neg (by decide), if_neg (by decide)]; rw [hf] at FI; exact rgrow_num A c es b GD FI w hr
    · rw [if_pos rfl, if_pos rfl]; rw [hf] at FI; exact rgrow_main A c es b hw (Nat.le_trans h64 (by decide)) hb GD FI w hr
  · rw [if_neg h0, if_neg h0]; exact rgrow_bad A c es b (chkE es) (by simpa using h0) GD w hr
set_option maxRecDepth 100000 in
set_option maxHeartbeats 600000 in
theorem eAdd_bad1 (A B : Option Addr) (c d : Nat) (es fs : List Nat) (hw : Words64 es) (hwf : Words64 fs) (hl : es.length * 8 ≤ 140737488355328) (hlf : fs.length * 8 ≤ 140737488355328) (v : Int) (hv : chkE es = v) (h0 : (v != 0) = true) (w : World) (hT : Tab w) (hr : SlAt w A (f64v es)) (hrf : SlAt w B (f64v fs)) : Calls Tryz.prog 19 #[.slice A es.length c, .slice B fs.length d] w (ResF w [] v) := by
  have HWE := Lib.hid hw; have HWF := Lib.hid hwf; have HRE := Lib.hid hr; have HRF := Lib.hid hrf; clear hr hrf
  have HT := Lib.hid hT; clear hT
  have CE := Lib.hid (fun w hT hr => echeck_any A c es hw (by omega) w hT hr)
  rw [hv] at CE
  clear hv hw hwf
  go_enter Tryz.func19, Tryz.ntmps19
  go_wp2_with fail
  refine (CE.out _ HT.out HRE.out).mono ?_; rintro e1 w1 ⟨rfl, hb1⟩
  go_wp2
  go_ret2
  exact ResF.none_ v hb1
set_option maxRecDepth 100000 in
set_option maxHeartbeats 600000 in
theorem eAdd_bad2 (A B : Option Addr) (c d : Nat) (es fs : List Nat) (hw : Words64 es) (hwf : Words64 fs) (hl : es.length * 8 ≤ 140737488355328) (hlf : fs.length * 8 ≤ 140737488355328) (h1 : chkE es = 0) (v : Int) (hv : chkE fs = v) (h0 : (v != 0) = true) (w : World) (hT : Tab w) (hr : SlAt w A (f64v es)) (hrf : SlAt w B (f64v fs)) : Calls Tryz.prog 19 #[.slice A es.length c, .slice B fs.length d] w (ResF w [] v) := by
  have HWE := Lib.hid hw; have HWF := Lib.hid hwf; have HRE := Lib.hid hr; have HRF := Lib.hid hrf; clear hr hrf
  have HT := Lib.hid hT; clear hT
  have CE := Lib.hid (fun w hT hr => echeck_any A c es hw (by omega) w hT hr)
  have CF := Lib.hid (fun w hT hr => echeck_any B d fs hwf (by omega) w hT hr)
  rw [h1] at CE
  rw [hv] at CF
  clear hv h1 hw hwf
  go_enter Tryz.func19, Tryz.ntmps19
  go_wp2_with fail
  refine (CE.out _ HT.out HRE.out).mono ?_; rintro e1 w1 ⟨rfl, hb1⟩
  go_wp2_with fail
  refine (CF.out _ (HT.out.of hb1) (HRF.out.of hb1)).mono ?_; rintro e2 w2 ⟨rfl, hb2⟩
  go_wp2
  go_ret2
  exact ResF.none_ v (hb1.trans hb2)
set_option maxRecDepth 100000 in
set_option maxHeartbeats 2000000 in
theorem eAdd_main (A B : Option Addr) (c d : Nat) (es fs : List Nat) (hw : Words64 es) (hwf : Words64 fs) (hl : es.length * 8 ≤ 140737488355328) (hlf : fs.length * 8 ≤ 140737488355328) (h1 : chkE es = 0) (h2 : chkE fs = 0) (w : World) (hT : Tab w) (hr : SlAt w A (f64v es)) (hrf : SlAt w B (f64v fs)) : Calls Tryz.prog 19 #[.slice A es.length c, .slice B fs.length d] w (ResF w (addL es fs).1 (addL es fs).2) := by
  have HWE := Lib.hid hw; have HWF := Lib.hid hwf; have HRE := Lib.hid hr; have HRF := Lib.hid hrf; clear hr hrf
  have HT := Lib.hid hT; clear hT
  have CE := Lib.hid (fun w hT hr => echeck_any A c es hw (by omega) w hT hr)
  have CF := Lib.hid (fun w hT hr => echeck_any B d fs hwf (by omega) w hT hr)
  rw [h1] at CE
  rw [h2] at CF
  clear h1 h2 hw hwf
  go_enter Tryz.func19, Tryz.ntmps19
  go_wp2_with fail
  refine (CE.out _ HT.out HRE.out).mono ?_; rintro e1 w1 ⟨rfl, hb1⟩
  go_wp2_with fail
  refine (CF.out _ (HT.out.of hb1) (HRF.out.of hb1)).mono ?_; rintro e2 w2 ⟨rfl, hb2⟩
  have CC := Lib.hid (fun w hr => eclone_any A c es hl w hr)
  go_wp2_with fail
  refine (CC.out _ (HRE.out.of (hb1.trans hb2))).mono ?_; rintro e3 w3 ⟨v3, rfl, hO3, hb3⟩
  have hw3 := (hb1.trans hb2).trans hb3
  have hO3' := hO3.less (hb1.trans hb2).size
  obtain ⟨A3, c3, rfl, _, _, _⟩ := hO3'.form
  have HO3 := Lib.hid hO3'; clear hO3' hO3
  go_wp2
  go_loopw [8, 26] (fun sv iv wr => ∃ (k : Nat) (A' : Option Addr) (c' : Nat) (s : List Nat), k ≤ fs.length ∧ iv = .int .i64 (k : Int) ∧ sv = .slice A' s.length c' ∧ OwnF wr w.heap.size (.slice A' s.length c') s ∧ Words64 s ∧ s.length ≤ 1152921504606846976 ∧ addL es fs = addL s (fs.drop k) ∧ Within w wr) (fun _ iv _ => fs.length - (intOf iv).toNat)
  case atStart => exact ⟨0, A3, c3, es, Nat.zero_le _, rfl, rfl, HO3.out, HWE.out, by omega, rfl, hw3⟩
  case round =>
    obtain ⟨k, A', c', s, hk, rfl, rfl, hO, hws, hls, hadd, hin⟩ := hrel
    have HO := Lib.hid hO; have HWS := Lib.hid hws; have HLS := Lib.hid hls; have HADD := Lib.hid hadd; clear hO hws hls hadd
    by_cases hlt : k < fs.length
    · obtain ⟨ad, rfl, hblk, hc⟩ := (HRF.out.of hin).at hlt
      have hd : fs.drop k = fs.getD k 0 :: fs.drop (k + 1) := by rw [List.drop_eq_getElem_cons hlt, List.getD, List.getElem?_eq_getElem hlt]; rfl
      obtain ⟨x, hx⟩ : ∃ x, x = fs.getD k 0 := ⟨_, rfl⟩
      have hx64 : x < 18446744073709551616 := by rw [hx]; exact HWF.out.at hlt
      rw [← hx] at hc hd
      clear hx
      obtain ⟨A2, c2, he, _, hs2, _⟩ := HO.out.form
      obtain ⟨rfl, rfl⟩ : A' = A2 ∧ c' = c2 := by injection he with h1 _ h2; exact ⟨h1, h2⟩
      clear he
      have HS2 := Lib.hid hs2; clear hs2
      have GW := Lib.hid (eGrow_any A' c' s HWS.out HLS.out x hx64 _ (HT.out.of hin) HS2.out)
      have hsp : addL es fs = if growEr s x = 0 then addL (toW (growL s x)) (fs.drop (k + 1)) else ([], growEr s x) := by rw [HADD.out, hd]; rfl
      by_cases h0 : growEr s x = 0
      · rw [if_pos h0] at hsp
        have GR := Lib.hid (fun ls hls hm => grow_res (ls := ls) HWS.out h0 hls hm)
        rw [h0] at GW
        have HSP := Lib.hid hsp; clear hsp h0 hd hx64
        go_wp2_with fail
        refine GW.out.mono ?_; rintro e4 w4 ⟨sv, ls, rfl, hO4, hws4, hm4, hb4⟩
        obtain ⟨r1, r2, _⟩ := GR.out ls hws4 hm4
        rw [← r1] at HSP
        have hl4 : ls.length ≤ 1152921504606846976 := Nat.le_trans (isB_len r2) (by decide)
        have hO5 := hO4.less hin.size
        obtain ⟨A5, c5, rfl, _, _, _⟩ := hO5.form
        have HO5 := Lib.hid hO5; have HW4 := Lib.hid hws4; have HL4 := Lib.hid hl4; have HIN := Lib.hid (hin.trans hb4); clear hO4 hO5 hws4 hm4 hl4 r1 r2 hin hb4
        go_wp2
        go_roundw
        case rel => exact ⟨k + 1, A5, c5, ls, hlt, by go_num, rfl, HO5.out, HW4.out, HL4.out, HSP.out, HIN.out⟩
        case measure => simp [intOf]; omega
      · rw [if_neg h0] at hsp
        obtain ⟨er, her⟩ : ∃ er, er = growEr s x := ⟨_, rfl⟩
        rw [← her] at GW hsp h0
        have hne : (er != 0) = true := by simpa using h0
        have HSP := Lib.hid hsp; clear hsp h0 hd hx64 her
        go_wp2_with fail
        refine GW.out.mono ?_; rintro e4 w4 ⟨sv, ls, rfl, hO4, hws4, hm4, hb4⟩
        have HIN := Lib.hid (hin.trans hb4); clear hO4 hws4 hm4 hin hb4
        go_wp2
        go_ret2
        rw [HSP.out]
        exact ResF.none_ er HIN.out
    · obtain rfl : k = fs.length := by omega
      have hend : addL es fs = (s.map fv, 0) := by rw [HADD.out, List.drop_length]; rfl
      have HE := Lib.hid hend; clear hend
      go_wp2
      go_ret2
      rw [HE.out]
      exact ⟨_, s, rfl, HO.out, HWS.out, rfl, hin⟩
theorem eAdd_any (A B : Option Addr) (c d : Nat) (es fs : List Nat) (hw : Words64 es) (hwf : Words64 fs) (hl : es.length * 8 ≤ 140737488355328) (hlf : fs.length * 8 ≤ 140737488355328) (w : World) (hT : Tab w) (hr : SlAt w A (f64v es)) (hrf : SlAt w B (f64v fs)) : Calls Tryz.prog 19 #[.slice A es.length c, .slice B fs.length d] w (ResF w (addR es fs).1 (addR es fs).2) := by
  unfold addR
  by_cases h1 : chkE es = 0
  · rw [if_pos h1]
    by_cases h2 : chkE fs = 0
    · rw [if_pos h2]; exact eAdd_main A B c d es fs hw hwf hl hlf h1 h2 w hT hr hrf
    · rw [if_neg h2]; exact eAdd_bad2 A B c d es fs hw hwf hl hlf h1 _ rfl (by simpa using h2) w hT hr hrf
  · rw [if_neg h1]; exact eAdd_bad1 A B c d es fs hw hwf hl hlf _ rfl (by simpa using h1) w hT hr hrf
set_option maxRecDepth 100000 in
set_option maxHeartbeats 600000 in
theorem rAdd_bad1 (A B : Option Addr) (c d : Nat) (es fs : List Nat) (hw : Words64 es) (hwf : Words64 fs) (hl : es.length * 8 ≤ 140737488355328) (hlf : fs.length * 8 ≤ 140737488355328) (v : Int) (hv : chkE es = v) (h0 : (v != 0) = true) (w : World) (hr : SlAt w A (f64v es)) (hrf : SlAt w B (f64v fs)) : Calls Tryz.prog 20 #[.slice A es.length c, .slice B fs.length d] w (ResF w [] v) := by
  have HWE := Lib.hid hw; have HWF := Lib.hid hwf; have HRE := Lib.hid hr; have HRF := Lib.hid hrf; clear hr hrf
  have CE := Lib.hid (fun w hr => rgood_any A c es hw (by omega) w hr)
  rw [hv] at CE
  clear hv hw hwf
  go_enter Tryz.func20, Tryz.ntmps20
  go_wp2_with fail
  refine (CE.out _ HRE.out).mono ?_; rintro e1 w1 ⟨rfl, hb1⟩
  go_wp2
  go_ret2
  exact ResF.none_ v hb1
set_option maxRecDepth 100000 in
set_option maxHeartbeats 600000 in
theorem rAdd_bad2 (A B : Option Addr) (c d : Nat) (es fs : List Nat) (hw : Words64 es) (hwf : Words64 fs) (hl : es.length * 8 ≤ 140737488355328) (hlf : fs.length * 8 ≤ 140737488355328) (h1 : chkE es = 0) (v : Int) (hv : chkE fs = v) (h0 : (v != 0) = true) (w : World) (hr : SlAt w A (f64v es)) (hrf : SlAt w B (f64v fs)) : Calls Tryz.prog 20 #[.slice A es.length c, .slice B fs.length d] w (ResF w [] v) := by
  have HWE := Lib.hid hw; have HWF := Lib.hid hwf; have HRE := Lib.hid hr; have HRF := Lib.hid hrf; clear hr hrf
  have CE := Lib.hid (fun w hr => rgood_any A c es hw (by omega) w hr)
  have CF := Lib.hid (fun w hr => rgood_any B d fs hwf (by omega) w hr)
  rw [h1] at CE
  rw [hv] at CF
  clear hv h1 hw hwf
  go_enter Tryz.func20, Tryz.ntmps20
  go_wp2_with fail
  refine (CE.out _ HRE.out).mono ?_; rintro e1 w1 ⟨rfl, hb1⟩
  go_wp2_with fail
  refine (CF.out _ (HRF.out.of hb1)).mono ?_; rintro e2 w2 ⟨rfl, hb2⟩
  go_wp2
  go_ret2
  exact ResF.none_ v (hb1.trans hb2)
set_option maxRecDepth 100000 in
set_option maxHeartbeats 2000000 in
theorem rAdd_main (A B : Option Addr) (c d : Nat) (es fs : List Nat) (hw : Words64 es) (hwf : Words64 fs) (hl : es.length * 8 ≤ 140737488355328) (hlf : fs.length * 8 ≤ 140737488355328) (h1 : chkE es = 0) (h2 : chkE fs = 0) (w : World) (hr : SlAt w A (f64v es)) (hrf : SlAt w B (f64v fs)) : Calls Tryz.prog 20 #[.slice A es.length c, .slice B fs.length d] w (ResF w (addL es fs).1 (addL es fs).2) := by
  have HWE := Lib.hid hw; have HWF := Lib.hid hwf; have HRE := Lib.hid hr; have HRF := Lib.hid hrf; clear hr hrf
  have CE := Lib.hid (fun w hr => rgood_any A c es hw (by omega) w hr)
  have CF := Lib.hid (fun w hr => rgood_any B d fs hwf (by omega) w hr)
  rw [h1] at CE
  rw [h2] at CF
  clear h1 h2 hw hwf
  go_enter Tryz.func20, Tryz.ntmps20
  go_wp2_with fail
  refine (CE.out _ HRE.out).mono ?_; rintro e1 w1 ⟨rfl, hb1⟩
  go_wp2_with fail
  refine (CF.out _ (HRF.out.of hb1)).mono ?_; rintro e2 w2 ⟨rfl, hb2⟩
  have hin := (hb1.trans hb2).alloc (.cells #[] 29)
  obtain ⟨v3, w3, hrun, hO3', hB3⟩ := run_app_f64 _ w.heap.size _ [] es (OwnF.lit0 w2 w.heap.size (hb1.trans hb2).size) A c (HRE.out.of hin) (by rw [List.length_nil]; omega) hin.size
  rw [List.nil_append] at hO3'
  have hw3 : Within w w3 := Below.trans hin hB3
  have RUN := Lib.hid hrun; clear hrun hin hB3
  obtain ⟨A3, c3, rfl, _, _, _⟩ := hO3'.form
  have HO3 := Lib.hid hO3'; clear hO3'
  go_wp2_with (at_builtin; refine wpList_append_run rfl (.tmp 22) (.tmp 23) 24 rfl _ _ rfl rfl RUN.out ?_)
  go_loopw [8, 9] (fun sv iv wr => ∃ (k : Nat) (A' : Option Addr) (c' : Nat) (s : List Nat), k ≤ fs.length ∧ iv = .int .i64 (k : Int) ∧ sv = .slice A' s.length c' ∧ OwnF wr w.heap.size (.slice A' s.length c') s ∧ Words64 s ∧ s.length ≤ 1152921504606846976 ∧ addL es fs = addL s (fs.drop k) ∧ Within w wr) (fun _ iv _ => fs.length - (intOf iv).toNat)
  case atStart => exact ⟨0, A3, c3, es, Nat.zero_le _, rfl, rfl, HO3.out, HWE.out, by omega, rfl, hw3⟩
  case round =>
    obtain ⟨k, A', c', s, hk, rfl, rfl, hO, hws, hls, hadd, hin⟩ := hrel
    have HO := Lib.hid hO; have HWS := Lib.hid hws; have HLS := Lib.hid hls; have HADD := Lib.hid hadd; clear hO hws hls hadd
    by_cases hlt : k < fs.length
    · obtain ⟨ad, rfl, hblk, hc⟩ := (HRF.out.of hin).at hlt
      have hd : fs.drop k = fs.getD k 0 :: fs.drop (k + 1) := by rw [List.drop_eq_getElem_cons hlt, List.getD, List.getElem?_eq_getElem hlt]; rfl
      obtain ⟨x, hx⟩ : ∃ x, x = fs.getD k 0 := ⟨_, rfl⟩
      have hx64 : x < 18446744073709551616 := by rw [hx]; exact HWF.out.at hlt
      rw [← hx] at hc hd
      clear hx
      obtain ⟨A2, c2, he, _, hs2, _⟩ := HO.out.form
      obtain ⟨rfl, rfl⟩ : A' = A2 ∧ c' = c2 := by injection he with h1 _ h2; exact ⟨h1, h2⟩
      clear he
      have HS2 := Lib.hid hs2; clear hs2
      have GW := Lib.hid (rGrow_any A' c' s HWS.out HLS.out x hx64 _ HS2.out)
      have hsp : addL es fs = if growEr s x = 0 then addL (toW (growL s x)) (fs.drop (k + 1)) else ([], growEr s x) := by rw [HADD.out, hd]; rfl
      by_cases h0 : growEr s x = 0
      · rw [if_pos h0] at hsp
        have GR := Lib.hid (fun ls hls hm => grow_res (ls := ls) HWS.out h0 hls hm)
        rw [h0] at GW
        have HSP := Lib.hid hsp; clear hsp h0 hd hx64
        go_wp2_with fail
        refine GW.out.mono ?_; rintro e4 w4 ⟨sv, ls, rfl, hO4, hws4, hm4, hb4⟩
        obtain ⟨r1, r2, _⟩ := GR.out ls hws4 hm4
        rw [← r1] at HSP
        have hl4 : ls.length ≤ 1152921504606846976 := Nat.le_trans (isB_len r2) (by decide)
        have hO5 := hO4.less hin.size
        obtain ⟨A5, c5, rfl, _, _, _⟩ := hO5.form
        have HO5 := Lib.hid hO5; have HW4 := Lib.hid hws4; have HL4 := Lib.hid hl4; have HIN := Lib.hid (hin.trans hb4); clear hO4 hO5 hws4 hm4 hl4 r1 r2 hin hb4
        go_wp2
        go_roundw
        case rel => exact ⟨k + 1, A5, c5, ls, hlt, by go_num, rfl, HO5.out, HW4.out, HL4.out, HSP.out, HIN.out⟩
        case measure => simp [intOf]; omega
      · rw [if_neg h0] at hsp
        obtain ⟨er, her⟩ : ∃ er, er = growEr s x := ⟨_, rfl⟩
        rw [← her] at GW hsp h0
        have hne : (er != 0) = true := by simpa using h0
        have HSP := Lib.hid hsp; clear hsp h0 hd hx64 her
        go_wp2_with fail
        refine GW.out.mono ?_; rintro e4 w4 ⟨sv, ls, rfl, hO4, hws4, hm4, hb4⟩
        have HIN := Lib.hid (hin.trans hb4); clear hO4 hws4 hm4 hin hb4
        go_wp2
        go_ret2
        rw [HSP.out]
        exact ResF.none_ er HIN.out
    · obtain rfl : k = fs.length := by omega
      have hend : addL es fs = (s.map fv, 0) := by rw [HADD.out, List.drop_length]; rfl
      have HE := Lib.hid hend; clear hend
      go_wp2
      go_ret2
      rw [HE.out]
      exact ⟨_, s, rfl, HO.out, HWS.out, rfl, hin⟩
theorem rAdd_any (A B : Option Addr) (c d : Nat) (es fs : List Nat) (hw : Words64 es) (hwf : Words64 fs) (hl : es.length * 8 ≤ 140737488355328) (hlf : fs.length * 8 ≤ 140737488355328) (w : World) (hr : SlAt w A (f64v es)) (hrf : SlAt w B (f64v fs)) : Calls Tryz.prog 20 #[.slice A es.length c, .slice B fs.length d] w (ResF w (addR es fs).1 (addR es fs).2) := by
  unfold addR
  by_cases h1 : chkE es = 0
  · rw [if_pos h1]
    by_cases h2 : chkE fs = 0
    · rw [if_pos h2]; exact rAdd_main A B c d es fs hw hwf hl hlf h1 h2 w hr hrf
    · rw [if_neg h2]; exact rAdd_bad2 A B c d es fs hw hwf hl hlf h1 _ rfl (by simpa using h2) w hr hrf
  · rw [if_neg h1]; exact rAdd_bad1 A B c d es fs hw hwf hl hlf _ rfl (by simpa using h1) w hr hrf
end Go.Proofs.YtjmaggfddinbkaaGreatDoor
end

section
namespace Go.Proofs.YtjmaggfddinbkaaGreatDoor
open Go.RowKit
theorem canon_fin {ls : List Nat} (h : ∀ x ∈ ls, x % 9223372036854775808 < 9218868437227405312) : ∀ x ∈ ls, canonD x = x := fun x hx => fin_canon (h x hx)
theorem fv_nil {ls : List Nat} (h : ls.map fv = []) : ls = [] := List.map_eq_nil_iff.1 h
theorem isB_fins {ls : List Nat} (hw : Words64 ls) (h : isB ls = true) : ∀ x ∈ ls, x % 9223372036854775808 < 9218868437227405312 := ((isB_iff hw).1 h).2.1
theorem grow_alike {es l1 l2 : List Nat} {b : Nat} (hw : Words64 es) (w1 : Words64 l1) (w2 : Words64 l2) (h1 : l1.map fv = growL es b) (h2 : l2.map fv = growL es b) : l1 = l2 ∧ (∀ x ∈ l1, canonD x = x) ∧ l1.length ≤ 1152921504606846976 := by
  by_cases h0 : growEr es b = 0
  · obtain ⟨r1, r2, _⟩ := grow_res hw h0 w1 h1
    obtain ⟨r3, _, _⟩ := grow_res hw h0 w2 h2
    exact ⟨r1.trans r3.symm, canon_fin (isB_fins w1 r2), Nat.le_trans (isB_len r2) (by decide)⟩
  · have e : growL es b = [] := by
      unfold growEr at h0
      unfold growL
      by_cases c : chkE es = 0
      · rw [if_pos c] at h0 ⊢
        cases hb : finW b
        · rw [if_neg Bool.false_ne_true]
        · rw [hb, if_pos rfl] at h0
          rw [if_pos rfl]; unfold Lay.out; rw [if_neg h0]
      · rw [if_neg c]
    rw [e] at h1 h2
    rw [fv_nil h1, fv_nil h2]
    exact ⟨rfl, fun x hx => absurd hx (by simp), by decide⟩
def Bd (v : Option Nat) : Prop := ∀ x, v = some x → x < 18446744073709551616
theorem fop_bd (op : BinOp) (a b : Option Nat) : Bd (fop op a b) := by
  intro r h
  cases a with
  | none => cases h
  | some x =>
    cases b with
    | none => cases h
    | some y => exact (floatBits_sane (show floatBits op .f64 x y = some r from h)).1
theorem fv_bd {x : Nat} (h : x < 18446744073709551616) : Bd (fv x) := by
  intro r hr
  unfold fv at hr
  split at hr
  · cases hr
  · rw [← Option.some.inj hr]; exact h
theorem layV_bd {l : List (Option Nat)} {v : Option Nat} (h : ∀ u ∈ l, Bd u) (hv : Bd v) : ∀ u ∈ layV l v, Bd u := by
  unfold layV
  split
  · intro u hu
    rcases List.mem_append.1 hu with g | g
    · exact h u g
    · rw [List.mem_singleton.1 g]; exact hv
  · exact h
theorem grow_bd : ∀ (es : List (Option Nat)) (s : Lay), Bd s.q → (∀ u ∈ s.l, Bd u) → Bd (es.foldl growStep s).q ∧ ∀ u ∈ (es.foldl growStep s).l, Bd u
  | [], _, h1, h2 => ⟨h1, h2⟩
  | e :: es, s, h1, h2 => grow_bd es (growStep s e) (fop_bd _ _ _) (layV_bd h2 (fop_bd _ _ _))
theorem toW_words {L : List (Option Nat)} (h : ∀ u ∈ L, Bd u) : Words64 (toW L) := by
  intro x hx
  unfold toW at hx
  obtain ⟨v, hv, rfl⟩ := List.mem_map.1 hx
  cases v with
  | none => exact (by decide : (0 : Nat) < 18446744073709551616)
  | some y => exact h _ hv y rfl
theorem toW_back : ∀ {L : List (Option Nat)} {zs : List Int}, FzL L zs → (toW L).map fv = L
  | [], [], _ => rfl
  | v :: L, z :: zs, h => by
    obtain ⟨x, rfl, hx, _⟩ := h.1
    have h2 := toW_back (L := L) h.2
    unfold toW at h2 ⊢
    rw [List.map_cons, List.map_cons, h2]
    show fv x :: L = _
    rw [show fv x = some x from if_neg (by omega)]
  | [], _ :: _, h => h.elim
  | _ :: _, [], h => h.elim
theorem words_toW {es : List Nat} {b : Nat} (h0 : growEr es b = 0) (hw : Words64 es) (hb64 : b < 18446744073709551616) : Words64 (toW (growL es b)) ∧ (toW (growL es b)).map fv = growL es b := by
  obtain ⟨h1, h2, h3, h4⟩ := growEr_zero h0
  obtain ⟨h5, h6⟩ := err_zero h3
  obtain ⟨k1, k2, k3⟩ := isB_words hw (chkE_zero.1 h1)
  have hb : Fz (fv b) (Fp.un Ieee.double b) := fz_of (of_decide_eq_true h2)
  have hf := grow_keeps k1 hb h5
  rw [← h4] at hf
  refine ⟨toW_words ?_, toW_back hf⟩
  rw [h4]
  obtain ⟨g1, g2⟩ := grow_bd (es.map fv) ⟨fv b, [], false⟩ (fv_bd hb64) (fun u hu => absurd hu (by simp))
  exact layV_bd g2 g1
theorem addL_res : ∀ {fs es : List Nat}, Words64 es → isB es = true → Words64 fs → (addL es fs).2 = 0 → ∀ {ls : List Nat}, Words64 ls → ls.map fv = (addL es fs).1 → isB ls = true ∧ ls = toW (addL es fs).1 ∧ (unL ls).sum = (unL es).sum + (unL fs).sum
  | [], es, hw, he, _, _, ls, hws, hm => by
    have hf := isB_fins hw he
    have hm' : ls.map fv = es.map fv := hm
    have e1 : toW (es.map fv) = es := toW_fv hf
    have hl : ls = es := by
      obtain ⟨h1, h2⟩ := fzL_unL (es := ls) (zs := unL es) (by rw [hm']; exact fzL_words hf)
      rw [← toW_fv h1, hm', e1]
    subst hl
    exact ⟨he, e1.symm, by unfold unL; rw [List.map_nil, List.sum_nil, Int.add_zero]⟩
  | b :: fs, es, hw, he, hwf, h0, ls, hws, hm => by
    unfold addL at h0 hm ⊢
    by_cases hg : growEr es b = 0
    · rw [if_pos hg] at h0 hm ⊢
      have hb := hwf b (List.mem_cons_self ..)
      obtain ⟨r1, r2⟩ := words_toW hg hw hb
      obtain ⟨r3, r4, r5⟩ := grow_res hw hg r1 r2
      obtain ⟨q1, q2, q3⟩ := addL_res r1 r4 (fun x hx => hwf x (List.mem_cons_of_mem _ hx)) h0 hws hm
      refine ⟨q1, q2, ?_⟩
      rw [q3, r5, grow_sum]
      unfold unL
      rw [List.map_cons, List.sum_cons]; omega
    · rw [if_neg hg] at h0
      exact absurd h0 hg
theorem addL_nil : ∀ {fs es : List Nat}, (addL es fs).2 ≠ 0 → (addL es fs).1 = []
  | [], _, h => absurd rfl h
  | b :: fs, es, h => by
    unfold addL at h ⊢
    by_cases hg : growEr es b = 0
    · rw [if_pos hg] at h ⊢; exact addL_nil h
    · rw [if_neg hg]
theorem addR_zero {es fs : List Nat} (h : (addR es fs).2 = 0) : isB es = true ∧ isB fs = true ∧ addR es fs = addL es fs := by
  unfold addR at h ⊢
  by_cases h1 : chkE es = 0
  · rw [if_pos h1] at h ⊢
    by_cases h2 : chkE fs = 0
    · rw [if_pos h2]; exact ⟨chkE_zero.1 h1, chkE_zero.1 h2, rfl⟩
    · rw [if_neg h2] at h; exact absurd h h2
  · rw [if_neg h1] at h; exact absurd h h1
theorem addR_res {es fs ls : List Nat} (hw : Words64 es) (hwf : Words64 fs) (h0 : (addR es fs).2 = 0) (hws : Words64 ls) (hm : ls.map fv = (addR es fs).1) : isB ls = true ∧ ls = toW (addR es fs).1 ∧ (unL ls).sum = (unL es).sum + (unL fs).sum := by
  obtain ⟨h1, h2, h3⟩ := addR_zero h0
  rw [h3] at h0 hm ⊢
  exact addL_res hw h1 hwf h0 hws hm
theorem addR_nil {es fs : List Nat} (h : (addR es fs).2 ≠ 0) : (addR es fs).1 = [] := by
  unfold addR at h ⊢
  by_cases h1 : chkE es = 0
  · rw [if_pos h1] at h ⊢
    by_cases h2 : chkE fs = 0
    · rw [if_pos h2] at h ⊢; exact addL_nil h
    · rw [if_neg h2]
  · rw [if_neg h1]
theorem add_alike {es fs l1 l2 : List Nat} (hw : Words64 es) (hwf : Words64 fs) (w1 : Words64 l1) (w2 : Words64 l2) (h1 : l1.map fv = (addR es fs).1) (h2 : l2.map fv = (addR es fs).1) : l1 = l2 ∧ (∀ x ∈ l1, canonD x = x) ∧ l1.length ≤ 1152921504606846976 := by
  by_cases h0 : (addR es fs).2 = 0
  · obtain ⟨r1, r2, _⟩ := addR_res hw hwf h0 w1 h1
    obtain ⟨r3, r4, _⟩ := addR_res hw hwf h0 w2 h2
    exact ⟨r2.trans r4.symm, canon_fin (isB_fins w1 r1), Nat.le_trans (isB_len r1) (by decide)⟩
  · rw [addR_nil h0] at h1 h2
    rw [fv_nil h1, fv_nil h2]
    exact ⟨rfl, fun x hx => absurd hx (by simp), by decide⟩
theorem chk_is (es : List Nat) : (isB es != (chkE es == 0)) = false := by
  by_cases h : chkE es = 0
  · rw [h, chkE_zero.1 h]; rfl
  · have h2 : isB es = false := by
      cases hb : isB es
      · rfl
      · exact absurd (chkE_zero.2 hb) h
    have h3 : (chkE es == 0) = false := by simpa using h
    rw [h2, h3]; rfl
end Go.Proofs.YtjmaggfddinbkaaGreatDoor
end

section
namespace Go.Proofs.YtjmaggfddinbkaaGreatDoor
open Go.RowKit
set_option maxRecDepth 100000 in
set_option maxHeartbeats 4000000 in
theorem expansions_walk (A : Option Addr) (c : Nat) (x : List Nat) (hwx : Words64 x) (hlx : x.length * 8 ≤ 140737488355328) (B : Option Addr) (d : Nat) (y : List Nat) (hwy : Words64 y) (hly : y.length * 8 ≤ 140737488355328) (z : Nat) (hz : z < 18446744073709551616) (w : World) (hT : Tab w) (hrx : SlAt w A (u64v x)) (hry : SlAt w B (u64v y)) : Calls Tryz.prog 3 #[.slice A x.length c, .slice B y.length d, .int .u64 (z : Int)] w fun e w' => e = .returned (.bool true) ∧ Within w w' := by
  have hz2 := hz
  have RX := Lib.hid hrx; have RY := Lib.hid hry; have WX := Lib.hid hwx; have WY := Lib.hid hwy; have HT := Lib.hid hT; clear hrx hry hwx hwy hT hz
  have hlx2 : x.length ≤ 1152921504606846976 := by omega
  have hly2 : y.length ≤ 1152921504606846976 := by omega
  have AW := Lib.hid (fun w hT => awake_true w hT)
  have hcb := chk_is x
  obtain ⟨gr, hgr⟩ : ∃ gr, gr = growEr x z := ⟨_, rfl⟩
  obtain ⟨ar, har⟩ : ∃ ar, ar = (addR x y).2 := ⟨_, rfl⟩
  obtain ⟨ck, hck⟩ : ∃ ck, ck = chkE x := ⟨_, rfl⟩
  obtain ⟨ib, hib⟩ : ∃ ib, ib = isB x := ⟨_, rfl⟩
  have GX := Lib.hid (fun A c w hT hr => eGrow_any A c x WX.out hlx2 z hz2 w hT hr)
  have RG := Lib.hid (fun A c w hr => rGrow_any A c x WX.out hlx2 z hz2 w hr)
  have AX := Lib.hid (fun A B c d w hT hr hr2 => eAdd_any A B c d x y WX.out WY.out hlx hly w hT hr hr2)
  have RA := Lib.hid (fun A B c d w hr hr2 => rAdd_any A B c d x y WX.out WY.out hlx hly w hr hr2)
  have IX := Lib.hid (fun A c w hT hr => eis_any A c x WX.out hlx2 w hT hr)
  have GD := Lib.hid (fun A c w hr => rgood_any A c x WX.out hlx2 w hr)
  rw [← hgr] at GX RG
  rw [← har] at AX RA
  rw [← hck] at GD hcb
  rw [← hib] at IX hcb
  have hcb2 : (!(ib == (ck == 0))) = false := by revert hcb; cases ib <;> cases (ck == 0) <;> decide
  clear hgr har hck hib hz2
  go_enter Tryz.func3, Tryz.ntmps3
  have L1 := Lib.hid (fun w hr => l_any A c x WX.out (by assumption) w hr)
  go_wp2_with fail
  refine (L1.out _ (RX.out.of (by repeat (first | with_reducible exact Within.refl _ | with_reducible assumption | with_reducible refine arW_within ?_ _ _ _ | with_reducible refine Within.alloc ?_ _ | with_reducible refine Within.drew ?_ | with_reducible refine Within.trans ?_ (by assumption))))).mono ?_; rintro e1 w1 ⟨v1, rfl, hO1, hb1⟩
  obtain ⟨A1, c1, rfl, _, hs1, _⟩ := hO1.form
  have HS1 := Lib.hid hs1; clear hs1 hO1 L1
  have L2 := Lib.hid (fun w hr => l_any B d y WY.out (by assumption) w hr)
  go_wp2_with fail
  refine (L2.out _ (RY.out.of (by repeat (first | with_reducible exact Within.refl _ | with_reducible assumption | with_reducible refine arW_within ?_ _ _ _ | with_reducible refine Within.alloc ?_ _ | with_reducible refine Within.drew ?_ | with_reducible refine Within.trans ?_ (by assumption))))).mono ?_; rintro e2 w2 ⟨v2, rfl, hO2, hb2⟩
  obtain ⟨A2, c2, rfl, _, hs2, _⟩ := hO2.form
  have HS2 := Lib.hid hs2; clear hs2 hO2 L2
  have L3 := Lib.hid (fun w hr => l_any A c x WX.out (by assumption) w hr)
  go_wp2_with fail
  refine (L3.out _ (RX.out.of (by repeat (first | with_reducible exact Within.refl _ | with_reducible assumption | with_reducible refine arW_within ?_ _ _ _ | with_reducible refine Within.alloc ?_ _ | with_reducible refine Within.drew ?_ | with_reducible refine Within.trans ?_ (by assumption))))).mono ?_; rintro e3 w3 ⟨v3, rfl, hO3, hb3⟩
  obtain ⟨A3, c3, rfl, _, hs3, _⟩ := hO3.form
  have HS3 := Lib.hid hs3; clear hs3 hO3 L3
  go_wp2_with fail
  refine (ef_any z _).mono ?_; rintro e0 w0 ⟨rfl, rfl⟩
  go_wp2_with fail
  refine (GX.out A3 c3 _ (HT.out.of (by repeat (first | with_reducible exact Within.refl _ | with_reducible assumption | with_reducible refine arW_within ?_ _ _ _ | with_reducible refine Within.alloc ?_ _ | with_reducible refine Within.drew ?_ | with_reducible refine Within.trans ?_ (by assumption)))) HS3.out).mono ?_; rintro e4 w4 ⟨v4, l4, rfl, hO4, hw4, hm4, hb4⟩
  obtain ⟨A4, c4, rfl, _, hs4, _⟩ := hO4.form
  have HS4 := Lib.hid hs4; have HM4 := Lib.hid hm4; have HW4 := Lib.hid hw4; clear hs4 hO4 hm4 hw4
  go_wp2_with fail
  refine (ef_any z _).mono ?_; rintro e0 w0 ⟨rfl, rfl⟩
  go_wp2_with fail
  refine (RG.out A1 c1 _ (HS1.out.of (by repeat (first | with_reducible exact Within.refl _ | with_reducible assumption | with_reducible refine arW_within ?_ _ _ _ | with_reducible refine Within.alloc ?_ _ | with_reducible refine Within.drew ?_ | with_reducible refine Within.trans ?_ (by assumption))))).mono ?_; rintro e5 w5 ⟨v5, l5, rfl, hO5, hw5, hm5, hb5⟩
  obtain ⟨A5, c5, rfl, _, hs5, _⟩ := hO5.form
  have HS5 := Lib.hid hs5; have HM5 := Lib.hid hm5; have HW5 := Lib.hid hw5; clear hs5 hO5 hm5 hw5
  obtain ⟨rfl, hcan, hlen⟩ := grow_alike WX.out HW4.out HW5.out HM4.out HM5.out
  have CAN := Lib.hid hcan; have LEN := Lib.hid hlen; clear hcan hlen
  go_wp2_with fail
  refine (told_law _ _ _ _ l4 _ CAN.out LEN.out _ (HS4.out.of (by repeat (first | with_reducible exact Within.refl _ | with_reducible assumption | with_reducible refine arW_within ?_ _ _ _ | with_reducible refine Within.alloc ?_ _ | with_reducible refine Within.drew ?_ | with_reducible refine Within.trans ?_ (by assumption)))) (HS5.out.of (by repeat (first | with_reducible exact Within.refl _ | with_reducible assumption | with_reducible refine arW_within ?_ _ _ _ | with_reducible refine Within.alloc ?_ _ | with_reducible refine Within.drew ?_ | with_reducible refine Within.trans ?_ (by assumption))))).mono ?_; rintro e6 w6 ⟨rfl, hb6⟩
  clear CAN LEN HM4 HM5
  have L7 := Lib.hid (fun w hr => l_any A c x WX.out (by assumption) w hr)
  go_wp2_with fail
  refine (L7.out _ (RX.out.of (by repeat (first | with_reducible exact Within.refl _ | with_reducible assumption | with_reducible refine arW_within ?_ _ _ _ | with_reducible refine Within.alloc ?_ _ | with_reducible refine Within.drew ?_ | with_reducible refine Within.trans ?_ (by assumption))))).mono ?_; rintro e7 w7 ⟨v7, rfl, hO7, hb7⟩
  obtain ⟨A7, c7, rfl, _, hs7, _⟩ := hO7.form
  have HS7 := Lib.hid hs7; clear hs7 hO7 L7
  go_wp2_with fail
  refine (IX.out A7 c7 _ (HT.out.of (by repeat (first | with_reducible exact Within.refl _ | with_reducible assumption | with_reducible refine arW_within ?_ _ _ _ | with_reducible refine Within.alloc ?_ _ | with_reducible refine Within.drew ?_ | with_reducible refine Within.trans ?_ (by assumption)))) HS7.out).mono ?_; rintro e8 w8 ⟨rfl, hb8⟩
  go_wp2_with fail
  refine (GD.out A1 c1 _ (HS1.out.of (by repeat (first | with_reducible exact Within.refl _ | with_reducible assumption | with_reducible refine arW_within ?_ _ _ _ | with_reducible refine Within.alloc ?_ _ | with_reducible refine Within.drew ?_ | with_reducible refine Within.trans ?_ (by assumption))))).mono ?_; rintro e9 w9 ⟨rfl, hb9⟩
  have L10 := Lib.hid (fun w hr => l_any A c x WX.out (by assumption) w hr)
  go_wp2_with fail
  refine (L10.out _ (RX.out.of (by repeat (first | with_reducible exact Within.refl _ | with_reducible assumption | with_reducible refine arW_within ?_ _ _ _ | with_reducible refine Within.alloc ?_ _ | with_reducible refine Within.drew ?_ | with_reducible refine Within.trans ?_ (by assumption))))).mono ?_; rintro e10 w10 ⟨v10, rfl, hO10, hb10⟩
  obtain ⟨A10, c10, rfl, _, hs10, _⟩ := hO10.form
  have HS10 := Lib.hid hs10; clear hs10 hO10 L10
  have L11 := Lib.hid (fun w hr => l_any B d y WY.out (by assumption) w hr)
  go_wp2_with fail
  refine (L11.out _ (RY.out.of (by repeat (first | with_reducible exact Within.refl _ | with_reducible assumption | with_reducible refine arW_within ?_ _ _ _ | with_reducible refine Within.alloc ?_ _ | with_reducible refine Within.drew ?_ | with_reducible refine Within.trans ?_ (by assumption))))).mono ?_; rintro e11 w11 ⟨v11, rfl, hO11, hb11⟩
  obtain ⟨A11, c11, rfl, _, hs11, _⟩ := hO11.form
  have HS11 := Lib.hid hs11; clear hs11 hO11 L11
  go_wp2_with fail
  refine (AX.out A10 A11 c10 c11 _ (HT.out.of (by repeat (first | with_reducible exact Within.refl _ | with_reducible assumption | with_reducible refine arW_within ?_ _ _ _ | with_reducible refine Within.alloc ?_ _ | with_reducible refine Within.drew ?_ | with_reducible refine Within.trans ?_ (by assumption)))) (HS10.out.of (by repeat (first | with_reducible exact Within.refl _ | with_reducible assumption | with_reducible refine arW_within ?_ _ _ _ | with_reducible refine Within.alloc ?_ _ | with_reducible refine Within.drew ?_ | with_reducible refine Within.trans ?_ (by assumption)))) HS11.out).mono ?_; rintro e12 w12 ⟨v12, l12, rfl, hO12, hw12, hm12, hb12⟩
  obtain ⟨A12, c12, rfl, _, hs12, _⟩ := hO12.form
  have HS12 := Lib.hid hs12; have HM12 := Lib.hid hm12; have HW12 := Lib.hid hw12; clear hs12 hO12 hm12 hw12
  go_wp2_with fail
  refine (RA.out A1 A2 c1 c2 _ (HS1.out.of (by repeat (first | with_reducible exact Within.refl _ | with_reducible assumption | with_reducible refine arW_within ?_ _ _ _ | with_reducible refine Within.alloc ?_ _ | with_reducible refine Within.drew ?_ | with_reducible refine Within.trans ?_ (by assumption)))) (HS2.out.of (by repeat (first | with_reducible exact Within.refl _ | with_reducible assumption | with_reducible refine arW_within ?_ _ _ _ | with_reducible refine Within.alloc ?_ _ | with_reducible refine Within.drew ?_ | with_reducible refine Within.trans ?_ (by assumption))))).mono ?_; rintro e13 w13 ⟨v13, l13, rfl, hO13, hw13, hm13, hb13⟩
  obtain ⟨A13, c13, rfl, _, hs13, _⟩ := hO13.form
  have HS13 := Lib.hid hs13; have HM13 := Lib.hid hm13; have HW13 := Lib.hid hw13; clear hs13 hO13 hm13 hw13
  obtain ⟨rfl, hcan, hlen⟩ := add_alike WX.out WY.out HW12.out HW13.out HM12.out HM13.out
  have CAN := Lib.hid hcan; have LEN := Lib.hid hlen; clear hcan hlen
  go_wp2_with fail
  refine (told_law _ _ _ _ l12 _ CAN.out LEN.out _ (HS12.out.of (by repeat (first | with_reducible exact Within.refl _ | with_reducible assumption | with_reducible refine arW_within ?_ _ _ _ | with_reducible refine Within.alloc ?_ _ | with_reducible refine Within.drew ?_ | with_reducible refine Within.trans ?_ (by assumption)))) (HS13.out.of (by repeat (first | with_reducible exact Within.refl _ | with_reducible assumption | with_reducible refine arW_within ?_ _ _ _ | with_reducible refine Within.alloc ?_ _ | with_reducible refine Within.drew ?_ | with_reducible refine Within.trans ?_ (by assumption))))).mono ?_; rintro e14 w14 ⟨rfl, hb14⟩
  clear CAN LEN HM12 HM13
  go_wp2_with fail
  refine (AW.out _ (HT.out.of (by repeat (first | with_reducible exact Within.refl _ | with_reducible assumption | with_reducible refine arW_within ?_ _ _ _ | with_reducible refine Within.alloc ?_ _ | with_reducible refine Within.drew ?_ | with_reducible refine Within.trans ?_ (by assumption))))).mono ?_; rintro e15 w15 ⟨rfl, hb15⟩
  go_wp2
  go_ret
  exact ⟨rfl, (by repeat (first | with_reducible exact Within.refl _ | with_reducible assumption | with_reducible refine arW_within ?_ _ _ _ | with_reducible refine Within.alloc ?_ _ | with_reducible refine Within.drew ?_ | with_reducible refine Within.trans ?_ (by assumption)))⟩
end Go.Proofs.YtjmaggfddinbkaaGreatDoor
end

section
namespace Go.Proofs.YtjmaggfddinbkaaGreatDoor.Base
open Go.ChangeShapes Go.WideShapes Go.ChangeAt Go.RowKit
theorem own : ownKnob Tryz.prog.godebug = none := by kernel_rfl
theorem gTab : Tryz.prog.globalNamed "math/bits.deBruijn64tab" = some 2 := by kernel_rfl
theorem gTabType : (Tryz.prog.globals[2]?).map (·.type) = some 174 := by kernel_rfl
theorem cellsT : Tryz.prog.cellsOf 174 = 64 := by kernel_rfl
theorem cellsB : Tryz.prog.cellsOf 5 = 1 := by kernel_rfl
theorem tab {W : World} (h : laidMetH Tryz.prog [("math/bits.deBruijn64tab", Rows.laid_math_bits_deBruijn64tab)] W) : Tab W := fun j hj => by
  have e := (Lib.tabIs_of_head (zs := Lib.deBruijn64tab.map Int.ofNat) (rest := []) gTab gTabType Tryz.underlying174 Tryz.underlying5 cellsB cellsT h).cell gTab j (by simpa [Lib.deBruijn64tab] using hj)
  rw [e]
  congr 2
  have hl : j < Lib.deBruijn64tab.length := hj
  simp [List.getD, List.getElem?_map, List.getElem?_eq_getElem hl]
theorem nat_of_u64 {n : Int} (h : (Lit.int .u64 n).wf = true) : ∃ a : Nat, n = a ∧ a < 18446744073709551616 := by
  simp only [Lit.wf, Bool.and_eq_true, decide_eq_true_eq] at h
  have h1 : (0 : Int) ≤ n := h.1
  have h2 : n ≤ 18446744073709551615 := h.2
  exact ⟨n.toNat, by omega, by omega⟩
noncomputable def laidWorld (os : Os) : World :=
  { World.holding Tryz.prog os ⟨#[], #[], []⟩ with heap := (World.holding Tryz.prog os ⟨#[], #[], []⟩).heap.modify 2 fun
      | .cells _ t frozen => .cells #[.int .u8 0, .int .u8 1, .int .u8 56, .int .u8 2, .int .u8 57, .int .u8 49, .int .u8 28, .int .u8 3, .int .u8 61, .int .u8 58, .int .u8 42, .int .u8 50, .int .u8 38, .int .u8 29, .int .u8 17, .int .u8 4, .int .u8 62, .int .u8 47, .int .u8 59, .int .u8 36, .int .u8 45, .int .u8 43, .int .u8 51, .int .u8 22, .int .u8 53, .int .u8 39, .int .u8 33, .int .u8 30, .int .u8 24, .int .u8 18, .int .u8 12, .int .u8 5, .int .u8 63, .int .u8 55, .int .u8 48, .int .u8 27, .int .u8 60, .int .u8 41, .int .u8 37, .int .u8 16, .int .u8 46, .int .u8 35, .int .u8 44, .int .u8 21, .int .u8 52, .int .u8 32, .int .u8 23, .int .u8 11, .int .u8 54, .int .u8 26, .int .u8 40, .int .u8 15, .int .u8 34, .int .u8 20, .int .u8 31, .int .u8 10, .int .u8 25, .int .u8 14, .int .u8 19, .int .u8 9, .int .u8 13, .int .u8 8, .int .u8 7, .int .u8 6] t frozen
      | o => o }
end Go.Proofs.YtjmaggfddinbkaaGreatDoor.Base
end

section
namespace Go.Proofs.YtjmaggfddinbkaaGreatDoor.Base
open Go.ChangeShapes Go.WideShapes Go.ChangeAt Go.RowKit
theorem laidOut : laidOutB Tryz.prog = true := by kernel_rfl
section
variable {H : Type} {enc : TypeId × Value → H} {W : World}
theorem open_ns {t e : TypeId} {k : IntKind} {y : Nat} (ht : Tryz.prog.underlying t = some (.slice e)) (he : Tryz.prog.underlying e = some (.int k)) (hc : Tryz.prog.cellsOf e = 1) (hy : Tryz.prog.bytesOf e = y) {fuel : Nat} {v : Value} {x : DataW H × List MemPlace}
    (h : DataW.trod enc Tryz.prog W 0 (fun _ => true) true fuel t [v] = some x) (hz : ∀ n ∈ x.1.weights Tryz.prog t, n ≤ reachBytes) :
    ∃ (a0 : Option Addr) (cap : Nat) (zs : List Int), v = .slice a0 zs.length cap ∧ zs.length ≤ cap ∧ zs.length * y ≤ reachBytes ∧ (∀ n ∈ zs, (Lit.int k n).wf = true) ∧ SlAt W a0 (zs.map (Value.int k)) := by
  rcases open_ints ht he hc h with ⟨hcs, hx⟩ | ⟨a, len, cap, zs, hcs, _, hl, hm, hzl, hx, hcell, hwz⟩
  · simp at hcs
    exact ⟨none, 0, [], hcs, Nat.le_refl _, by simp, (fun n hn => absurd hn (by simp)), SlAt.nil⟩
  · simp at hcs
    simp only [if_true] at hzl
    subst hx
    have hlen : (zs.take len).length = len := by rw [List.length_take]; omega
    refine ⟨some a, cap, zs.take len, by rw [hlen]; exact hcs, by rw [hlen]; exact hl, ?_, fun n hn => hwz n (List.mem_of_mem_take hn), fun hn => ?_⟩
    · have hw := hz (cap * y) (by
        rw [DataW.weights, ht]
        refine List.mem_cons.2 (.inl ?_)
        rw [hy, show (lits (H := H) k (zs.take len)).length + (lits (H := H) k (zs.drop len)).length = cap by
          unfold lits; rw [List.length_map, List.length_map, List.length_take, List.length_drop]; omega])
      rw [hlen]
      exact Nat.le_trans (Nat.mul_le_mul_right _ hl) hw
    · rw [List.length_map, hlen] at hn
      have h0 := hcell 0 (by omega)
      refine ⟨a, rfl, by have := World.block_lt_of_cell? _ _ h0; rwa [add_block] at this, fun j u hu => ?_⟩
      rw [List.getElem?_map, Option.map_eq_some_iff] at hu
      obtain ⟨z, hz1, rfl⟩ := hu
      obtain ⟨hj, hz2⟩ := List.getElem?_eq_some_iff.1 hz1
      rw [hlen] at hj
      rw [hcell j (by omega)]
      rw [List.getElem_take] at hz2
      simp [List.getD, List.getElem?_eq_getElem (show j < zs.length by omega), hz2]
theorem nats_of {k : IntKind} {m : Nat} (hk : ∀ n : Int, (Lit.int k n).wf = true → 0 ≤ n ∧ n < m) {zs : List Int} (h : ∀ n ∈ zs, (Lit.int k n).wf = true) : ∃ l : List Nat, zs = l.map (fun (x : Nat) => (x : Int)) ∧ ∀ x ∈ l, x < m := by
  refine ⟨zs.map Int.toNat, ?_, fun x hx => ?_⟩
  · rw [List.map_map]
    conv => lhs; rw [← List.map_id zs]
    refine List.map_congr_left fun n hn => ?_
    have := (hk n (h n hn)).1
    simp only [id, Function.comp]; omega
  · obtain ⟨n, hn, rfl⟩ := List.mem_map.1 hx
    have := hk n (h n hn)
    omega
theorem wf_u64 (n : Int) (h : (Lit.int .u64 n).wf = true) : 0 ≤ n ∧ n < (18446744073709551616 : Nat) := by
  simp only [Lit.wf, Bool.and_eq_true, decide_eq_true_eq] at h
  have h1 : (0 : Int) ≤ n := h.1
  have h2 : n ≤ 18446744073709551615 := h.2
  omega
set_option maxRecDepth 100000 in
theorem open_u64 {fuel : Nat} {v : Value} {x : DataW H × List MemPlace} (h : DataW.trod enc Tryz.prog W 0 (fun _ => true) true fuel 22 [v] = some x) (hz : ∀ n ∈ x.1.weights Tryz.prog 22, n ≤ reachBytes) :
    ∃ (a0 : Option Addr) (cap : Nat) (l : List Nat), v = .slice a0 l.length cap ∧ l.length ≤ cap ∧ l.length * 8 ≤ 140737488355328 ∧ (∀ x ∈ l, x < 18446744073709551616) ∧ SlAt W a0 (u64v l) := by
  obtain ⟨a0, cap, zs, h1, h2, h3, h4, h5⟩ := open_ns (y := 8) Tryz.underlying22 Tryz.underlying23 (by kernel_rfl) (by kernel_rfl) h hz
  obtain ⟨l, rfl, hl⟩ := nats_of wf_u64 h4
  rw [List.length_map] at h1 h2 h3
  refine ⟨a0, cap, l, h1, h2, ?_, hl, ?_⟩
  · have : reachBytes = 140737488351232 := rfl
    omega
  · unfold u64v; rw [List.map_map] at h5; exact h5
set_option maxRecDepth 100000 in
theorem open_words {r : Reach} {b0 : Nat} {v : Value} {d : DataW H} {p : List MemPlace} (hv : Value.okWide Tryz.prog W r b0 22 v) (h : DataW.Trod enc Tryz.prog W 0 (fun _ => true) true 22 v d p) (hz : ∀ n ∈ d.weights Tryz.prog 22, n ≤ reachBytes) :
    ∃ (a0 : Option Addr) (cap : Nat) (l : List Nat), v = .slice a0 l.length cap ∧ l.length ≤ cap ∧ l.length * 8 ≤ 140737488355328 ∧ Words64 l ∧ SlAt W a0 (u64v l) := by
  obtain ⟨a, len, cap, rfl⟩ := okWide_slice Tryz.underlying22 hv
  obtain ⟨fuel, hf⟩ := h
  exact open_u64 (x := (d, p)) (by simpa [Value.cells] using hf) hz
theorem wt_of {ts : List TypeId} {ds : List (DataW H)} (h : (DataW.weightsEach Tryz.prog ts ds).all (· ≤ reachBytes) = true) {j : Nat} {t : TypeId} {d : DataW H} (ht : ts[j]? = some t) (hd : ds[j]? = some d) : ∀ n ∈ d.weights Tryz.prog t, n ≤ reachBytes :=
  fun n hn => of_decide_eq_true (List.all_eq_true.1 h n (DataW.weights_mem_each ht hd n hn))
end
end Go.Proofs.YtjmaggfddinbkaaGreatDoor.Base
end

section
namespace Go.Proofs.YtjmaggfddinbkaaGreatDoor.eftExpansions
open Go.ChangeShapes Go.WideShapes Go.ChangeAt Go.RowKit
set_option maxRecDepth 100000 in
theorem contract (H : Type) (enc : TypeId × Value → H) (W : World) (base : Nat) (args : Array Value) (ds gs : List (DataW H)) (before : List MemPlace)
    (hval : ∀ (j : Nat) t v, Tryz.f3.params[j]? = some t → args[j]? = some v → Value.okWide Tryz.prog W .any base t v)
    (hW : DataW.Whole enc Tryz.prog Tryz.f3.params.toList Rows.eftExpansionsSpec.vars false W args.toList ds gs before)
    (hsz : (DataW.weightsEach Tryz.prog (Tryz.f3.params.toList ++ (OpenSpec.ofChange Rows.eftExpansionsSpec).bare.plain.varTypes Tryz.prog) (ds ++ gs)).all (· ≤ reachBytes) = true) (hL : laidMetH Tryz.prog Rows.eftExpansionsRow.laid W) :
    Calls Tryz.prog 3 args W fun e W' => ∃ v, e = .returned v ∧ Rows.eftExpansionsSpec.post enc Tryz.prog Tryz.f3 false true false false W args v W' := by
  have hW' := hW
  obtain ⟨p, q, hA0, hV, rfl, hfz, hnd⟩ := hW
  have hA : DataW.TrodAll enc Tryz.prog W 0 (fun _ => true) true Tryz.f3.params.toList args.toList ds p := hA0
  rw [Tryz.params3] at hA hval hsz
  obtain ⟨v0, vs0, d0, ds0, p0, q0, hargs, rfl, rfl, h0, r0⟩ := trodAll_cons hA
  obtain ⟨v1, vs1, d1, ds1, p1, q1, rfl, rfl, rfl, h1, r1⟩ := trodAll_cons r0
  obtain ⟨v2, vs2, d2, ds2, p2, q2, rfl, rfl, rfl, h2, r2⟩ := trodAll_cons r1
  obtain ⟨rfl, rfl, rfl⟩ := trodAll_nil r2
  obtain rfl : args = #[v0, v1, v2] := by cases args; simp_all
  obtain ⟨rfl, rfl⟩ := trodVars_none hV
  obtain ⟨A0, c0, l0, rfl, hc0, hn0, hb0, hm0⟩ := Base.open_words (hval 0 22 v0 rfl rfl) h0 (Base.wt_of hsz (j := 0) rfl rfl)
  obtain ⟨A1, c1, l1, rfl, hc1, hn1, hb1, hm1⟩ := Base.open_words (hval 1 22 v1 rfl rfl) h1 (Base.wt_of hsz (j := 1) rfl rfl)
  obtain ⟨n2, rfl, rfl, rfl, w2⟩ := open_int Tryz.underlying23 (hval 2 23 v2 rfl rfl) h2
  obtain ⟨a2, rfl, ha2⟩ := Base.nat_of_u64 w2
  clear hA0
  simp only [List.append_nil] at hW'
  have hlt : ∀ x, x ∈ p0 ∨ x ∈ p1 → x.block < W.heap.size := fun x hx => hW'.lt x (by simpa using hx)
  refine (expansions_walk A0 c0 l0 hb0 hn0 A1 c1 l1 hb1 hn1 a2 ha2 W (Base.tab hL) hm0 hm1).mono fun e W' ⟨he, bel⟩ => ?_
  subst he
  exact ⟨_, rfl, _, _, _, [], _, [], hW', trodAll_mk1 (shut_bool Tryz.underlying4 _), (trodAll_cons_mk (Below.trod Base.laidOut (by kernel_rfl) (of_decide_eq_true (by kernel_rfl)) h0 bel (fun x hx => hlt x (.inl hx))) (trodAll_cons_mk (Below.trod Base.laidOut (by kernel_rfl) (of_decide_eq_true (by kernel_rfl)) h1 bel (fun x hx => hlt x (.inr hx))) (trodAll_cons_mk (shut_int Tryz.underlying23 w2) trodAll_mk0))), rfl, Below.frame bel _, fun h => by cases h⟩
theorem laid_met (os : Os) : laidMet Tryz.prog Rows.eftExpansionsRow.laid ((Base.laidWorld os).forCall (fun _ _ => 0) ⟨#[], #[Value.slice none 0 0, Value.slice none 0 0, Value.int .u64 0], []⟩).memory :=
  laidMet_of_run' 8 (by kernel_rfl) (by kernel_rfl)
theorem reads (os : Os) {H : Type} (enc : TypeId × Value → H) : ∃ places, DataW.whole enc Tryz.prog ((Base.laidWorld os).forCall (fun _ _ => 0) ⟨#[], #[Value.slice none 0 0, Value.slice none 0 0, Value.int .u64 0], []⟩).memory Tryz.f3.params.toList Rows.eftExpansionsSpec.vars false (#[Value.slice none 0 0, Value.slice none 0 0, Value.int .u64 0] : Array Value).toList 8 = some ([.nil, .nil, .lit (.int .u64 0)], [], places) :=
  ⟨[], by kernel_rfl⟩
set_option maxRecDepth 100000 in
theorem lifted (os : Os) (started : os.Started) (H : Type) (enc : TypeId × Value → H) (F : Stop.Interp) :
    ReturnsInHanded {} Tryz.checked os 3 .any ((OpenSpec.ofChange Rows.eftExpansionsSpec).preRow enc Tryz.prog Tryz.f3 Rows.eftExpansionsRow.domain false Rows.eftExpansionsRow.laid) (((OpenSpec.ofChange Rows.eftExpansionsSpec).at F).post enc Tryz.prog Tryz.f3 false true false false) := by
  obtain ⟨places, hx⟩ := reads os enc
  refine returnsInHanded_of_row (C := Tryz.checked) (s := OpenSpec.ofChange Rows.eftExpansionsSpec) Base.own started (by kernel_rfl) Tryz.func3
    (witness_row_at (enc := enc) (C := Tryz.checked) false (Base.laidWorld os) #[Value.slice none 0 0, Value.slice none 0 0, Value.int .u64 0] rfl (by kernel_rfl) (by kernel_rfl) (by kernel_rfl)
      (OpenSpec.preRow_of_cond 8 hx (by kernel_rfl) (fun k hk => by cases hk) (by kernel_rfl) (laid_met os))) ?_
  intro W base args ds gs before hval hW _ _ hsz hL _ _
  exact contract H enc W base args ds gs before hval hW hsz hL
theorem said : Rows.EftExpansionsSaid :=
  OpenClaim.holds_of_cond 3 Tryz.f3 rfl rfl rfl rfl rfl rfl rfl ⟨rfl, rfl, rfl, rfl, rfl⟩ rfl rfl rfl rfl rfl (by kernel_rfl) Tryz.func3 (by kernel_rfl)
    (of_decide_eq_true (by kernel_rfl)) (by unfold Func.isWrapper; first | (rw [if_pos (by decide +kernel)]; kernel_rfl) | (rw [if_neg (by decide +kernel)]; exact ⟨rfl, rfl⟩))
    (fun os started H enc _ F => by rw [OpenClaim.pre_eq_preRow]; exact lifted os started H enc F)
theorem plain (f : FuncId) (fn : Func) (hf : Tryz.pinned.checked.prog.funcNamed "binnacle/binnaclelaw04.EftExpansions" = some f) (hfn : Tryz.pinned.checked.prog.funcs[f]? = some fn) :
    false = Tryz.pinned.checked.prog.looks [] ∧ ∀ (j : Nat) t, fn.params[j]? = some t → Tryz.pinned.checked.prog.wantsStandIn t = false := by
  obtain rfl : f = 3 := Option.some.inj ((show Tryz.prog.funcNamed "binnacle/binnaclelaw04.EftExpansions" = some 3 by kernel_rfl).symm.trans hf) |>.symm
  obtain rfl : fn = Tryz.f3 := (Option.some.inj (Tryz.func3.symm.trans hfn)).symm
  refine ⟨by kernel_rfl, fun j t ht => ?_⟩
  rw [Tryz.params3] at ht
  have hm := Array.mem_of_getElem? ht
  have hm' : t = 22 ∨ t = 22 ∨ t = 23 := by simpa using hm
  rcases hm' with rfl | rfl | rfl
  · exact (show Tryz.prog.wantsStandIn 22 = false by kernel_rfl)
  · exact (show Tryz.prog.wantsStandIn 22 = false by kernel_rfl)
  · exact (show Tryz.prog.wantsStandIn 23 = false by kernel_rfl)
theorem card : Rows.EftExpansionsCardSaid :=
  Claim7.holds_tied_plain_at .later [] _ _ _ _ said (fun _ h => by cases h) (by kernel_rfl) (fun _ h => by cases h) eftExpansions_row_tie rfl ⟨rfl, rfl⟩ (by kernel_rfl) rfl plain (by kernel_rfl)
#print axioms card
end Go.Proofs.YtjmaggfddinbkaaGreatDoor.eftExpansions
end
