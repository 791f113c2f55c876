/- What the laws' walks rest on, part 4: contracts of functions and plain facts (Pk5, Pk6, Pk6w, Pk6n, Pk7, Pk8, Pk9, Pk9w, Pk9n, Pk10, Mem2). -/
import Derived.IntWalk
import Derived.Maps.Range
import Derived.Maps.RangeWalk
import Derived.Test.YtpmjlaiafgbjgaaDoorK3
set_option linter.unusedVariables false
set_option linter.unusedSimpArgs false
section
namespace Go.Proofs.YtpmjlaiafgbjgaaDoor
open Go.RowKit

/-- a row that is written out -/
theorem made_row (w : World) (l : List Nat) (hl : l.length ≤ 1000000) : OwnB (w.alloc (.cells (u8v l).toArray 5)) w.heap.size (.slice (some ⟨w.heap.size, 0, none⟩) l.length l.length) l := by
  refine ⟨by rw [u8v_len, Nat.mul_one], .inr ⟨_, _, (u8v l).toArray, rfl, Nat.le_refl _, heap_alloc_new w _, Nat.le_refl _, by unfold maxLen; omega, by simp [u8v_len], ?_⟩⟩
  rw [Nat.mul_one, List.take_of_length_le (by simp [u8v_len])]
theorem or128 {n : Nat} (h : n ≤ 6) : bits .or .u8 (n : Int) 128 = ((n + 128 : Nat) : Int) := by
  have key : ∀ x : Fin 7, bits .or .u8 ((x.val : Nat) : Int) 128 = ((x.val + 128 : Nat) : Int) := by decide +kernel
  exact key ⟨n, by omega⟩
theorem body_snoc {F : Fl} (wide : Bool) {l : List Nat} {k : Nat} (h : k < l.length) : bodyV F wide (l.take (k + 1)) = bodyV F wide (l.take k) ++ (if wide then leBytes 8 (l.getD k 0) else leBytes 4 (F.nb (l.getD k 0))) := by
  rw [take_snoc_getD h]
  unfold bodyV
  rw [List.flatMap_append, List.flatMap_singleton]

set_option maxRecDepth 100000 in
set_option maxHeartbeats 600000 in
theorem Pack_bad (s : Int) (q t : Nat) (A : Option Addr) (c : Nat) (l : List Nat) (e : Int) (he : ((e : Int) != 0) = true) (CK : Hid (∀ w, SlAt w A (f64v l) → Calls Tryd.prog 77 #[.agg #[.int .i64 s, .int .u32 (q : Int), .int .u32 (t : Int), .slice A l.length c]] w fun e1 w' => e1 = .returned (.int .i64 (e)) ∧ Within w w')) (w : World) (hr : SlAt w A (f64v l)) : Calls Tryd.prog 51 #[.agg #[.int .i64 s, .int .u32 (q : Int), .int .u32 (t : Int), .slice A l.length c]] w fun e' w' => e' = .returned (.tuple #[.slice none 0 0, .int .i64 e]) ∧ Within w w' := by
  have HR := Lib.hid hr; clear hr
  go_enter Tryd.func51, Tryd.ntmps51
  go_wp2_with fail
  refine (CK.out _ (HR.out.of (by repeat (first | with_reducible exact Within.refl _ | with_reducible assumption | with_reducible refine Within.alloc ?_ _ | with_reducible refine Within.drew ?_ | with_reducible refine Within.drewN ?_ _ | with_reducible refine Within.setCell ?_ (by first | (simp; done) | (simp; omega)) _ | with_reducible refine Within.trans ?_ (by assumption))))).mono ?_; rintro e1 w1 ⟨rfl, hb1⟩
  go_wp2
  go_ret2
  exact ⟨rfl, (by repeat (first | with_reducible exact Within.refl _ | with_reducible assumption | with_reducible refine Within.alloc ?_ _ | with_reducible refine Within.drew ?_ | with_reducible refine Within.drewN ?_ _ | with_reducible refine Within.setCell ?_ (by first | (simp; done) | (simp; omega)) _ | with_reducible refine Within.trans ?_ (by assumption)))⟩

set_option maxRecDepth 100000 in
set_option maxHeartbeats 600000 in
theorem Rpack_bad (s : Int) (q t : Nat) (A : Option Addr) (c : Nat) (l : List Nat) (e : Int) (he : ((e : Int) != 0) = true) (CK : Hid (∀ w, SlAt w A (f64v l) → Calls Tryd.prog 53 #[.agg #[.int .i64 s, .int .u32 (q : Int), .int .u32 (t : Int), .slice A l.length c]] w fun e1 w' => e1 = .returned (.int .i64 (e)) ∧ Within w w')) (w : World) (hr : SlAt w A (f64v l)) : Calls Tryd.prog 31 #[.agg #[.int .i64 s, .int .u32 (q : Int), .int .u32 (t : Int), .slice A l.length c]] w fun e' w' => e' = .returned (.tuple #[.slice none 0 0, .int .i64 e]) ∧ Within w w' := by
  have HR := Lib.hid hr; clear hr
  go_enter Tryd.func31, Tryd.ntmps31
  go_wp2_with fail
  refine (CK.out _ (HR.out.of (by repeat (first | with_reducible exact Within.refl _ | with_reducible assumption | with_reducible refine Within.alloc ?_ _ | with_reducible refine Within.drew ?_ | with_reducible refine Within.drewN ?_ _ | with_reducible refine Within.setCell ?_ (by first | (simp; done) | (simp; omega)) _ | with_reducible refine Within.trans ?_ (by assumption))))).mono ?_; rintro e1 w1 ⟨rfl, hb1⟩
  go_wp2
  go_ret2
  exact ⟨rfl, (by repeat (first | with_reducible exact Within.refl _ | with_reducible assumption | with_reducible refine Within.alloc ?_ _ | with_reducible refine Within.drew ?_ | with_reducible refine Within.drewN ?_ _ | with_reducible refine Within.setCell ?_ (by first | (simp; done) | (simp; omega)) _ | with_reducible refine Within.trans ?_ (by assumption)))⟩

set_option maxRecDepth 100000 in
set_option maxHeartbeats 1000000 in
theorem Pack_wide (S q t : Nat) (A : Option Addr) (c : Nat) (l : List Nat) (hS : S < 64) (hl : l.length ≤ 6) (hq : q < 4294967296) (ht : t < 4294967296) (hw : Words64 l) (hfin : l.all finD = true) (CK : Hid (∀ w, SlAt w A (f64v l) → Calls Tryd.prog 77 #[.agg #[.int .i64 (S : Int), .int .u32 (q : Int), .int .u32 (t : Int), .slice A l.length c]] w fun e1 w' => e1 = .returned (.int .i64 (0)) ∧ Within w w')) (SG : Hid (∀ w, FmS w → SlAt w A (f64v l) → Calls Tryd.prog 73 #[.agg #[.int .i64 (S : Int), .int .u32 (q : Int), .int .u32 (t : Int), .slice A l.length c]] w fun e w' => e = .returned (.bool false) ∧ Within w w')) (w : World) (hT : FmS w) (hr : SlAt w A (f64v l)) : Calls Tryd.prog 51 #[.agg #[.int .i64 (S : Int), .int .u32 (q : Int), .int .u32 (t : Int), .slice A l.length c]] w fun e w' => ∃ v, e = .returned (.tuple #[v, .int .i64 0]) ∧ OwnB w' w.heap.size v (withSum (headV true S l.length q t ++ bodyV pf true l)) ∧ Within w w' := by
  have HW := Lib.hid hw; have HR := Lib.hid hr; have HT := Lib.hid hT; have HF := Lib.hid hfin; clear hw hr hT hfin
  have g1 : IntKind.u8.wrap (l.length : Int) = (l.length : Int) := by rw [IntKind.wrap_u8]; omega
  have g2 : IntKind.u8.wrap (S : Int) = (S : Int) := by rw [IntKind.wrap_u8]; omega
  have g4 : IntKind.u64.wrap (q : Int) = (q : Int) := by rw [IntKind.wrap_u64]; omega
  have g5 : IntKind.u64.wrap (t : Int) = (t : Int) := by rw [IntKind.wrap_u64]; omega
  have g3 := or128 hl
  have HQ := Lib.hid (And.intro hq ht); clear hq ht
  have c0 : (w.alloc (.cells #[.int .i64 (S : Int), .int .u32 (q : Int), .int .u32 (t : Int), .slice A l.length c] 67)).cell? ⟨w.heap.size, 0, none⟩ = some (.int .i64 (S : Int)) := by go_simp
  have c1 : (w.alloc (.cells #[.int .i64 (S : Int), .int .u32 (q : Int), .int .u32 (t : Int), .slice A l.length c] 67)).cell? ⟨w.heap.size, 1, none⟩ = some (.int .u32 (q : Int)) := by go_simp
  have c2 : (w.alloc (.cells #[.int .i64 (S : Int), .int .u32 (q : Int), .int .u32 (t : Int), .slice A l.length c] 67)).cell? ⟨w.heap.size, 2, none⟩ = some (.int .u32 (t : Int)) := by go_simp
  have c3 : (w.alloc (.cells #[.int .i64 (S : Int), .int .u32 (q : Int), .int .u32 (t : Int), .slice A l.length c] 67)).cell? ⟨w.heap.size, 3, none⟩ = some (.slice A l.length c) := by go_simp
  have hg : w.heap.size < (w.alloc (.cells #[.int .i64 (S : Int), .int .u32 (q : Int), .int .u32 (t : Int), .slice A l.length c] 67)).heap.size := by simp
  have hsl := HR.out.of ((Within.refl w).alloc (.cells #[.int .i64 (S : Int), .int .u32 (q : Int), .int .u32 (t : Int), .slice A l.length c] 67))
  have hin1 : Within w (w.alloc (.cells #[.int .i64 (S : Int), .int .u32 (q : Int), .int .u32 (t : Int), .slice A l.length c] 67)) := (Within.refl w).alloc _
  go_enter Tryd.func51, Tryd.ntmps51
  go_wp2_with fail
  refine (CK.out _ hsl).mono ?_; rintro e1 w1 ⟨rfl, hv1⟩
  have a1_0 := (hv1.cells _ 0 hg).trans c0
  have a1_1 := (hv1.cells _ 1 hg).trans c1
  have a1_2 := (hv1.cells _ 2 hg).trans c2
  have a1_3 := (hv1.cells _ 3 hg).trans c3
  go_wp2_with fail
  refine (SG.out _ (HT.out.of (hin1.trans hv1)) (hsl.of hv1)).mono ?_; rintro e2 w2 ⟨rfl, hb2⟩
  have hv2 := hv1.trans hb2
  have a2_0 := (hv2.cells _ 0 hg).trans c0
  have a2_1 := (hv2.cells _ 1 hg).trans c1
  have a2_2 := (hv2.cells _ 2 hg).trans c2
  have a2_3 := (hv2.cells _ 3 hg).trans c3
  have hsl2 := hsl.of hv2
  have hin2 := hin1.trans hv2
  have hg2 : w.heap.size < w2.heap.size := Nat.lt_of_lt_of_le hg hv2.size
  obtain ⟨C, hC⟩ : ∃ C, C = l.length + 128 := ⟨_, rfl⟩
  rw [← hC] at g3
  have hrow := made_row w2 [181, 98, S, C] (by simp)
  clear a1_0 a1_1 a1_2 a1_3 c0 c1 c2 c3 hsl hv1 hb2 hv2 hin1
  have HG : Hid (OwnB (w2.alloc (.cells #[.int .u8 181, .int .u8 98, .int .u8 (S : Int), .int .u8 (C : Int)] 5)) w2.heap.size (.slice (some ⟨w2.heap.size, 0, none⟩) 4 4) [181, 98, S, C]) := Lib.hid hrow
  have HC := Lib.hid hC; clear hrow hC
  go_wp2
  refine wp_region_schB (w2.heap.size) (fun W => W.cell? ⟨w.heap.size, 0, none⟩ = some (.int .i64 (S : Int)) ∧ W.cell? ⟨w.heap.size, 1, none⟩ = some (.int .u32 (q : Int)) ∧ W.cell? ⟨w.heap.size, 2, none⟩ = some (.int .u32 (t : Int)) ∧ W.cell? ⟨w.heap.size, 3, none⟩ = some (.slice A l.length c) ∧ OwnB W w2.heap.size (.slice (some ⟨w2.heap.size, 0, none⟩) 4 4) [181, 98, S, C] ∧ Within w2 W) 9 (.firm 0 (.firm 1 (.firm 2 (.firm 3 (.firm 5 (.firm 6 (.firm 7 (.one 4 (.one 8 (.one 9 .nil)))))))))) (by kernel_rfl) (by kernel_rfl) ⟨by go_simp, by go_simp, by go_simp, by go_simp, HG.out, (Within.refl w2).alloc _⟩ ?_
  rintro w0 ⟨b0, b1, b2, b3, hO, hW⟩
  try simp only [Act.put, List.setIfInBounds_toArray, List.set_cons_zero, List.set_cons_succ]
  iterate 7
    apply sch_firm rfl rfl (by repeat (first | with_reducible exact Below.refl _ _ | with_reducible assumption | with_reducible refine Below.drew ?_ | with_reducible refine Below.trans ?_ (by assumption)))
    · intro wq hq
      have hcq : ∀ b o, b < w2.heap.size → wq.cell? ⟨b, o, none⟩ = w0.cell? ⟨b, o, none⟩ := fun b o hb => hq.cell (p := ⟨b, o, none⟩) hb
      clear hq
      go_simp
      rfl
    try simp only [Act.put, List.setIfInBounds_toArray, List.set_cons_zero, List.set_cons_succ]
  refine sch_one rfl rfl (fun K hK => ?_)
  go_simp
  refine (put4 w2.heap.size _ [181, 98, S, C] q (by have := HQ.out; omega) (by simp) _ (by exact hW.size) (by exact hO)).mono ?_; rintro e3 w3 ⟨v3, rfl, hO3, hB3⟩
  have hB3' : Below w2.heap.size w0 w3 := (Below.drew (Below.refl _ w0)).trans hB3
  refine hK _ _ (fun _ => (by repeat (first | with_reducible exact Below.refl _ _ | with_reducible assumption | with_reducible refine Below.drew ?_ | with_reducible refine Below.trans ?_ (by assumption)))) ?_
  clear hK K
  try simp only [Act.put, List.setIfInBounds_toArray, List.set_cons_zero, List.set_cons_succ]
  refine sch_one rfl rfl (fun K hK => ?_)
  go_simp
  refine (put4 w2.heap.size _ ([181, 98, S, C] ++ leBytes 4 q) t (by have := HQ.out; omega) (by simp [leBytes_len]) _ (by exact Nat.le_trans hW.size hB3'.size) (by exact hO3)).mono ?_; rintro e4 w4 ⟨v4, rfl, hO4, hB4⟩
  have hB4' : Below w2.heap.size w0 w4 := hB3'.trans hB4
  refine hK _ _ (fun _ => (by repeat (first | with_reducible exact Below.refl _ _ | with_reducible assumption | with_reducible refine Below.drew ?_ | with_reducible refine Below.trans ?_ (by assumption)))) ?_
  clear hK K
  try simp only [Act.put, List.setIfInBounds_toArray, List.set_cons_zero, List.set_cons_succ]
  refine sch_one rfl rfl (fun K hK => ?_)
  go_simp
  refine hK _ _ (fun h => absurd h (by decide)) ?_
  clear hK K
  try simp only [Act.put, List.setIfInBounds_toArray, List.set_cons_zero, List.set_cons_succ]
  refine sch_nil ?_
  obtain ⟨HL, hHL⟩ : ∃ HL, HL = [181, 98, S, C] ++ leBytes 4 q ++ leBytes 4 t := ⟨_, rfl⟩
  rw [← hHL] at hO4
  have hlen : HL.length = 12 := by rw [hHL]; simp [leBytes_len]
  have hbyt : Bytes HL := by
    rw [hHL]
    refine Bytes.append (Bytes.append ?_ (leBytes_bytes _ _)) (leBytes_bytes _ _)
    have hC := HC.out
    intro z hz
    simp only [List.mem_cons, List.not_mem_nil, or_false] at hz
    rcases hz with rfl | rfl | rfl | rfl <;> omega
  have hin4 : Within w2 w4 := Below.trans hW hB4'
  have d0 := (hin4.cells _ 0 hg2).trans a2_0
  have d1 := (hin4.cells _ 1 hg2).trans a2_1
  have d2 := (hin4.cells _ 2 hg2).trans a2_2
  have d3 := (hin4.cells _ 3 hg2).trans a2_3
  have HHL := Lib.hid hHL; have HLEN := Lib.hid hlen; have HO4 := Lib.hid hO4
  clear hO hW b0 b1 b2 b3 hO3 hB3 hB3' hO4 hB4 hB4' HG hHL hlen
  go_wp2
  go_loopw [7, 42] (fun bv iv wr => ∃ k : Nat, k ≤ l.length ∧ iv = .int .i64 (k : Int) ∧ OwnB wr w2.heap.size bv (HL ++ bodyV pf true (l.take k)) ∧ Within w2 wr) (fun _ iv _ => l.length - (intOf iv).toNat)
  case atStart => exact ⟨0, Nat.zero_le _, rfl, (by rw [show bodyV pf true (l.take 0) = [] from rfl, List.append_nil]; exact HO4.out), hin4⟩
  case round =>
    obtain ⟨k, hk, rfl, hown, hin⟩ := hrel
    obtain ⟨L, hL⟩ : ∃ L, L = HL ++ bodyV pf true (l.take k) := ⟨_, rfl⟩
    rw [← hL] at hown
    have hLl : L.length ≤ 100 := by rw [hL, List.length_append, bodyV_len, HLEN.out, List.length_take]; unfold stp; split <;> omega
    have hLb : Bytes L := by rw [hL]; exact hbyt.append (bodyV_bytes _ _)
    have hbr : w2.heap.size ≤ wr.heap.size := hin.size
    have HOW := Lib.hid hown; have HLE := Lib.hid hL; have HLL := Lib.hid hLl; clear hown hL hLl
    by_cases hlt : k < l.length
    · obtain ⟨ad, rfl, hblk, hc⟩ := (hsl2.of hin).at hlt
      obtain ⟨x, hx⟩ : ∃ x, x = l.getD k 0 := ⟨_, rfl⟩
      have hx2 : x < 18446744073709551616 := by rw [hx]; exact HW.out.at hlt
      rw [← hx] at hc
      have hnext := body_snoc (F := pf) true hlt
      rw [← hx] at hnext
      simp only [if_true] at hnext
      have HN := Lib.hid hnext; have HX2 := Lib.hid hx2; clear hx hx2 hnext
      go_wp2_with fail
      refine (put8 w2.heap.size _ L x HX2.out (by have := HLL.out; omega) _ (by exact hbr) (by exact HOW.out)).mono ?_; rintro e5 w5 ⟨v5, rfl, hO5, hB5⟩
      have HO5 := Lib.hid hO5; clear hO5
      go_wp2
      go_roundw
      case rel => exact ⟨k + 1, hlt, by go_num, (by have := HO5.out; rw [HLE.out, List.append_assoc, ← HN.out] at this; exact this), Below.trans hin hB5⟩
      case measure => simp [intOf]; omega
    · obtain rfl : k = l.length := by omega
      obtain ⟨A5, k5, rfl, _, hat5, _⟩ := HOW.out.form
      have hcr := crcOf_lt hLb
      have g7 : IntKind.u64.wrap (crcOf L : Int) = (crcOf L : Int) := by rw [IntKind.wrap_u64]; omega
      have SM := Lib.hid (sum_any A5 k5 L hLb (by have := HLL.out; omega) wr hat5)
      have HCR := Lib.hid hcr; have HLB := Lib.hid hLb; clear hcr hLb
      go_wp2_with fail
      refine SM.out.mono ?_; rintro e5 w5 ⟨rfl, rfl⟩
      go_wp2_with fail
      refine (put4 w2.heap.size _ L (crcOf L) (by have := HCR.out; omega) (by have := HLL.out; omega) _ (by exact hbr) (by exact HOW.out)).mono ?_; rintro e6 w6 ⟨v6, rfl, hO6, hB6⟩
      go_wp2
      go_ret2
      refine ⟨_, rfl, ?_, hin2.trans (Below.trans hin hB6)⟩
      have e : L = headV true S l.length q t ++ bodyV pf true l := by
        have h1 := HLE.out; rw [List.take_of_length_le (Nat.le_refl _), HHL.out, HC.out] at h1; exact h1
      unfold withSum
      rw [← e]
      exact hO6.less hin2.size

set_option maxRecDepth 100000 in
set_option maxHeartbeats 1000000 in
theorem Pack_near (S q t : Nat) (A : Option Addr) (c : Nat) (l : List Nat) (hS : S < 64) (hl : l.length ≤ 6) (hq : q < 4294967296) (ht : t < 4294967296) (hw : Words64 l) (hfin : l.all finD = true) (hsg : l.all isSD = true) (CK : Hid (∀ w, SlAt w A (f64v l) → Calls Tryd.prog 77 #[.agg #[.int .i64 (S : Int), .int .u32 (q : Int), .int .u32 (t : Int), .slice A l.length c]] w fun e1 w' => e1 = .returned (.int .i64 (0)) ∧ Within w w')) (SG : Hid (∀ w, FmS w → SlAt w A (f64v l) → Calls Tryd.prog 73 #[.agg #[.int .i64 (S : Int), .int .u32 (q : Int), .int .u32 (t : Int), .slice A l.length c]] w fun e w' => e = .returned (.bool true) ∧ Within w w')) (w : World) (hT : FmS w) (hr : SlAt w A (f64v l)) : Calls Tryd.prog 51 #[.agg #[.int .i64 (S : Int), .int .u32 (q : Int), .int .u32 (t : Int), .slice A l.length c]] w fun e w' => ∃ v, e = .returned (.tuple #[v, .int .i64 0]) ∧ OwnB w' w.heap.size v (withSum (headV false S l.length q t ++ bodyV pf false l)) ∧ Within w w' := by
  have HW := Lib.hid hw; have HR := Lib.hid hr; have HT := Lib.hid hT; have HF := Lib.hid hfin; clear hw hr hT hfin
  have HSG := Lib.hid hsg; clear hsg
  have g1 : IntKind.u8.wrap (l.length : Int) = (l.length : Int) := by rw [IntKind.wrap_u8]; omega
  have g2 : IntKind.u8.wrap (S : Int) = (S : Int) := by rw [IntKind.wrap_u8]; omega
  have g4 : IntKind.u64.wrap (q : Int) = (q : Int) := by rw [IntKind.wrap_u64]; omega
  have g5 : IntKind.u64.wrap (t : Int) = (t : Int) := by rw [IntKind.wrap_u64]; omega
  have HQ := Lib.hid (And.intro hq ht); clear hq ht
  have c0 : (w.alloc (.cells #[.int .i64 (S : Int), .int .u32 (q : Int), .int .u32 (t : Int), .slice A l.length c] 67)).cell? ⟨w.heap.size, 0, none⟩ = some (.int .i64 (S : Int)) := by go_simp
  have c1 : (w.alloc (.cells #[.int .i64 (S : Int), .int .u32 (q : Int), .int .u32 (t : Int), .slice A l.length c] 67)).cell? ⟨w.heap.size, 1, none⟩ = some (.int .u32 (q : Int)) := by go_simp
  have c2 : (w.alloc (.cells #[.int .i64 (S : Int), .int .u32 (q : Int), .int .u32 (t : Int), .slice A l.length c] 67)).cell? ⟨w.heap.size, 2, none⟩ = some (.int .u32 (t : Int)) := by go_simp
  have c3 : (w.alloc (.cells #[.int .i64 (S : Int), .int .u32 (q : Int), .int .u32 (t : Int), .slice A l.length c] 67)).cell? ⟨w.heap.size, 3, none⟩ = some (.slice A l.length c) := by go_simp
  have hg : w.heap.size < (w.alloc (.cells #[.int .i64 (S : Int), .int .u32 (q : Int), .int .u32 (t : Int), .slice A l.length c] 67)).heap.size := by simp
  have hsl := HR.out.of ((Within.refl w).alloc (.cells #[.int .i64 (S : Int), .int .u32 (q : Int), .int .u32 (t : Int), .slice A l.length c] 67))
  have hin1 : Within w (w.alloc (.cells #[.int .i64 (S : Int), .int .u32 (q : Int), .int .u32 (t : Int), .slice A l.length c] 67)) := (Within.refl w).alloc _
  go_enter Tryd.func51, Tryd.ntmps51
  go_wp2_with fail
  refine (CK.out _ hsl).mono ?_; rintro e1 w1 ⟨rfl, hv1⟩
  have a1_0 := (hv1.cells _ 0 hg).trans c0
  have a1_1 := (hv1.cells _ 1 hg).trans c1
  have a1_2 := (hv1.cells _ 2 hg).trans c2
  have a1_3 := (hv1.cells _ 3 hg).trans c3
  go_wp2_with fail
  refine (SG.out _ (HT.out.of (hin1.trans hv1)) (hsl.of hv1)).mono ?_; rintro e2 w2 ⟨rfl, hb2⟩
  have hv2 := hv1.trans hb2
  have a2_0 := (hv2.cells _ 0 hg).trans c0
  have a2_1 := (hv2.cells _ 1 hg).trans c1
  have a2_2 := (hv2.cells _ 2 hg).trans c2
  have a2_3 := (hv2.cells _ 3 hg).trans c3
  have hsl2 := hsl.of hv2
  have hin2 := hin1.trans hv2
  have hg2 : w.heap.size < w2.heap.size := Nat.lt_of_lt_of_le hg hv2.size
  have hC : l.length = l.length := rfl
  have hrow := made_row w2 [181, 98, S, l.length] (by simp)
  clear a1_0 a1_1 a1_2 a1_3 c0 c1 c2 c3 hsl hv1 hb2 hv2 hin1
  have HG : Hid (OwnB (w2.alloc (.cells #[.int .u8 181, .int .u8 98, .int .u8 (S : Int), .int .u8 (l.length : Int)] 5)) w2.heap.size (.slice (some ⟨w2.heap.size, 0, none⟩) 4 4) [181, 98, S, l.length]) := Lib.hid hrow
  clear hrow hC
  go_wp2
  refine wp_region_schB (w2.heap.size) (fun W => W.cell? ⟨w.heap.size, 0, none⟩ = some (.int .i64 (S : Int)) ∧ W.cell? ⟨w.heap.size, 1, none⟩ = some (.int .u32 (q : Int)) ∧ W.cell? ⟨w.heap.size, 2, none⟩ = some (.int .u32 (t : Int)) ∧ W.cell? ⟨w.heap.size, 3, none⟩ = some (.slice A l.length c) ∧ OwnB W w2.heap.size (.slice (some ⟨w2.heap.size, 0, none⟩) 4 4) [181, 98, S, l.length] ∧ Within w2 W) 9 (.firm 0 (.firm 1 (.firm 2 (.firm 3 (.firm 5 (.firm 6 (.firm 7 (.one 4 (.one 8 (.one 9 .nil)))))))))) (by kernel_rfl) (by kernel_rfl) ⟨by go_simp, by go_simp, by go_simp, by go_simp, HG.out, (Within.refl w2).alloc _⟩ ?_
  rintro w0 ⟨b0, b1, b2, b3, hO, hW⟩
  try simp only [Act.put, List.setIfInBounds_toArray, List.set_cons_zero, List.set_cons_succ]
  iterate 7
    apply sch_firm rfl rfl (by repeat (first | with_reducible exact Below.refl _ _ | with_reducible assumption | with_reducible refine Below.drew ?_ | with_reducible refine Below.trans ?_ (by assumption)))
    · intro wq hq
      have hcq : ∀ b o, b < w2.heap.size → wq.cell? ⟨b, o, none⟩ = w0.cell? ⟨b, o, none⟩ := fun b o hb => hq.cell (p := ⟨b, o, none⟩) hb
      clear hq
      go_simp
      rfl
    try simp only [Act.put, List.setIfInBounds_toArray, List.set_cons_zero, List.set_cons_succ]
  refine sch_one rfl rfl (fun K hK => ?_)
  go_simp
  refine (put4 w2.heap.size _ [181, 98, S, l.length] q (by have := HQ.out; omega) (by simp) _ (by exact hW.size) (by exact hO)).mono ?_; rintro e3 w3 ⟨v3, rfl, hO3, hB3⟩
  have hB3' : Below w2.heap.size w0 w3 := (Below.drew (Below.refl _ w0)).trans hB3
  refine hK _ _ (fun _ => (by repeat (first | with_reducible exact Below.refl _ _ | with_reducible assumption | with_reducible refine Below.drew ?_ | with_reducible refine Below.trans ?_ (by assumption)))) ?_
  clear hK K
  try simp only [Act.put, List.setIfInBounds_toArray, List.set_cons_zero, List.set_cons_succ]
  refine sch_one rfl rfl (fun K hK => ?_)
  go_simp
  refine (put4 w2.heap.size _ ([181, 98, S, l.length] ++ leBytes 4 q) t (by have := HQ.out; omega) (by simp [leBytes_len]) _ (by exact Nat.le_trans hW.size hB3'.size) (by exact hO3)).mono ?_; rintro e4 w4 ⟨v4, rfl, hO4, hB4⟩
  have hB4' : Below w2.heap.size w0 w4 := hB3'.trans hB4
  refine hK _ _ (fun _ => (by repeat (first | with_reducible exact Below.refl _ _ | with_reducible assumption | with_reducible refine Below.drew ?_ | with_reducible refine Below.trans ?_ (by assumption)))) ?_
  clear hK K
  try simp only [Act.put, List.setIfInBounds_toArray, List.set_cons_zero, List.set_cons_succ]
  refine sch_one rfl rfl (fun K hK => ?_)
  go_simp
  refine hK _ _ (fun h => absurd h (by decide)) ?_
  clear hK K
  try simp only [Act.put, List.setIfInBounds_toArray, List.set_cons_zero, List.set_cons_succ]
  refine sch_nil ?_
  obtain ⟨HL, hHL⟩ : ∃ HL, HL = [181, 98, S, l.length] ++ leBytes 4 q ++ leBytes 4 t := ⟨_, rfl⟩
  rw [← hHL] at hO4
  have hlen : HL.length = 12 := by rw [hHL]; simp [leBytes_len]
  have hbyt : Bytes HL := by
    rw [hHL]
    refine Bytes.append (Bytes.append ?_ (leBytes_bytes _ _)) (leBytes_bytes _ _)
    intro z hz
    simp only [List.mem_cons, List.not_mem_nil, or_false] at hz
    rcases hz with rfl | rfl | rfl | rfl <;> omega
  have hin4 : Within w2 w4 := Below.trans hW hB4'
  have d0 := (hin4.cells _ 0 hg2).trans a2_0
  have d1 := (hin4.cells _ 1 hg2).trans a2_1
  have d2 := (hin4.cells _ 2 hg2).trans a2_2
  have d3 := (hin4.cells _ 3 hg2).trans a2_3
  have HHL := Lib.hid hHL; have HLEN := Lib.hid hlen; have HO4 := Lib.hid hO4
  clear hO hW b0 b1 b2 b3 hO3 hB3 hB3' hO4 hB4 hB4' HG hHL hlen
  go_wp2
  go_loopw [7, 42] (fun bv iv wr => ∃ k : Nat, k ≤ l.length ∧ iv = .int .i64 (k : Int) ∧ OwnB wr w2.heap.size bv (HL ++ bodyV pf false (l.take k)) ∧ Within w2 wr) (fun _ iv _ => l.length - (intOf iv).toNat)
  case atStart => exact ⟨0, Nat.zero_le _, rfl, (by rw [show bodyV pf false (l.take 0) = [] from rfl, List.append_nil]; exact HO4.out), hin4⟩
  case round =>
    obtain ⟨k, hk, rfl, hown, hin⟩ := hrel
    obtain ⟨L, hL⟩ : ∃ L, L = HL ++ bodyV pf false (l.take k) := ⟨_, rfl⟩
    rw [← hL] at hown
    have hLl : L.length ≤ 100 := by rw [hL, List.length_append, bodyV_len, HLEN.out, List.length_take]; unfold stp; split <;> omega
    have hLb : Bytes L := by rw [hL]; exact hbyt.append (bodyV_bytes _ _)
    have hbr : w2.heap.size ≤ wr.heap.size := hin.size
    have HOW := Lib.hid hown; have HLE := Lib.hid hL; have HLL := Lib.hid hLl; clear hown hL hLl
    by_cases hlt : k < l.length
    · obtain ⟨ad, rfl, hblk, hc⟩ := (hsl2.of hin).at hlt
      obtain ⟨x, hx⟩ : ∃ x, x = l.getD k 0 := ⟨_, rfl⟩
      have hx2 : x < 18446744073709551616 := by rw [hx]; exact HW.out.at hlt
      rw [← hx] at hc
      have hnext := body_snoc (F := pf) false hlt
      rw [← hx] at hnext
      have hmem : x ∈ l := by rw [hx, List.getD, List.getElem?_eq_getElem hlt]; exact List.getElem_mem hlt
      have hfx := List.all_eq_true.1 HF.out x hmem
      have hsx := List.all_eq_true.1 HSG.out x hmem
      have hcv : ∀ w, (convert 111 114 (.float .f64 x)).run Tryd.prog w = .ok (.float .f32 (nWord x 0)) w := fun w => by
        have h := conv_nar (P := Tryd.prog) (src := 111) (dst := 114) (by kernel_rfl) (by kernel_rfl) x hx2 w
        rw [(nar_single hx2 hfx hsx w).1, (nar_single hx2 hfx hsx w).2] at h; exact h
      obtain ⟨nx, hnx⟩ : ∃ nx, nx = nWord x 0 := ⟨_, rfl⟩
      have hnx2 : nx < 4294967296 := by rw [hnx]; exact nWord_lt x hx2 0
      have hnb : pf.nb x = nx := hnx.symm
      rw [← hnx] at hcv
      have g6 : IntKind.u64.wrap (nx : Int) = (nx : Int) := by rw [IntKind.wrap_u64]; omega
      simp only [Bool.false_eq_true, if_false] at hnext
      rw [hnb] at hnext
      have HNX := Lib.hid hnx2; clear hmem hfx hsx hnx hnx2 hnb
      have HN := Lib.hid hnext; have HX2 := Lib.hid hx2; clear hx hx2 hnext
      go_wp2_with fail
      refine (put4 w2.heap.size _ L nx (by have := HNX.out; omega) (by have := HLL.out; omega) _ (by exact hbr) (by exact HOW.out)).mono ?_; rintro e5 w5 ⟨v5, rfl, hO5, hB5⟩
      have HO5 := Lib.hid hO5; clear hO5
      go_wp2
      go_roundw
      case rel => exact ⟨k + 1, hlt, by go_num, (by have := HO5.out; rw [HLE.out, List.append_assoc, ← HN.out] at this; exact this), Below.trans hin hB5⟩
      case measure => simp [intOf]; omega
    · obtain rfl : k = l.length := by omega
      obtain ⟨A5, k5, rfl, _, hat5, _⟩ := HOW.out.form
      have hcr := crcOf_lt hLb
      have g7 : IntKind.u64.wrap (crcOf L : Int) = (crcOf L : Int) := by rw [IntKind.wrap_u64]; omega
      have SM := Lib.hid (sum_any A5 k5 L hLb (by have := HLL.out; omega) wr hat5)
      have HCR := Lib.hid hcr; have HLB := Lib.hid hLb; clear hcr hLb
      go_wp2_with fail
      refine SM.out.mono ?_; rintro e5 w5 ⟨rfl, rfl⟩
      go_wp2_with fail
      refine (put4 w2.heap.size _ L (crcOf L) (by have := HCR.out; omega) (by have := HLL.out; omega) _ (by exact hbr) (by exact HOW.out)).mono ?_; rintro e6 w6 ⟨v6, rfl, hO6, hB6⟩
      go_wp2
      go_ret2
      refine ⟨_, rfl, ?_, hin2.trans (Below.trans hin hB6)⟩
      have e : L = headV false S l.length q t ++ bodyV pf false l := by
        have h1 := HLE.out; rw [List.take_of_length_le (Nat.le_refl _), HHL.out] at h1; exact h1
      unfold withSum
      rw [← e]
      exact hO6.less hin2.size

set_option maxRecDepth 100000 in
set_option maxHeartbeats 1000000 in
theorem Rpack_wide (S q t : Nat) (A : Option Addr) (c : Nat) (l : List Nat) (hS : S < 64) (hl : l.length ≤ 6) (hq : q < 4294967296) (ht : t < 4294967296) (hw : Words64 l) (hfin : l.all finD = true) (CK : Hid (∀ w, SlAt w A (f64v l) → Calls Tryd.prog 53 #[.agg #[.int .i64 (S : Int), .int .u32 (q : Int), .int .u32 (t : Int), .slice A l.length c]] w fun e1 w' => e1 = .returned (.int .i64 (0)) ∧ Within w w')) (SG : Hid (∀ w, SlAt w A (f64v l) → Calls Tryd.prog 54 #[.slice A l.length c] w fun e w' => e = .returned (.bool false) ∧ Within w w')) (w : World) (hr : SlAt w A (f64v l)) : Calls Tryd.prog 31 #[.agg #[.int .i64 (S : Int), .int .u32 (q : Int), .int .u32 (t : Int), .slice A l.length c]] w fun e w' => ∃ v, e = .returned (.tuple #[v, .int .i64 0]) ∧ OwnB w' w.heap.size v (withSum (headV true S l.length q t ++ bodyV pf true l)) ∧ Within w w' := by
  have HW := Lib.hid hw; have HR := Lib.hid hr; have HF := Lib.hid hfin; clear hw hr hfin
  have g1 : IntKind.u8.wrap (l.length : Int) = (l.length : Int) := by rw [IntKind.wrap_u8]; omega
  have g1' : IntKind.u8.wrap ((l.length : Int) + 128) = (l.length : Int) + 128 := by rw [IntKind.wrap_u8]; omega
  have g2 : IntKind.u8.wrap (S : Int) = (S : Int) := by rw [IntKind.wrap_u8]; omega
  have g4 : IntKind.u64.wrap (q : Int) = (q : Int) := by rw [IntKind.wrap_u64]; omega
  have g5 : IntKind.u64.wrap (t : Int) = (t : Int) := by rw [IntKind.wrap_u64]; omega
  have HQ := Lib.hid (And.intro hq ht); clear hq ht
  have c0 : (w.alloc (.cells #[.int .i64 (S : Int), .int .u32 (q : Int), .int .u32 (t : Int), .slice A l.length c] 67)).cell? ⟨w.heap.size, 0, none⟩ = some (.int .i64 (S : Int)) := by go_simp
  have c1 : (w.alloc (.cells #[.int .i64 (S : Int), .int .u32 (q : Int), .int .u32 (t : Int), .slice A l.length c] 67)).cell? ⟨w.heap.size, 1, none⟩ = some (.int .u32 (q : Int)) := by go_simp
  have c2 : (w.alloc (.cells #[.int .i64 (S : Int), .int .u32 (q : Int), .int .u32 (t : Int), .slice A l.length c] 67)).cell? ⟨w.heap.size, 2, none⟩ = some (.int .u32 (t : Int)) := by go_simp
  have c3 : (w.alloc (.cells #[.int .i64 (S : Int), .int .u32 (q : Int), .int .u32 (t : Int), .slice A l.length c] 67)).cell? ⟨w.heap.size, 3, none⟩ = some (.slice A l.length c) := by go_simp
  have hg : w.heap.size < (w.alloc (.cells #[.int .i64 (S : Int), .int .u32 (q : Int), .int .u32 (t : Int), .slice A l.length c] 67)).heap.size := by simp
  have hsl := HR.out.of ((Within.refl w).alloc (.cells #[.int .i64 (S : Int), .int .u32 (q : Int), .int .u32 (t : Int), .slice A l.length c] 67))
  have hin1 : Within w (w.alloc (.cells #[.int .i64 (S : Int), .int .u32 (q : Int), .int .u32 (t : Int), .slice A l.length c] 67)) := (Within.refl w).alloc _
  go_enter Tryd.func31, Tryd.ntmps31
  go_wp2_with fail
  refine (CK.out _ hsl).mono ?_; rintro e1 w1 ⟨rfl, hv1⟩
  have a1_0 := (hv1.cells _ 0 hg).trans c0
  have a1_1 := (hv1.cells _ 1 hg).trans c1
  have a1_2 := (hv1.cells _ 2 hg).trans c2
  have a1_3 := (hv1.cells _ 3 hg).trans c3
  go_wp2_with fail
  refine (SG.out _ (hsl.of hv1)).mono ?_; rintro e2 w2 ⟨rfl, hb2⟩
  have hv2 := hv1.trans hb2
  have a2_0 := (hv2.cells _ 0 hg).trans c0
  have a2_1 := (hv2.cells _ 1 hg).trans c1
  have a2_2 := (hv2.cells _ 2 hg).trans c2
  have a2_3 := (hv2.cells _ 3 hg).trans c3
  have hsl2 := hsl.of hv2
  have hin2 := hin1.trans hv2
  have hg2 : w.heap.size < w2.heap.size := Nat.lt_of_lt_of_le hg hv2.size
  have hrow := made_row w2 [181, 98, S, l.length + 128] (by simp)
  clear a1_0 a1_1 a1_2 a1_3 c0 c1 c2 c3 hsl hv1 hb2 hv2 hin1
  have HG : Hid (OwnB (w2.alloc (.cells #[.int .u8 181, .int .u8 98, .int .u8 (S : Int), .int .u8 ((l.length : Int) + 128)] 5)) w2.heap.size (.slice (some ⟨w2.heap.size, 0, none⟩) 4 4) [181, 98, S, l.length + 128]) := Lib.hid hrow
  clear hrow
  have hW : Within w2 (w2.alloc (.cells #[.int .u8 181, .int .u8 98, .int .u8 (S : Int), .int .u8 ((l.length : Int) + 128)] 5)) := (Within.refl w2).alloc _
  go_wp2_with fail
  refine (Rput4 w2.heap.size _ [181, 98, S, l.length + 128] q (by have := HQ.out; omega) (by simp) _ (by exact hW.size) (by exact HG.out)).mono ?_; rintro e3 w3 ⟨v3, rfl, hO3, hB3⟩
  have hin3 : Within w2 w3 := Below.trans hW hB3
  have f0 := (hin3.cells _ 0 hg2).trans a2_0
  have f1 := (hin3.cells _ 1 hg2).trans a2_1
  have f2 := (hin3.cells _ 2 hg2).trans a2_2
  have f3 := (hin3.cells _ 3 hg2).trans a2_3
  have HO3 := Lib.hid hO3; clear hO3
  go_wp2_with fail
  refine (Rput4 w2.heap.size _ ([181, 98, S, l.length + 128] ++ leBytes 4 q) t (by have := HQ.out; omega) (by simp [leBytes_len]) _ (by exact hin3.size) (by exact HO3.out)).mono ?_; rintro e4 w4 ⟨v4, rfl, hO4, hB4⟩
  have hin4 : Within w2 w4 := Below.trans hin3 hB4
  obtain ⟨HL, hHL⟩ : ∃ HL, HL = [181, 98, S, l.length + 128] ++ leBytes 4 q ++ leBytes 4 t := ⟨_, rfl⟩
  rw [← hHL] at hO4
  have hlen : HL.length = 12 := by rw [hHL]; simp [leBytes_len]
  have hbyt : Bytes HL := by
    rw [hHL]
    refine Bytes.append (Bytes.append ?_ (leBytes_bytes _ _)) (leBytes_bytes _ _)
    intro z hz
    simp only [List.mem_cons, List.not_mem_nil, or_false] at hz
    rcases hz with rfl | rfl | rfl | rfl <;> omega
  have d0 := (hin4.cells _ 0 hg2).trans a2_0
  have d1 := (hin4.cells _ 1 hg2).trans a2_1
  have d2 := (hin4.cells _ 2 hg2).trans a2_2
  have d3 := (hin4.cells _ 3 hg2).trans a2_3
  have HHL := Lib.hid hHL; have HLEN := Lib.hid hlen; have HO4 := Lib.hid hO4
  clear hW HO3 hB3 hin3 hO4 hB4 HG hHL hlen f0 f1 f2 f3
  go_wp2
  go_loopw [7, 44] (fun bv iv wr => ∃ k : Nat, k ≤ l.length ∧ iv = .int .i64 (k : Int) ∧ OwnB wr w2.heap.size bv (HL ++ bodyV pf true (l.take k)) ∧ Within w2 wr) (fun _ iv _ => l.length - (intOf iv).toNat)
  case atStart => exact ⟨0, Nat.zero_le _, rfl, (by rw [show bodyV pf true (l.take 0) = [] from rfl, List.append_nil]; exact HO4.out), hin4⟩
  case round =>
    obtain ⟨k, hk, rfl, hown, hin⟩ := hrel
    obtain ⟨L, hL⟩ : ∃ L, L = HL ++ bodyV pf true (l.take k) := ⟨_, rfl⟩
    rw [← hL] at hown
    have hLl : L.length ≤ 100 := by rw [hL, List.length_append, bodyV_len, HLEN.out, List.length_take]; unfold stp; split <;> omega
    have hLb : Bytes L := by rw [hL]; exact hbyt.append (bodyV_bytes _ _)
    have hbr : w2.heap.size ≤ wr.heap.size := hin.size
    have HOW := Lib.hid hown; have HLE := Lib.hid hL; have HLL := Lib.hid hLl; clear hown hL hLl
    by_cases hlt : k < l.length
    · obtain ⟨ad, rfl, hblk, hc⟩ := (hsl2.of hin).at hlt
      obtain ⟨x, hx⟩ : ∃ x, x = l.getD k 0 := ⟨_, rfl⟩
      have hx2 : x < 18446744073709551616 := by rw [hx]; exact HW.out.at hlt
      rw [← hx] at hc
      have hnext := body_snoc (F := pf) true hlt
      rw [← hx] at hnext
      simp only [if_true] at hnext
      have HN := Lib.hid hnext; have HX2 := Lib.hid hx2; clear hx hx2 hnext
      go_wp2_with fail
      refine (Rput8 w2.heap.size _ L x HX2.out (by have := HLL.out; omega) _ (by exact hbr) (by exact HOW.out)).mono ?_; rintro e5 w5 ⟨v5, rfl, hO5, hB5⟩
      have HO5 := Lib.hid hO5; clear hO5
      go_wp2
      go_roundw
      case rel => exact ⟨k + 1, hlt, by go_num, (by have := HO5.out; rw [HLE.out, List.append_assoc, ← HN.out] at this; exact this), Below.trans hin hB5⟩
      case measure => simp [intOf]; omega
    · obtain rfl : k = l.length := by omega
      obtain ⟨A5, k5, rfl, _, hat5, _⟩ := HOW.out.form
      have hcr := crcOf_lt hLb
      have g7 : IntKind.u64.wrap (crcOf L : Int) = (crcOf L : Int) := by rw [IntKind.wrap_u64]; omega
      have SM := Lib.hid (Rsum_any A5 k5 L hLb (by have := HLL.out; omega) wr hat5)
      have HCR := Lib.hid hcr; have HLB := Lib.hid hLb; clear hcr hLb
      go_wp2_with fail
      refine SM.out.mono ?_; rintro e5 w5 ⟨rfl, rfl⟩
      go_wp2_with fail
      refine (Rput4 w2.heap.size _ L (crcOf L) (by have := HCR.out; omega) (by have := HLL.out; omega) _ (by exact hbr) (by exact HOW.out)).mono ?_; rintro e6 w6 ⟨v6, rfl, hO6, hB6⟩
      go_wp2
      go_ret2
      refine ⟨_, rfl, ?_, hin2.trans (Below.trans hin hB6)⟩
      have e : L = headV true S l.length q t ++ bodyV pf true l := by
        have h1 := HLE.out; rw [List.take_of_length_le (Nat.le_refl _), HHL.out] at h1; exact h1
      unfold withSum
      rw [← e]
      exact hO6.less hin2.size

set_option maxRecDepth 100000 in
set_option maxHeartbeats 1000000 in
theorem Rpack_near (S q t : Nat) (A : Option Addr) (c : Nat) (l : List Nat) (hS : S < 64) (hl : l.length ≤ 6) (hq : q < 4294967296) (ht : t < 4294967296) (hw : Words64 l) (hfin : l.all finD = true) (hsg : l.all isSD = true) (CK : Hid (∀ w, SlAt w A (f64v l) → Calls Tryd.prog 53 #[.agg #[.int .i64 (S : Int), .int .u32 (q : Int), .int .u32 (t : Int), .slice A l.length c]] w fun e1 w' => e1 = .returned (.int .i64 (0)) ∧ Within w w')) (SG : Hid (∀ w, SlAt w A (f64v l) → Calls Tryd.prog 54 #[.slice A l.length c] w fun e w' => e = .returned (.bool true) ∧ Within w w')) (w : World) (hr : SlAt w A (f64v l)) : Calls Tryd.prog 31 #[.agg #[.int .i64 (S : Int), .int .u32 (q : Int), .int .u32 (t : Int), .slice A l.length c]] w fun e w' => ∃ v, e = .returned (.tuple #[v, .int .i64 0]) ∧ OwnB w' w.heap.size v (withSum (headV false S l.length q t ++ bodyV pf false l)) ∧ Within w w' := by
  have HW := Lib.hid hw; have HR := Lib.hid hr; have HF := Lib.hid hfin; clear hw hr hfin
  have HSG := Lib.hid hsg; clear hsg
  have g1 : IntKind.u8.wrap (l.length : Int) = (l.length : Int) := by rw [IntKind.wrap_u8]; omega
  have g1' : IntKind.u8.wrap ((l.length : Int) + 128) = (l.length : Int) + 128 := by rw [IntKind.wrap_u8]; omega
  have g2 : IntKind.u8.wrap (S : Int) = (S : Int) := by rw [IntKind.wrap_u8]; omega
  have g4 : IntKind.u64.wrap (q : Int) = (q : Int) := by rw [IntKind.wrap_u64]; omega
  have g5 : IntKind.u64.wrap (t : Int) = (t : Int) := by rw [IntKind.wrap_u64]; omega
  have HQ := Lib.hid (And.intro hq ht); clear hq ht
  have c0 : (w.alloc (.cells #[.int .i64 (S : Int), .int .u32 (q : Int), .int .u32 (t : Int), .slice A l.length c] 67)).cell? ⟨w.heap.size, 0, none⟩ = some (.int .i64 (S : Int)) := by go_simp
  have c1 : (w.alloc (.cells #[.int .i64 (S : Int), .int .u32 (q : Int), .int .u32 (t : Int), .slice A l.length c] 67)).cell? ⟨w.heap.size, 1, none⟩ = some (.int .u32 (q : Int)) := by go_simp
  have c2 : (w.alloc (.cells #[.int .i64 (S : Int), .int .u32 (q : Int), .int .u32 (t : Int), .slice A l.length c] 67)).cell? ⟨w.heap.size, 2, none⟩ = some (.int .u32 (t : Int)) := by go_simp
  have c3 : (w.alloc (.cells #[.int .i64 (S : Int), .int .u32 (q : Int), .int .u32 (t : Int), .slice A l.length c] 67)).cell? ⟨w.heap.size, 3, none⟩ = some (.slice A l.length c) := by go_simp
  have hg : w.heap.size < (w.alloc (.cells #[.int .i64 (S : Int), .int .u32 (q : Int), .int .u32 (t : Int), .slice A l.length c] 67)).heap.size := by simp
  have hsl := HR.out.of ((Within.refl w).alloc (.cells #[.int .i64 (S : Int), .int .u32 (q : Int), .int .u32 (t : Int), .slice A l.length c] 67))
  have hin1 : Within w (w.alloc (.cells #[.int .i64 (S : Int), .int .u32 (q : Int), .int .u32 (t : Int), .slice A l.length c] 67)) := (Within.refl w).alloc _
  go_enter Tryd.func31, Tryd.ntmps31
  go_wp2_with fail
  refine (CK.out _ hsl).mono ?_; rintro e1 w1 ⟨rfl, hv1⟩
  have a1_0 := (hv1.cells _ 0 hg).trans c0
  have a1_1 := (hv1.cells _ 1 hg).trans c1
  have a1_2 := (hv1.cells _ 2 hg).trans c2
  have a1_3 := (hv1.cells _ 3 hg).trans c3
  go_wp2_with fail
  refine (SG.out _ (hsl.of hv1)).mono ?_; rintro e2 w2 ⟨rfl, hb2⟩
  have hv2 := hv1.trans hb2
  have a2_0 := (hv2.cells _ 0 hg).trans c0
  have a2_1 := (hv2.cells _ 1 hg).trans c1
  have a2_2 := (hv2.cells _ 2 hg).trans c2
  have a2_3 := (hv2.cells _ 3 hg).trans c3
  have hsl2 := hsl.of hv2
  have hin2 := hin1.trans hv2
  have hg2 : w.heap.size < w2.heap.size := Nat.lt_of_lt_of_le hg hv2.size
  have hrow := made_row w2 [181, 98, S, l.length] (by simp)
  clear a1_0 a1_1 a1_2 a1_3 c0 c1 c2 c3 hsl hv1 hb2 hv2 hin1
  have HG : Hid (OwnB (w2.alloc (.cells #[.int .u8 181, .int .u8 98, .int .u8 (S : Int), .int .u8 (l.length : Int)] 5)) w2.heap.size (.slice (some ⟨w2.heap.size, 0, none⟩) 4 4) [181, 98, S, l.length]) := Lib.hid hrow
  clear hrow
  have hW : Within w2 (w2.alloc (.cells #[.int .u8 181, .int .u8 98, .int .u8 (S : Int), .int .u8 (l.length : Int)] 5)) := (Within.refl w2).alloc _
  go_wp2_with fail
  refine (Rput4 w2.heap.size _ [181, 98, S, l.length] q (by have := HQ.out; omega) (by simp) _ (by exact hW.size) (by exact HG.out)).mono ?_; rintro e3 w3 ⟨v3, rfl, hO3, hB3⟩
  have hin3 : Within w2 w3 := Below.trans hW hB3
  have f0 := (hin3.cells _ 0 hg2).trans a2_0
  have f1 := (hin3.cells _ 1 hg2).trans a2_1
  have f2 := (hin3.cells _ 2 hg2).trans a2_2
  have f3 := (hin3.cells _ 3 hg2).trans a2_3
  have HO3 := Lib.hid hO3; clear hO3
  go_wp2_with fail
  refine (Rput4 w2.heap.size _ ([181, 98, S, l.length] ++ leBytes 4 q) t (by have := HQ.out; omega) (by simp [leBytes_len]) _ (by exact hin3.size) (by exact HO3.out)).mono ?_; rintro e4 w4 ⟨v4, rfl, hO4, hB4⟩
  have hin4 : Within w2 w4 := Below.trans hin3 hB4
  obtain ⟨HL, hHL⟩ : ∃ HL, HL = [181, 98, S, l.length] ++ leBytes 4 q ++ leBytes 4 t := ⟨_, rfl⟩
  rw [← hHL] at hO4
  have hlen : HL.length = 12 := by rw [hHL]; simp [leBytes_len]
  have hbyt : Bytes HL := by
    rw [hHL]
    refine Bytes.append (Bytes.append ?_ (leBytes_bytes _ _)) (leBytes_bytes _ _)
    intro z hz
    simp only [List.mem_cons, List.not_mem_nil, or_false] at hz
    rcases hz with rfl | rfl | rfl | rfl <;> omega
  have d0 := (hin4.cells _ 0 hg2).trans a2_0
  have d1 := (hin4.cells _ 1 hg2).trans a2_1
  have d2 := (hin4.cells _ 2 hg2).trans a2_2
  have d3 := (hin4.cells _ 3 hg2).trans a2_3
  have HHL := Lib.hid hHL; have HLEN := Lib.hid hlen; have HO4 := Lib.hid hO4
  clear hW HO3 hB3 hin3 hO4 hB4 HG hHL hlen f0 f1 f2 f3
  go_wp2
  go_loopw [7, 44] (fun bv iv wr => ∃ k : Nat, k ≤ l.length ∧ iv = .int .i64 (k : Int) ∧ OwnB wr w2.heap.size bv (HL ++ bodyV pf false (l.take k)) ∧ Within w2 wr) (fun _ iv _ => l.length - (intOf iv).toNat)
  case atStart => exact ⟨0, Nat.zero_le _, rfl, (by rw [show bodyV pf false (l.take 0) = [] from rfl, List.append_nil]; exact HO4.out), hin4⟩
  case round =>
    obtain ⟨k, hk, rfl, hown, hin⟩ := hrel
    obtain ⟨L, hL⟩ : ∃ L, L = HL ++ bodyV pf false (l.take k) := ⟨_, rfl⟩
    rw [← hL] at hown
    have hLl : L.length ≤ 100 := by rw [hL, List.length_append, bodyV_len, HLEN.out, List.length_take]; unfold stp; split <;> omega
    have hLb : Bytes L := by rw [hL]; exact hbyt.append (bodyV_bytes _ _)
    have hbr : w2.heap.size ≤ wr.heap.size := hin.size
    have HOW := Lib.hid hown; have HLE := Lib.hid hL; have HLL := Lib.hid hLl; clear hown hL hLl
    by_cases hlt : k < l.length
    · obtain ⟨ad, rfl, hblk, hc⟩ := (hsl2.of hin).at hlt
      obtain ⟨x, hx⟩ : ∃ x, x = l.getD k 0 := ⟨_, rfl⟩
      have hx2 : x < 18446744073709551616 := by rw [hx]; exact HW.out.at hlt
      rw [← hx] at hc
      have hnext := body_snoc (F := pf) false hlt
      rw [← hx] at hnext
      have hmem : x ∈ l := by rw [hx, List.getD, List.getElem?_eq_getElem hlt]; exact List.getElem_mem hlt
      have hfx := List.all_eq_true.1 HF.out x hmem
      have hsx := List.all_eq_true.1 HSG.out x hmem
      have hcv : ∀ w, (convert 111 114 (.float .f64 x)).run Tryd.prog w = .ok (.float .f32 (nWord x 0)) w := fun w => by
        have h := conv_nar (P := Tryd.prog) (src := 111) (dst := 114) (by kernel_rfl) (by kernel_rfl) x hx2 w
        rw [(nar_single hx2 hfx hsx w).1, (nar_single hx2 hfx hsx w).2] at h; exact h
      obtain ⟨nx, hnx⟩ : ∃ nx, nx = nWord x 0 := ⟨_, rfl⟩
      have hnx2 : nx < 4294967296 := by rw [hnx]; exact nWord_lt x hx2 0
      have hnb : pf.nb x = nx := hnx.symm
      rw [← hnx] at hcv
      have g6 : IntKind.u64.wrap (nx : Int) = (nx : Int) := by rw [IntKind.wrap_u64]; omega
      simp only [Bool.false_eq_true, if_false] at hnext
      rw [hnb] at hnext
      have HNX := Lib.hid hnx2; clear hmem hfx hsx hnx hnx2 hnb
      have HN := Lib.hid hnext; have HX2 := Lib.hid hx2; clear hx hx2 hnext
      go_wp2_with fail
      refine (Rput4 w2.heap.size _ L nx (by have := HNX.out; omega) (by have := HLL.out; omega) _ (by exact hbr) (by exact HOW.out)).mono ?_; rintro e5 w5 ⟨v5, rfl, hO5, hB5⟩
      have HO5 := Lib.hid hO5; clear hO5
      go_wp2
      go_roundw
      case rel => exact ⟨k + 1, hlt, by go_num, (by have := HO5.out; rw [HLE.out, List.append_assoc, ← HN.out] at this; exact this), Below.trans hin hB5⟩
      case measure => simp [intOf]; omega
    · obtain rfl : k = l.length := by omega
      obtain ⟨A5, k5, rfl, _, hat5, _⟩ := HOW.out.form
      have hcr := crcOf_lt hLb
      have g7 : IntKind.u64.wrap (crcOf L : Int) = (crcOf L : Int) := by rw [IntKind.wrap_u64]; omega
      have SM := Lib.hid (Rsum_any A5 k5 L hLb (by have := HLL.out; omega) wr hat5)
      have HCR := Lib.hid hcr; have HLB := Lib.hid hLb; clear hcr hLb
      go_wp2_with fail
      refine SM.out.mono ?_; rintro e5 w5 ⟨rfl, rfl⟩
      go_wp2_with fail
      refine (Rput4 w2.heap.size _ L (crcOf L) (by have := HCR.out; omega) (by have := HLL.out; omega) _ (by exact hbr) (by exact HOW.out)).mono ?_; rintro e6 w6 ⟨v6, rfl, hO6, hB6⟩
      go_wp2
      go_ret2
      refine ⟨_, rfl, ?_, hin2.trans (Below.trans hin hB6)⟩
      have e : L = headV false S l.length q t ++ bodyV pf false l := by
        have h1 := HLE.out; rw [List.take_of_length_le (Nat.le_refl _), HHL.out] at h1; exact h1
      unfold withSum
      rw [← e]
      exact hO6.less hin2.size

/-- what Pack answers: a frame, or nothing; and why -/
def packL (s : Int) (q t : Nat) (l : List Nat) : List Nat := if checkV pf s l = 0 then packV pf ⟨s.toNat, q, t, l⟩ else []
theorem check_parts {s : Int} {l : List Nat} (h : checkV pf s l = 0) : 0 ≤ s ∧ s < 64 ∧ l.length ≤ 6 ∧ l.all finD = true := by
  unfold checkV at h
  by_cases h1 : s < 0 ∨ 64 ≤ s ∨ 6 < l.length
  · rw [if_pos h1] at h; cases h
  rw [if_neg h1] at h
  by_cases h2 : l.all pf.fin = true
  · exact ⟨by omega, by omega, by omega, h2⟩
  · rw [if_neg h2] at h; cases h
theorem pack_split {S q t : Nat} {l : List Nat} : packV pf ⟨S, q, t, l⟩ = withSum (headV (!l.all isSD) S l.length q t ++ bodyV pf (!l.all isSD) l) := rfl

theorem Pack_any (s : Int) (q t : Nat) (A : Option Addr) (c : Nat) (l : List Nat) (hq : q < 4294967296) (ht : t < 4294967296) (hw : Words64 l) (hl : l.length ≤ 1152921504606846976) (w : World) (hT : FmS w) (hr : SlAt w A (f64v l)) :
    Calls Tryd.prog 51 #[.agg #[.int .i64 s, .int .u32 (q : Int), .int .u32 (t : Int), .slice A l.length c]] w fun e w' => ∃ v, e = .returned (.tuple #[v, .int .i64 (checkV pf s l)]) ∧ OwnB w' w.heap.size v (packL s q t l) ∧ Within w w' := by
  have CK := Lib.hid (fun w h => Check_any s (.int .u32 (q : Int)) (.int .u32 (t : Int)) A c l hw hl w h)
  unfold packL
  by_cases h : checkV pf s l = 0
  · rw [h] at CK ⊢
    rw [if_pos rfl]
    obtain ⟨h0, h1, h2, h3⟩ := check_parts h
    obtain ⟨S, rfl⟩ : ∃ S : Nat, s = (S : Int) := ⟨s.toNat, by omega⟩
    rw [Int.toNat_natCast, pack_split]
    have SG := Lib.hid (fun w (hT : FmS w) (hr : SlAt w A (f64v l)) => Singles_any A c (.int .i64 (S : Int)) (.int .u32 (q : Int)) (.int .u32 (t : Int)) l hw hl w hT hr)
    cases hs : l.all isSD
    · rw [hs] at SG
      exact Pack_wide S q t A c l (by omega) h2 hq ht hw h3 CK SG w hT hr
    · rw [hs] at SG
      exact Pack_near S q t A c l (by omega) h2 hq ht hw h3 hs CK SG w hT hr
  · rw [if_neg h]
    exact (Pack_bad s q t A c l (checkV pf s l) (by rw [bne_iff_ne]; exact h) CK w hr).mono fun e w' ⟨he, hb⟩ => ⟨_, he, OwnB.nil_ _ _, hb⟩

theorem Rpack_any (s : Int) (q t : Nat) (A : Option Addr) (c : Nat) (l : List Nat) (hq : q < 4294967296) (ht : t < 4294967296) (hw : Words64 l) (hl : l.length ≤ 1152921504606846976) (w : World) (hr : SlAt w A (f64v l)) :
    Calls Tryd.prog 31 #[.agg #[.int .i64 s, .int .u32 (q : Int), .int .u32 (t : Int), .slice A l.length c]] w fun e w' => ∃ v, e = .returned (.tuple #[v, .int .i64 (checkV pf s l)]) ∧ OwnB w' w.heap.size v (packL s q t l) ∧ Within w w' := by
  have CK := Lib.hid (fun w h => Rcheck_any s (.int .u32 (q : Int)) (.int .u32 (t : Int)) A c l hw hl w h)
  unfold packL
  by_cases h : checkV pf s l = 0
  · rw [h] at CK ⊢
    rw [if_pos rfl]
    obtain ⟨h0, h1, h2, h3⟩ := check_parts h
    obtain ⟨S, rfl⟩ : ∃ S : Nat, s = (S : Int) := ⟨s.toNat, by omega⟩
    rw [Int.toNat_natCast, pack_split]
    have SG := Lib.hid (fun w (hr : SlAt w A (f64v l)) => Rsingles_any A c l hw hl w hr)
    cases hs : l.all isSD
    · rw [hs] at SG
      exact Rpack_wide S q t A c l (by omega) h2 hq ht hw h3 CK SG w hr
    · rw [hs] at SG
      exact Rpack_near S q t A c l (by omega) h2 hq ht hw h3 hs CK SG w hr
  · rw [if_neg h]
    exact (Rpack_bad s q t A c l (checkV pf s l) (by rw [bne_iff_ne]; exact h) CK w hr).mono fun e w' ⟨he, hb⟩ => ⟨_, he, OwnB.nil_ _ _, hb⟩

end Go.Proofs.YtpmjlaiafgbjgaaDoor
end

section
namespace Go.Proofs.YtpmjlaiafgbjgaaDoor
open Go.RowKit

set_option maxRecDepth 100000 in
set_option maxHeartbeats 600000 in
theorem Unpack_head (A : Option Addr) (c : Nat) (l : List Nat) (n : Int) (SZ : Hid (∀ w, SlAt w A (u8v l) → Calls Tryd.prog 67 #[.slice A l.length c] w fun e w' => e = .returned (.tuple #[.int .i64 n, .bool false]) ∧ w = w')) (w : World) (hr : SlAt w A (u8v l)) : Calls Tryd.prog 49 #[.slice A l.length c] w fun e w' => e = .returned (.tuple #[.agg #[.int .i64 0, .int .u32 0, .int .u32 0, .slice none 0 0], .int .i64 211]) ∧ Within w w' := by
  have HR := Lib.hid hr; clear hr
  go_enter Tryd.func49, Tryd.ntmps49
  go_wp2_with fail
  refine (SZ.out _ (HR.out.of (by repeat (first | with_reducible exact Within.refl _ | with_reducible assumption | with_reducible refine Within.alloc ?_ _ | with_reducible refine Within.drew ?_ | with_reducible refine Within.drewN ?_ _ | with_reducible refine Within.setCell ?_ (by first | (simp; done) | (simp; omega)) _ | with_reducible refine Within.trans ?_ (by assumption))))).mono ?_; rintro e1 w1 ⟨rfl, rfl⟩
  go_wp2
  refine bodyPost_ret (v := .tuple #[.agg #[.int .i64 0, .int .u32 0, .int .u32 0, .slice none 0 0], .int .i64 211]) (by simp [results, Tryd.results49, go_sem]) rfl ⟨rfl, (by repeat (first | with_reducible exact Within.refl _ | with_reducible assumption | with_reducible refine Within.alloc ?_ _ | with_reducible refine Within.drew ?_ | with_reducible refine Within.drewN ?_ _ | with_reducible refine Within.setCell ?_ (by first | (simp; done) | (simp; omega)) _ | with_reducible refine Within.trans ?_ (by assumption)))⟩

set_option maxRecDepth 100000 in
set_option maxHeartbeats 600000 in
theorem Unpack_few (A : Option Addr) (c : Nat) (l : List Nat) (n : Int) (h : l.length < 4) (SZ : Hid (∀ w, SlAt w A (u8v l) → Calls Tryd.prog 67 #[.slice A l.length c] w fun e w' => e = .returned (.tuple #[.int .i64 n, .bool true]) ∧ w = w')) (w : World) (hr : SlAt w A (u8v l)) : Calls Tryd.prog 49 #[.slice A l.length c] w fun e w' => e = .returned (.tuple #[.agg #[.int .i64 0, .int .u32 0, .int .u32 0, .slice none 0 0], .int .i64 211]) ∧ Within w w' := by
  have HR := Lib.hid hr; clear hr
  go_enter Tryd.func49, Tryd.ntmps49
  go_wp2_with fail
  refine (SZ.out _ (HR.out.of (by repeat (first | with_reducible exact Within.refl _ | with_reducible assumption | with_reducible refine Within.alloc ?_ _ | with_reducible refine Within.drew ?_ | with_reducible refine Within.drewN ?_ _ | with_reducible refine Within.setCell ?_ (by first | (simp; done) | (simp; omega)) _ | with_reducible refine Within.trans ?_ (by assumption))))).mono ?_; rintro e1 w1 ⟨rfl, rfl⟩
  go_wp2
  refine bodyPost_ret (v := .tuple #[.agg #[.int .i64 0, .int .u32 0, .int .u32 0, .slice none 0 0], .int .i64 211]) (by simp [results, Tryd.results49, go_sem]) rfl ⟨rfl, (by repeat (first | with_reducible exact Within.refl _ | with_reducible assumption | with_reducible refine Within.alloc ?_ _ | with_reducible refine Within.drew ?_ | with_reducible refine Within.drewN ?_ _ | with_reducible refine Within.setCell ?_ (by first | (simp; done) | (simp; omega)) _ | with_reducible refine Within.trans ?_ (by assumption)))⟩

set_option maxRecDepth 100000 in
set_option maxHeartbeats 600000 in
theorem Unpack_long (A : Option Addr) (c : Nat) (l : List Nat) (n : Int) (h : 4 ≤ l.length) (hl : l.length ≤ 1152921504606846976) (hn : ((l.length : Int) != n) = true) (SZ : Hid (∀ w, SlAt w A (u8v l) → Calls Tryd.prog 67 #[.slice A l.length c] w fun e w' => e = .returned (.tuple #[.int .i64 n, .bool true]) ∧ w = w')) (w : World) (hr : SlAt w A (u8v l)) : Calls Tryd.prog 49 #[.slice A l.length c] w fun e w' => e = .returned (.tuple #[.agg #[.int .i64 0, .int .u32 0, .int .u32 0, .slice none 0 0], .int .i64 211]) ∧ Within w w' := by
  have HR := Lib.hid hr; clear hr
  go_enter Tryd.func49, Tryd.ntmps49
  go_wp2_with fail
  refine (SZ.out _ (HR.out.of (by repeat (first | with_reducible exact Within.refl _ | with_reducible assumption | with_reducible refine Within.alloc ?_ _ | with_reducible refine Within.drew ?_ | with_reducible refine Within.drewN ?_ _ | with_reducible refine Within.setCell ?_ (by first | (simp; done) | (simp; omega)) _ | with_reducible refine Within.trans ?_ (by assumption))))).mono ?_; rintro e1 w1 ⟨rfl, rfl⟩
  go_wp2
  refine bodyPost_ret (v := .tuple #[.agg #[.int .i64 0, .int .u32 0, .int .u32 0, .slice none 0 0], .int .i64 211]) (by simp [results, Tryd.results49, go_sem]) rfl ⟨rfl, (by repeat (first | with_reducible exact Within.refl _ | with_reducible assumption | with_reducible refine Within.alloc ?_ _ | with_reducible refine Within.drew ?_ | with_reducible refine Within.drewN ?_ _ | with_reducible refine Within.setCell ?_ (by first | (simp; done) | (simp; omega)) _ | with_reducible refine Within.trans ?_ (by assumption)))⟩

set_option maxRecDepth 100000 in
set_option maxHeartbeats 1000000 in
theorem Unpack_sum (ad : Addr) (c m : Nat) (l : List Nat) (hm : 12 ≤ m ∧ m ≤ 60) (hc : m + 4 ≤ c) (SZ : Hid (∀ w, SlAt w (some ad) (u8v l) → Calls Tryd.prog 67 #[.slice (some ad) (m + 4) c] w fun e w' => e = .returned (.tuple #[.int .i64 ((m + 4 : Nat) : Int), .bool true]) ∧ w = w')) (G C : Nat) (hC : C < 4294967296) (GT : Hid (∀ w, SlAt w (some ad) (u8v l) → Calls Tryd.prog 68 #[.slice (some (ad.add m)) 4 (c - m)] w fun e w' => e = .returned (.int .u64 (G : Int)) ∧ w = w')) (SM : Hid (∀ w, SlAt w (some ad) (u8v l) → Calls Tryd.prog 69 #[.slice (some ad) m c] w fun e w' => e = .returned (.int .u32 (C : Int)) ∧ w = w')) (hs : ((G : Int) != (C : Int)) = true) (w : World) (hr : SlAt w (some ad) (u8v l)) : Calls Tryd.prog 49 #[.slice (some ad) (m + 4) c] w fun e w' => e = .returned (.tuple #[.agg #[.int .i64 0, .int .u32 0, .int .u32 0, .slice none 0 0], .int .i64 212]) ∧ Within w w' := by
  have HR := Lib.hid hr; clear hr
  obtain ⟨m1, m2⟩ := hm
  have hn0 : (((m + 4 : Nat) : Int) != ((m + 4 : Nat) : Int)) = false := by rw [bne_eq_false_iff_eq]
  have d4 : decide ((m : Int) + 4 < 4) = false := decide_eq_false (by omega)
  have w4 : IntKind.i64.wrap (m : Int) = (m : Int) := by rw [IntKind.wrap_i64]; omega
  have hcm : ¬ c = m := by omega
  have hle : (m : Int) ≤ (m : Int) + 4 := by omega
  have hmc : m ≤ c := by omega
  have gC : IntKind.u64.wrap (C : Int) = (C : Int) := by rw [IntKind.wrap_u64]; omega
  clear hC
  go_enter Tryd.func49, Tryd.ntmps49
  go_wp2_with fail
  refine (SZ.out _ (HR.out.of (by repeat (first | with_reducible exact Within.refl _ | with_reducible assumption | with_reducible refine Within.alloc ?_ _ | with_reducible refine Within.drew ?_ | with_reducible refine Within.drewN ?_ _ | with_reducible refine Within.setCell ?_ (by first | (simp; done) | (simp; omega)) _ | with_reducible refine Within.trans ?_ (by assumption))))).mono ?_; rintro e1 w1 ⟨rfl, rfl⟩
  go_wp2
  refine wp_region_within (by kernel_rfl) (by kernel_rfl) ?_
  repeat
    apply wpq_step rfl
    · intro wq hCq
      have hsl := HR.out.of ((((Within.refl w).alloc _).trans hCq))
      go_simp
      first | rfl | exact hCq.same (GT.out _ hsl) | exact hCq.same (SM.out _ hsl) | (trace_state; fail)
    try simp only [Act.put, List.setIfInBounds_toArray, List.set_cons_zero, List.set_cons_succ]
  refine wpQuiet_nil ?_
  intro w3 hb3
  have q0 : w3.cell? ⟨w.heap.size, 0, none⟩ = some (.int .i64 0) := (hb3.cells _ _ (by simp)).trans (by simp)
  have q1 : w3.cell? ⟨w.heap.size, 1, none⟩ = some (.int .u32 0) := (hb3.cells _ _ (by simp)).trans (by simp)
  have q2 : w3.cell? ⟨w.heap.size, 2, none⟩ = some (.int .u32 0) := (hb3.cells _ _ (by simp)).trans (by simp)
  have q3 : w3.cell? ⟨w.heap.size, 3, none⟩ = some (.slice none 0 0) := (hb3.cells _ _ (by simp)).trans (by simp)
  have qf : ∀ o, w3.frozen? ⟨w.heap.size, o, none⟩ = false := fun o => (hb3.frozens _ _ (by simp)).trans (by simp)
  have qz : w.heap.size < w3.heap.size := World.block_lt_of_cell? _ _ q0
  go_wp2
  refine bodyPost_ret (v := .tuple #[.agg #[.int .i64 0, .int .u32 0, .int .u32 0, .slice none 0 0], .int .i64 212]) (by simp [results, Tryd.results49, go_sem, q0, q1, q2, q3]) rfl ⟨rfl, (by repeat (first | with_reducible exact Within.refl _ | with_reducible assumption | with_reducible refine Within.alloc ?_ _ | with_reducible refine Within.drew ?_ | with_reducible refine Within.drewN ?_ _ | with_reducible refine Within.setCell ?_ (by first | (simp; done) | (simp; omega)) _ | with_reducible refine Within.trans ?_ (by assumption)))⟩

/-- so many bytes at a place: a number -/
theorem get_at (ad : Addr) (_c k n : Nat) (l : List Nat) (hb : Bytes l) (hn : n ≤ 8) (hk : k + n ≤ l.length) (C : Nat) (w : World) (hr : SlAt w (some ad) (u8v l)) : Calls Tryd.prog 68 #[.slice (some (ad.add k)) n C] w fun e w' => e = .returned (.int .u64 (leVal ((l.drop k).take n) : Int)) ∧ w = w' := by
  have h1 := hr.drop k
  have h2 : SlAt w (some (ad.add k)) (u8v ((l.drop k).take n)) := by
    have := h1.take n
    unfold u8v at this ⊢
    rwa [← List.map_drop, ← List.map_take] at this
  have h3 : ((l.drop k).take n).length = n := by rw [List.length_take, List.length_drop]; omega
  have := get_any (some (ad.add k)) C _ ((hb.drop k).take n) (by omega) w h2
  rwa [h3] at this

/-- returned: a reading and an error, the values in memory of its own -/
def RetR (W : World) (rd : Rd) (er : Int) (e : Ending) (w' : World) : Prop := ∃ v, e = .returned (.tuple #[.agg #[.int .i64 (rd.sensor : Int), .int .u32 (rd.seq : Int), .int .u32 (rd.stamp : Int), v], .int .i64 er]) ∧ OwnF w' W.heap.size v rd.vals ∧ Within W w'
def noRd : Rd := ⟨0, 0, 0, []⟩
theorem map_all {p : Nat → Bool} (hp : ∀ x y, canonD x = canonD y → p x = p y) : ∀ {l m : List Nat}, l.map canonD = m.map canonD → l.all p = m.all p
  | [], [], _ => rfl
  | [], _ :: _, h => by simp at h
  | _ :: _, [], h => by simp at h
  | x :: l, y :: m, h => by
    simp only [List.map_cons, List.cons.injEq] at h
    rw [List.all_cons, List.all_cons, hp x y h.1, map_all hp h.2]
theorem map_fin : ∀ {l m : List Nat}, l.map canonD = m.map canonD → l.all finD = true → m.all finD = true → l = m
  | [], [], _, _, _ => rfl
  | [], _ :: _, h, _, _ => by simp at h
  | _ :: _, [], h, _, _ => by simp at h
  | x :: l, y :: m, h, h1, h2 => by
    simp only [List.map_cons, List.cons.injEq] at h
    rw [List.all_cons, Bool.and_eq_true] at h1 h2
    have := h.1
    rw [canonD_fin h1.1, canonD_fin h2.1] at this
    rw [this, map_fin h.2 h1.2 h2.2]
/-- the values' loop at its head: v: what is still to be read -/
def UnRel (W3 : World) (d : List Nat) (wide : Bool) (n S q t : Nat) (vv : Value) (wr : World) : Prop :=
  ∃ (k : Nat) (A' : Option Addr) (c' : Nat) (vs : List Nat) (sl : Value), k ≤ n ∧ vv = .slice A' (stp wide * (n - k)) c' ∧ stp wide * (n - k) ≤ c' ∧ SlAt W3 A' (u8v (d.drop (stp wide * k))) ∧
    vs.map canonD = (rdVals pf wide k d).map canonD ∧ Words64 vs ∧ OwnF wr (W3.heap.size + 1) sl vs ∧ wr.cell? ⟨W3.heap.size, 0, none⟩ = some (.int .i64 (S : Int)) ∧ wr.cell? ⟨W3.heap.size, 1, none⟩ = some (.int .u32 (q : Int)) ∧
    wr.cell? ⟨W3.heap.size, 2, none⟩ = some (.int .u32 (t : Int)) ∧ wr.cell? ⟨W3.heap.size, 3, none⟩ = some sl ∧ (∀ o, wr.frozen? ⟨W3.heap.size, o, none⟩ = false) ∧ Within W3 wr
def restLen : Value → Nat
  | .slice _ n _ => n
  | _ => 0
theorem UnRel.step {W3 w' : World} {d : List Nat} {wide : Bool} {n S q t k : Nat} {A1 : Option Addr} {c1 x : Nat} {vs : List Nat} {sl' : Value} (hk : k < n) (hc : stp wide * (n - (k + 1)) ≤ c1) (hat : SlAt W3 A1 (u8v (d.drop (stp wide * (k + 1)))))
    (hvs : vs.map canonD = (rdVals pf wide k d).map canonD) (hx : canonD x = canonD (if wide then leVal ((d.drop (stp wide * k)).take 8) else pf.wb (leVal ((d.drop (stp wide * k)).take 4)))) (hx2 : x < 18446744073709551616) (hw : Words64 vs)
    (hown : OwnF w' (W3.heap.size + 1) sl' (vs ++ [x])) (h0 : w'.cell? ⟨W3.heap.size, 0, none⟩ = some (.int .i64 (S : Int))) (h1 : w'.cell? ⟨W3.heap.size, 1, none⟩ = some (.int .u32 (q : Int))) (h2 : w'.cell? ⟨W3.heap.size, 2, none⟩ = some (.int .u32 (t : Int)))
    (h3 : (w'.cell? ⟨W3.heap.size, 3, none⟩).isSome = true) (hf : ∀ o, w'.frozen? ⟨W3.heap.size, o, none⟩ = false) (hb : Within W3 w') :
    UnRel W3 d wide n S q t (.slice A1 (stp wide * (n - (k + 1))) c1) (w'.setCell ⟨W3.heap.size, 3, none⟩ sl') := by
  obtain ⟨u, hu⟩ := Option.isSome_iff_exists.1 h3
  refine ⟨k + 1, A1, c1, vs ++ [x], sl', hk, rfl, hc, hat, ?_, ?_, hown.set (by show W3.heap.size < _; omega) _, ?_, ?_, ?_, World.cell?_setCell_same _ _ _ hu, fun o => ?_, hb.setCell (Nat.le_refl _) _⟩
  · rw [rdVals_snoc, List.map_append, List.map_append, hvs, List.map_singleton, List.map_singleton, hx]
  · intro y hy
    rcases List.mem_append.1 hy with h | h
    · exact hw y h
    · rw [List.mem_singleton] at h; rw [h]; exact hx2
  · rw [World.cell?_setCell_other _ _ _ _ (by simp)]; exact h0
  · rw [World.cell?_setCell_other _ _ _ _ (by simp)]; exact h1
  · rw [World.cell?_setCell_other _ _ _ _ (by simp)]; exact h2
  · rw [World.frozen?_setCell]; exact hf o

end Go.Proofs.YtpmjlaiafgbjgaaDoor
end

section
namespace Go.Proofs.YtpmjlaiafgbjgaaDoor
open Go.RowKit

set_option maxRecDepth 100000 in
set_option maxHeartbeats 1000000 in
theorem Unpack_wide (ad : Addr) (c m : Nat) (l : List Nat) (hm : 12 ≤ m ∧ m ≤ 60) (hc : m + 4 ≤ c) (SZ : Hid (∀ w, SlAt w (some ad) (u8v l) → Calls Tryd.prog 67 #[.slice (some ad) (m + 4) c] w fun e w' => e = .returned (.tuple #[.int .i64 ((m + 4 : Nat) : Int), .bool true]) ∧ w = w')) (G C : Nat) (hC : C < 4294967296) (GT : Hid (∀ w, SlAt w (some ad) (u8v l) → Calls Tryd.prog 68 #[.slice (some (ad.add m)) 4 (c - m)] w fun e w' => e = .returned (.int .u64 (G : Int)) ∧ w = w')) (SM : Hid (∀ w, SlAt w (some ad) (u8v l) → Calls Tryd.prog 69 #[.slice (some ad) m c] w fun e w' => e = .returned (.int .u32 (C : Int)) ∧ w = w')) (S q t : Nat) (hS : S < 256) (hq : q < 4294967296) (ht : t < 4294967296) (GQ : Hid (∀ w, SlAt w (some ad) (u8v l) → Calls Tryd.prog 68 #[.slice (some ⟨ad.block, ad.off + 4, none⟩) 4 (c - 4)] w fun e w' => e = .returned (.int .u64 (q : Int)) ∧ w = w')) (GT4 : Hid (∀ w, SlAt w (some ad) (u8v l) → Calls Tryd.prog 68 #[.slice (some ⟨ad.block, ad.off + 8, none⟩) 4 (c - 8)] w fun e w' => e = .returned (.int .u64 (t : Int)) ∧ w = w')) (h2 : ∀ w, SlAt w (some ad) (u8v l) → w.cell? ⟨ad.block, ad.off + 2, none⟩ = some (.int .u8 (S : Int))) (n K : Nat) (hn : n ≤ 6) (hmn : m = 12 + 8 * n) (hK : bits .and .u8 (K : Int) 128 = 128) (h3 : ∀ w, SlAt w (some ad) (u8v l) → w.cell? ⟨ad.block, ad.off + 3, none⟩ = some (.int .u8 (K : Int))) (d : List Nat) (hd : d = (l.drop 12).take (8 * n)) (hbd : Bytes d) (hdl : d.length = 8 * n) (fb sb : Bool) (hfb : (rdVals pf true n d).all finD = fb) (hsb : (rdVals pf true n d).all isSD = sb) (er : Int) (her : er = if fb = false ∨ true = sb then 211 else 0) (rd : Rd) (hrd : rd = if er = 0 then ⟨S, q, t, rdVals pf true n d⟩ else noRd) (hs : ((G : Int) != (C : Int)) = false) (w : World) (hT : FmS w) (hr : SlAt w (some ad) (u8v l)) : Calls Tryd.prog 49 #[.slice (some ad) (m + 4) c] w (RetR w rd er) := by
  have HFB := Lib.hid hfb; have HSB := Lib.hid hsb; have HER := Lib.hid her; have HBD := Lib.hid hbd; have HDL := Lib.hid hdl; have HD := Lib.hid hd; have HRD := Lib.hid hrd; clear hrd hfb hsb her hbd hdl hd
  have HR := Lib.hid hr; clear hr
  obtain ⟨m1, m2⟩ := hm
  have hn0 : (((m + 4 : Nat) : Int) != ((m + 4 : Nat) : Int)) = false := by rw [bne_eq_false_iff_eq]
  have d4 : decide ((m : Int) + 4 < 4) = false := decide_eq_false (by omega)
  have w4 : IntKind.i64.wrap (m : Int) = (m : Int) := by rw [IntKind.wrap_i64]; omega
  have hcm : ¬ c = m := by omega
  have hle : (m : Int) ≤ (m : Int) + 4 := by omega
  have hmc : m ≤ c := by omega
  have gC : IntKind.u64.wrap (C : Int) = (C : Int) := by rw [IntKind.wrap_u64]; omega
  clear hC
  have w32q : IntKind.u32.wrap (q : Int) = (q : Int) := by rw [IntKind.wrap_u32]; omega
  have w32t : IntKind.u32.wrap (t : Int) = (t : Int) := by rw [IntKind.wrap_u32]; omega
  have wS : IntKind.i64.wrap (S : Int) = (S : Int) := by rw [IntKind.wrap_i64]; omega
  have hc4 : ¬ c = 4 := by omega
  have hc8 : ¬ c = 8 := by omega
  have hc12 : ¬ c = 12 := by omega
  have l8 : (8 : Int) ≤ (c : Int) := by omega
  have l12 : (12 : Int) ≤ (c : Int) := by omega
  have l2 : (2 : Int) < (m : Int) + 4 := by omega
  have l3 : (3 : Int) < (m : Int) + 4 := by omega
  have l12m : (12 : Int) ≤ (m : Int) := by omega
  have HH := Lib.hid h2; have HH3 := Lib.hid h3; have HMN := Lib.hid hmn; clear h2 h3 hmn
  have HS := Lib.hid (And.intro hS (And.intro hq ht)); clear hS hq ht
  go_enter Tryd.func49, Tryd.ntmps49
  go_wp2_with fail
  refine (SZ.out _ (HR.out.of (by repeat (first | with_reducible exact Within.refl _ | with_reducible assumption | with_reducible refine Within.alloc ?_ _ | with_reducible refine Within.drew ?_ | with_reducible refine Within.drewN ?_ _ | with_reducible refine Within.setCell ?_ (by first | (simp; done) | (simp; omega)) _ | with_reducible refine Within.trans ?_ (by assumption))))).mono ?_; rintro e1 w1 ⟨rfl, rfl⟩
  go_wp2
  refine wp_region_within (by kernel_rfl) (by kernel_rfl) ?_
  repeat
    apply wpq_step rfl
    · intro wq hCq
      have hsl := HR.out.of ((((Within.refl w).alloc _).trans hCq))
      go_simp
      first | rfl | exact hCq.same (GT.out _ hsl) | exact hCq.same (SM.out _ hsl) | (trace_state; fail)
    try simp only [Act.put, List.setIfInBounds_toArray, List.set_cons_zero, List.set_cons_succ]
  refine wpQuiet_nil ?_
  intro w3 hb3
  have q0 : w3.cell? ⟨w.heap.size, 0, none⟩ = some (.int .i64 0) := (hb3.cells _ _ (by simp)).trans (by simp)
  have q1 : w3.cell? ⟨w.heap.size, 1, none⟩ = some (.int .u32 0) := (hb3.cells _ _ (by simp)).trans (by simp)
  have q2 : w3.cell? ⟨w.heap.size, 2, none⟩ = some (.int .u32 0) := (hb3.cells _ _ (by simp)).trans (by simp)
  have q3 : w3.cell? ⟨w.heap.size, 3, none⟩ = some (.slice none 0 0) := (hb3.cells _ _ (by simp)).trans (by simp)
  have qf : ∀ o, w3.frozen? ⟨w.heap.size, o, none⟩ = false := fun o => (hb3.frozens _ _ (by simp)).trans (by simp)
  have qz : w.heap.size < w3.heap.size := World.block_lt_of_cell? _ _ q0
  go_upto_region 6 with fail
  go_cut [6] (fun s6 wx => s6 = .pointer (some ⟨w3.heap.size, 0, none⟩) ∧ (wx.cell? ⟨w3.heap.size, 0, none⟩ = some (.int .i64 (S : Int)) ∧ wx.cell? ⟨w3.heap.size, 1, none⟩ = some (.int .u32 (q : Int)) ∧ wx.cell? ⟨w3.heap.size, 2, none⟩ = some (.int .u32 (t : Int)) ∧ wx.cell? ⟨w3.heap.size, 3, none⟩ = some (.slice none 0 0) ∧ (∀ o, wx.frozen? ⟨w3.heap.size, o, none⟩ = false) ∧ Within w3 wx))
  case first =>
    have h2 := HH.out
    refine wp_region_schG (fun W => SlAt W (some ad) (u8v l) ∧ W.heap.size = w3.heap.size ∧ Within w3 W) 14 (.firm 0 (.firm 1 (.firm 2 (.firm 3 (.firm 4 (.firm 5 (.firm 8 (.firm 9 (.two 6 (.firm 7 (.two 10 (.firm 11 (.firm 12 (.one 13 (.one 14 .nil)))) 13 (.one 10 (.firm 11 (.firm 12 (.one 14 .nil)))))) 13 (.one 6 (.firm 7 (.one 10 (.firm 11 (.firm 12 (.one 14 .nil))))))))))))))) (by kernel_rfl) (by kernel_rfl) ⟨HR.out.of ((Within.refl w).alloc _ |>.trans hb3), rfl, Within.refl _⟩ ?_
    rintro w0 ⟨hs0, hz1, hw0⟩
    try simp only [Act.put, List.setIfInBounds_toArray, List.set_cons_zero, List.set_cons_succ]
    iterate 8
      apply sch_firm rfl rfl (by repeat (first | with_reducible exact Within.refl _ | with_reducible assumption | with_reducible refine Within.alloc ?_ _ | with_reducible refine Within.drew ?_ | with_reducible refine Within.drewN ?_ _ | with_reducible refine Within.setCell ?_ (by first | (simp; done) | (simp; omega)) _ | with_reducible refine Within.trans ?_ (by assumption)))
      · intro wq hq
        have hcq := hq.cells
        have hcell := h2 _ (hs0.of hq)
        clear hq
        go_simp
        rfl
      try simp only [Act.put, List.setIfInBounds_toArray, List.set_cons_zero, List.set_cons_succ]
    refine sch_two rfl rfl rfl rfl (fun K hK => ?_) (fun K hK => ?_)
    · go_simp
      refine (GQ.out _ (by first | exact hs0 | exact hs0.of ((Within.refl _).drew) | exact hs0.of (((Within.refl _).drew).alloc _))).mono ?_; rintro e4 w4 ⟨rfl, rfl⟩
      refine hK _ _ (by repeat (first | with_reducible exact Within.refl _ | with_reducible assumption | with_reducible refine Within.alloc ?_ _ | with_reducible refine Within.drew ?_ | with_reducible refine Within.drewN ?_ _ | with_reducible refine Within.setCell ?_ (by first | (simp; done) | (simp; omega)) _ | with_reducible refine Within.trans ?_ (by assumption))) ?_
      clear hK K
      try simp only [Act.put, List.setIfInBounds_toArray, List.set_cons_zero, List.set_cons_succ]
      apply sch_firm rfl rfl (by repeat (first | with_reducible exact Within.refl _ | with_reducible assumption | with_reducible refine Within.alloc ?_ _ | with_reducible refine Within.drew ?_ | with_reducible refine Within.drewN ?_ _ | with_reducible refine Within.setCell ?_ (by first | (simp; done) | (simp; omega)) _ | with_reducible refine Within.trans ?_ (by assumption)))
      · intro wq hq
        have hcq := hq.cells
        have hcell := h2 _ (hs0.of hq)
        clear hq
        go_simp
        rfl
      try simp only [Act.put, List.setIfInBounds_toArray, List.set_cons_zero, List.set_cons_succ]
      refine sch_two rfl rfl rfl rfl (fun K hK => ?_) (fun K hK => ?_)
      · go_simp
        refine (GT4.out _ (by first | exact hs0 | exact hs0.of ((Within.refl _).drew) | exact hs0.of (((Within.refl _).drew).alloc _))).mono ?_; rintro e5 w5 ⟨rfl, rfl⟩
        refine hK _ _ (by repeat (first | with_reducible exact Within.refl _ | with_reducible assumption | with_reducible refine Within.alloc ?_ _ | with_reducible refine Within.drew ?_ | with_reducible refine Within.drewN ?_ _ | with_reducible refine Within.setCell ?_ (by first | (simp; done) | (simp; omega)) _ | with_reducible refine Within.trans ?_ (by assumption))) ?_
        clear hK K
        try simp only [Act.put, List.setIfInBounds_toArray, List.set_cons_zero, List.set_cons_succ]
        iterate 2
          apply sch_firm rfl rfl (by repeat (first | with_reducible exact Within.refl _ | with_reducible assumption | with_reducible refine Within.alloc ?_ _ | with_reducible refine Within.drew ?_ | with_reducible refine Within.drewN ?_ _ | with_reducible refine Within.setCell ?_ (by first | (simp; done) | (simp; omega)) _ | with_reducible refine Within.trans ?_ (by assumption)))
          · intro wq hq
            have hcq := hq.cells
            have hcell := h2 _ (hs0.of hq)
            clear hq
            go_simp
            rfl
          try simp only [Act.put, List.setIfInBounds_toArray, List.set_cons_zero, List.set_cons_succ]
        refine sch_one rfl rfl (fun K hK => ?_)
        go_simp
        refine hK _ _ (fun _ => (by repeat (first | with_reducible exact Within.refl _ | with_reducible assumption | with_reducible refine Within.alloc ?_ _ | with_reducible refine Within.drew ?_ | with_reducible refine Within.drewN ?_ _ | with_reducible refine Within.setCell ?_ (by first | (simp; done) | (simp; omega)) _ | with_reducible refine Within.trans ?_ (by assumption)))) ?_
        clear hK K
        try simp only [Act.put, List.setIfInBounds_toArray, List.set_cons_zero, List.set_cons_succ]
        refine sch_one rfl rfl (fun K hK => ?_)
        go_simp
        refine hK _ _ (fun h => absurd h (by decide)) ?_
        clear hK K
        try simp only [Act.put, List.setIfInBounds_toArray, List.set_cons_zero, List.set_cons_succ]
        refine sch_nil ?_
        go_wp2_with fail
        go_meet
        exact ⟨rfl, by go_simp, by go_simp, by go_simp, by go_simp, fun o => by go_simp, (by repeat (first | with_reducible exact Within.refl _ | with_reducible assumption | with_reducible refine Within.alloc ?_ _ | with_reducible refine Within.drew ?_ | with_reducible refine Within.drewN ?_ _ | with_reducible refine Within.setCell ?_ (by first | (simp; done) | (simp; omega)) _ | with_reducible refine Within.trans ?_ (by assumption)))⟩
      · go_simp
        refine hK _ _ (by repeat (first | with_reducible exact Within.refl _ | with_reducible assumption | with_reducible refine Within.alloc ?_ _ | with_reducible refine Within.drew ?_ | with_reducible refine Within.drewN ?_ _ | with_reducible refine Within.setCell ?_ (by first | (simp; done) | (simp; omega)) _ | with_reducible refine Within.trans ?_ (by assumption))) ?_
        clear hK K
        try simp only [Act.put, List.setIfInBounds_toArray, List.set_cons_zero, List.set_cons_succ]
        refine sch_one rfl rfl (fun K hK => ?_)
        go_simp
        refine (GT4.out _ (by first | exact hs0 | exact hs0.of ((Within.refl _).drew) | exact hs0.of (((Within.refl _).drew).alloc _))).mono ?_; rintro e5 w5 ⟨rfl, rfl⟩
        refine hK _ _ (fun _ => (by repeat (first | with_reducible exact Within.refl _ | with_reducible assumption | with_reducible refine Within.alloc ?_ _ | with_reducible refine Within.drew ?_ | with_reducible refine Within.drewN ?_ _ | with_reducible refine Within.setCell ?_ (by first | (simp; done) | (simp; omega)) _ | with_reducible refine Within.trans ?_ (by assumption)))) ?_
        clear hK K
        try simp only [Act.put, List.setIfInBounds_toArray, List.set_cons_zero, List.set_cons_succ]
        iterate 2
          apply sch_firm rfl rfl (by repeat (first | with_reducible exact Within.refl _ | with_reducible assumption | with_reducible refine Within.alloc ?_ _ | with_reducible refine Within.drew ?_ | with_reducible refine Within.drewN ?_ _ | with_reducible refine Within.setCell ?_ (by first | (simp; done) | (simp; omega)) _ | with_reducible refine Within.trans ?_ (by assumption)))
          · intro wq hq
            have hcq := hq.cells
            have hcell := h2 _ (hs0.of hq)
            clear hq
            go_simp
            rfl
          try simp only [Act.put, List.setIfInBounds_toArray, List.set_cons_zero, List.set_cons_succ]
        refine sch_one rfl rfl (fun K hK => ?_)
        go_simp
        refine hK _ _ (fun h => absurd h (by decide)) ?_
        clear hK K
        try simp only [Act.put, List.setIfInBounds_toArray, List.set_cons_zero, List.set_cons_succ]
        refine sch_nil ?_
        go_wp2_with fail
        go_meet
        exact ⟨rfl, by go_simp, by go_simp, by go_simp, by go_simp, fun o => by go_simp, (by repeat (first | with_reducible exact Within.refl _ | with_reducible assumption | with_reducible refine Within.alloc ?_ _ | with_reducible refine Within.drew ?_ | with_reducible refine Within.drewN ?_ _ | with_reducible refine Within.setCell ?_ (by first | (simp; done) | (simp; omega)) _ | with_reducible refine Within.trans ?_ (by assumption)))⟩
    · go_simp
      refine hK _ _ (by repeat (first | with_reducible exact Within.refl _ | with_reducible assumption | with_reducible refine Within.alloc ?_ _ | with_reducible refine Within.drew ?_ | with_reducible refine Within.drewN ?_ _ | with_reducible refine Within.setCell ?_ (by first | (simp; done) | (simp; omega)) _ | with_reducible refine Within.trans ?_ (by assumption))) ?_
      clear hK K
      try simp only [Act.put, List.setIfInBounds_toArray, List.set_cons_zero, List.set_cons_succ]
      refine sch_one rfl rfl (fun K hK => ?_)
      go_simp
      refine (GQ.out _ (by first | exact hs0 | exact hs0.of ((Within.refl _).drew) | exact hs0.of (((Within.refl _).drew).alloc _))).mono ?_; rintro e4 w4 ⟨rfl, rfl⟩
      refine hK _ _ (fun _ => (by repeat (first | with_reducible exact Within.refl _ | with_reducible assumption | with_reducible refine Within.alloc ?_ _ | with_reducible refine Within.drew ?_ | with_reducible refine Within.drewN ?_ _ | with_reducible refine Within.setCell ?_ (by first | (simp; done) | (simp; omega)) _ | with_reducible refine Within.trans ?_ (by assumption)))) ?_
      clear hK K
      try simp only [Act.put, List.setIfInBounds_toArray, List.set_cons_zero, List.set_cons_succ]
      apply sch_firm rfl rfl (by repeat (first | with_reducible exact Within.refl _ | with_reducible assumption | with_reducible refine Within.alloc ?_ _ | with_reducible refine Within.drew ?_ | with_reducible refine Within.drewN ?_ _ | with_reducible refine Within.setCell ?_ (by first | (simp; done) | (simp; omega)) _ | with_reducible refine Within.trans ?_ (by assumption)))
      · intro wq hq
        have hcq := hq.cells
        have hcell := h2 _ (hs0.of hq)
        clear hq
        go_simp
        rfl
      try simp only [Act.put, List.setIfInBounds_toArray, List.set_cons_zero, List.set_cons_succ]
      refine sch_one rfl rfl (fun K hK => ?_)
      go_simp
      refine (GT4.out _ (by first | exact hs0 | exact hs0.of ((Within.refl _).drew) | exact hs0.of (((Within.refl _).drew).alloc _))).mono ?_; rintro e5 w5 ⟨rfl, rfl⟩
      refine hK _ _ (fun _ => (by repeat (first | with_reducible exact Within.refl _ | with_reducible assumption | with_reducible refine Within.alloc ?_ _ | with_reducible refine Within.drew ?_ | with_reducible refine Within.drewN ?_ _ | with_reducible refine Within.setCell ?_ (by first | (simp; done) | (simp; omega)) _ | with_reducible refine Within.trans ?_ (by assumption)))) ?_
      clear hK K
      try simp only [Act.put, List.setIfInBounds_toArray, List.set_cons_zero, List.set_cons_succ]
      iterate 2
        apply sch_firm rfl rfl (by repeat (first | with_reducible exact Within.refl _ | with_reducible assumption | with_reducible refine Within.alloc ?_ _ | with_reducible refine Within.drew ?_ | with_reducible refine Within.drewN ?_ _ | with_reducible refine Within.setCell ?_ (by first | (simp; done) | (simp; omega)) _ | with_reducible refine Within.trans ?_ (by assumption)))
        · intro wq hq
          have hcq := hq.cells
          have hcell := h2 _ (hs0.of hq)
          clear hq
          go_simp
          rfl
        try simp only [Act.put, List.setIfInBounds_toArray, List.set_cons_zero, List.set_cons_succ]
      refine sch_one rfl rfl (fun K hK => ?_)
      go_simp
      refine hK _ _ (fun h => absurd h (by decide)) ?_
      clear hK K
      try simp only [Act.put, List.setIfInBounds_toArray, List.set_cons_zero, List.set_cons_succ]
      refine sch_nil ?_
      go_wp2_with fail
      go_meet
      exact ⟨rfl, by go_simp, by go_simp, by go_simp, by go_simp, fun o => by go_simp, (by repeat (first | with_reducible exact Within.refl _ | with_reducible assumption | with_reducible refine Within.alloc ?_ _ | with_reducible refine Within.drew ?_ | with_reducible refine Within.drewN ?_ _ | with_reducible refine Within.setCell ?_ (by first | (simp; done) | (simp; omega)) _ | with_reducible refine Within.trans ?_ (by assumption)))⟩
  case rest =>
    obtain ⟨rfl, r0, r1, r2, r3, rf, hw6⟩ := hcut
    have hsl3 : SlAt w3 (some ad) (u8v l) := HR.out.of ((Within.refl w).alloc _ |>.trans hb3)
    have k3 := HH3.out _ (hsl3.of hw6)
    go_wp2
    go_loopw [8] (fun vv wr => UnRel w3 d true n S q t vv wr) (fun vv _ => restLen vv)
    case atStart =>
      refine ⟨0, some ⟨ad.block, ad.off + 12, none⟩, c - 12, [], .slice none 0 0, Nat.zero_le _, ?_, ?_, ?_, rfl, (fun x hx => by cases hx), OwnF.nil_ _ _, r0, r1, r2, r3, rf, hw6⟩
      · rw [show stp true * (n - 0) = m - 12 by have := HMN.out; unfold stp; simp; omega]
      · have := HMN.out; unfold stp; simp; omega
      · rw [Nat.mul_zero, List.drop_zero, HD.out]
        have h1 := (hsl3.drop 12).take (8 * n)
        rw [add_plain' ad (by decide)] at h1
        unfold u8v at h1 ⊢; rwa [← List.map_drop, ← List.map_take] at h1
    case round =>
      obtain ⟨k, A', c', vs, sl, hk, rfl, hc', hat, hvs, hwv, hown, p0, p1, p2, p3, pf', hin⟩ := hrel
      have HVS := Lib.hid hvs; have HWV := Lib.hid hwv; clear hvs hwv
      have hvl : vs.length = k := by have := congrArg List.length HVS.out; rwa [List.length_map, List.length_map, rdVals_len] at this
      have hRz : w3.heap.size < wr.heap.size := World.block_lt_of_cell? wr _ p0
      obtain ⟨As, cs, rfl, _, hsat, _⟩ := hown.form
      have HOW := Lib.hid hown; have HVL := Lib.hid hvl; clear hown hvl
      have HPF := Lib.hid pf'; clear pf'
      by_cases hlt : k < n
      · obtain ⟨j, hj⟩ : ∃ j, n = k + 1 + j := ⟨n - (k + 1), by omega⟩
        have e1 : stp true * (n - k) = 8 * j + 8 := by unfold stp; simp; omega
        have e2 : stp true * (n - (k + 1)) = 8 * j := by unfold stp; simp; omega
        rw [e1] at hc' ⊢
        obtain ⟨a', rfl, hblk, hcl⟩ := hat (by rw [u8v_len, List.length_drop, HDL.out]; unfold stp; simp; omega)
        obtain ⟨D, hD⟩ : ∃ D, D = d.drop (stp true * k) := ⟨_, rfl⟩
        have hDl : 8 ≤ D.length := by rw [hD, List.length_drop, HDL.out]; unfold stp; simp; omega
        have hDb : Bytes D := by rw [hD]; exact HBD.out.drop _
        rw [← hD] at hat
        have hTl : (D.take 8).length = 8 := by rw [List.length_take]; omega
        obtain ⟨X, hX⟩ : ∃ X, X = leVal (D.take 8) := ⟨_, rfl⟩
        have hX2 : X < 2 ^ 64 := by rw [hX]; have := leVal_lt (hDb.take 8); rwa [hTl] at this
        have GV : Hid (∀ wx, SlAt wx (some a') (u8v D) → Calls Tryd.prog 68 #[.slice (some a') 8 c'] wx fun e w' => e = .returned (.int .u64 (X : Int)) ∧ wx = w') := Lib.hid (fun wx hx => by
          have h1 : SlAt wx (some a') (u8v (D.take 8)) := by have := hx.take 8; unfold u8v at this ⊢; rwa [← List.map_take] at this
          have := get_any (some a') c' (D.take 8) (hDb.take 8) (by rw [hTl]; decide) wx h1
          rwa [hTl, ← hX] at this)
        have l8c : (8 : Int) ≤ (c' : Int) := by omega
        have HN := Lib.hid hj; have HE2 := Lib.hid e2; have HDD := Lib.hid hD; have HDB := Lib.hid hDb; have HDL2 := Lib.hid hDl; have HXX := Lib.hid hX; have HX2 := Lib.hid hX2
        clear hj e1 e2 hD hDl hDb hTl hX hX2
        have hat0 := hat.of hin
        have hpb : ∀ b : Bool, b = decide (c' = 8) → True := fun _ _ => trivial
        rcases Decidable.em (c' = 8) with rfl | hc8'
        all_goals
          go_wp2
          refine wp_region_schB ((w3.heap.size + 1)) (fun W => W.cell? ⟨w3.heap.size, 0, none⟩ = some (.int .i64 (S : Int)) ∧ W.cell? ⟨w3.heap.size, 1, none⟩ = some (.int .u32 (q : Int)) ∧ W.cell? ⟨w3.heap.size, 2, none⟩ = some (.int .u32 (t : Int)) ∧ W.cell? ⟨w3.heap.size, 3, none⟩ = some (.slice As vs.length cs) ∧ SlAt W (some a') (u8v D) ∧ OwnF W (w3.heap.size + 1) (.slice As vs.length cs) vs ∧ w3.heap.size < W.heap.size ∧ w3.heap.size + 1 ≤ W.heap.size ∧ Within w3 W ∧ (∀ o, W.frozen? ⟨w3.heap.size, o, none⟩ = false)) 9 (.firm 0 (.firm 1 (.firm 2 (.firm 3 (.one 4 (.one 5 (.one 6 (.one 7 (.firm 8 (.one 9 .nil)))))))))) (by kernel_rfl) (by kernel_rfl) ⟨p0, p1, p2, p3, hat0, HOW.out, hRz, hRz, hin, HPF.out⟩ ?_
          rintro w0 ⟨b0, b1, b2, b3, hs0, ho0, hz0, hz1, hw0, hf0⟩
          obtain ⟨v1, w1, hrun, hown1, hbl1⟩ := run_app_float_drew w0 (w3.heap.size + 1) _ vs X ho0 (by have := HVL.out; omega) hz1
          obtain ⟨A1, c1, hv1, _⟩ := hown1.form
          obtain ⟨N1, hN1⟩ : ∃ N1, N1 = (vs ++ [X]).length := ⟨_, rfl⟩
          rw [← hN1] at hv1
          subst hv1
          have RUN := Lib.hid hrun; clear hrun
          have g0 : w1.cell? ⟨w3.heap.size, 0, none⟩ = some (.int .i64 (S : Int)) := (hbl1.cell (p := ⟨w3.heap.size, 0, none⟩) (Nat.lt_succ_self _)).trans b0
          have g1 : w1.cell? ⟨w3.heap.size, 1, none⟩ = some (.int .u32 (q : Int)) := (hbl1.cell (p := ⟨w3.heap.size, 1, none⟩) (Nat.lt_succ_self _)).trans b1
          have g2 : w1.cell? ⟨w3.heap.size, 2, none⟩ = some (.int .u32 (t : Int)) := (hbl1.cell (p := ⟨w3.heap.size, 2, none⟩) (Nat.lt_succ_self _)).trans b2
          have g3 : w1.cell? ⟨w3.heap.size, 3, none⟩ = some (.slice As vs.length cs) := (hbl1.cell (p := ⟨w3.heap.size, 3, none⟩) (Nat.lt_succ_self _)).trans b3
          have gf : ∀ o, w1.frozen? ⟨w3.heap.size, o, none⟩ = false := fun o => (hbl1.frozen (p := ⟨w3.heap.size, o, none⟩) (Nat.lt_succ_self _)).trans (hf0 o)
          try simp only [Act.put, List.setIfInBounds_toArray, List.set_cons_zero, List.set_cons_succ]
          iterate 4
            apply sch_firm rfl rfl (by repeat (first | with_reducible exact Below.refl _ _ | with_reducible assumption | with_reducible refine Below.drew ?_ | with_reducible refine Below.alloc ?_ (by first | assumption | (simp; omega)) _ | with_reducible refine Below.trans ?_ (by assumption)))
            · intro wq hq
              have hcq : ∀ b o, b < (w3.heap.size + 1) → wq.cell? ⟨b, o, none⟩ = w0.cell? ⟨b, o, none⟩ := fun b o hb => hq.cell (p := ⟨b, o, none⟩) hb
              clear hq
              go_simp
              rfl
            try simp only [Act.put, List.setIfInBounds_toArray, List.set_cons_zero, List.set_cons_succ]
          refine sch_one rfl rfl (fun K hK => ?_)
          go_simp
          refine (GV.out _ (by exact hs0.of ((Within.refl _).drew))).mono ?_; rintro e5 w5 ⟨rfl, rfl⟩
          refine hK _ _ (fun _ => (by repeat (first | with_reducible exact Below.refl _ _ | with_reducible assumption | with_reducible refine Below.drew ?_ | with_reducible refine Below.alloc ?_ (by first | assumption | (simp; omega)) _ | with_reducible refine Below.trans ?_ (by assumption)))) ?_
          clear hK K
          try simp only [Act.put, List.setIfInBounds_toArray, List.set_cons_zero, List.set_cons_succ]
          refine sch_one rfl rfl (fun K hK => ?_)
          go_simp
          refine hK _ _ (fun _ => (by repeat (first | with_reducible exact Below.refl _ _ | with_reducible assumption | with_reducible refine Below.drew ?_ | with_reducible refine Below.alloc ?_ (by first | assumption | (simp; omega)) _ | with_reducible refine Below.trans ?_ (by assumption)))) ?_
          clear hK K
          try simp only [Act.put, List.setIfInBounds_toArray, List.set_cons_zero, List.set_cons_succ]
          refine sch_one rfl rfl (fun K hK => ?_)
          go_simp
          refine hK _ _ (fun _ => (by repeat (first | with_reducible exact Below.refl _ _ | with_reducible assumption | with_reducible refine Below.drew ?_ | with_reducible refine Below.alloc ?_ (by first | assumption | (simp; omega)) _ | with_reducible refine Below.trans ?_ (by assumption)))) ?_
          clear hK K
          try simp only [Act.put, List.setIfInBounds_toArray, List.set_cons_zero, List.set_cons_succ]
          refine sch_one rfl rfl (fun K hK => ?_)
          refine op_append_run (.tmp 68) (.tmp 73) 65 rfl _ _ rfl rfl RUN.out ?_
          refine hK _ _ (fun _ => (by repeat (first | with_reducible exact Below.refl _ _ | with_reducible assumption | with_reducible refine Below.drew ?_ | with_reducible refine Below.alloc ?_ (by first | assumption | (simp; omega)) _ | with_reducible refine Below.trans ?_ (by assumption)))) ?_
          clear hK K
          try simp only [Act.put, List.setIfInBounds_toArray, List.set_cons_zero, List.set_cons_succ]
          apply sch_firm rfl rfl (by repeat (first | with_reducible exact Below.refl _ _ | with_reducible assumption | with_reducible refine Below.drew ?_ | with_reducible refine Below.alloc ?_ (by first | assumption | (simp; omega)) _ | with_reducible refine Below.trans ?_ (by assumption)))
          · intro wq hq
            have hcq : ∀ b o, b < (w3.heap.size + 1) → wq.cell? ⟨b, o, none⟩ = w0.cell? ⟨b, o, none⟩ := fun b o hb => hq.cell (p := ⟨b, o, none⟩) hb
            clear hq
            go_simp
            rfl
          try simp only [Act.put, List.setIfInBounds_toArray, List.set_cons_zero, List.set_cons_succ]
          refine sch_one rfl rfl (fun K hK => ?_)
          go_simp
          refine hK _ _ (fun h => absurd h (by decide)) ?_
          clear hK K
          try simp only [Act.put, List.setIfInBounds_toArray, List.set_cons_zero, List.set_cons_succ]
          refine sch_nil ?_
          go_wp2
          rw [List.length_append, List.length_singleton] at hN1; subst hN1
          have hlt' := hlt; have hnj := HN.out; have hd1 := HDL.out; have hdl2 := HDL2.out
          have hWin : Within w3 w1 := Below.trans hw0 (hbl1.mono (Nat.le_succ _))
          have hXc : canonD X = canonD (if true = true then leVal ((d.drop (stp true * k)).take 8) else pf.wb (leVal ((d.drop (stp true * k)).take 4))) := by rw [HXX.out, HDD.out, if_pos rfl]
        · have hj0 : j = 0 := by omega
          subst hj0
          have E2 : stp true * (n - (k + 1)) = 0 := HE2.out
          have hst := UnRel.step (A1 := some a') (c1 := 0) hlt (Nat.le_of_eq E2) (by rw [List.drop_eq_nil_of_le (by rw [hd1, hnj]; unfold stp; simp)]; exact SlAt.nil) HVS.out hXc (by have := HX2.out; omega) HWV.out hown1 g0 g1 g2 (by rw [g3]; rfl) gf hWin
          rw [E2] at hst
          exact ⟨hst, by simp [restLen]⟩
        · have E2 : stp true * (n - (k + 1)) = 8 * j := HE2.out
          have hat8 : SlAt w3 (some ⟨a'.block, a'.off + 8, none⟩) (u8v (d.drop (stp true * (k + 1)))) := by
            have h1 := hat.drop 8
            rw [add_plain' a' (by decide), HDD.out] at h1
            unfold u8v at h1 ⊢; rw [← List.map_drop, List.drop_drop] at h1
            rwa [show stp true * (k + 1) = stp true * k + 8 by rw [Nat.mul_add]; rfl]
          have hst := UnRel.step hlt (c1 := c' - 8) (by rw [E2]; omega) hat8 HVS.out hXc (by have := HX2.out; omega) HWV.out hown1 g0 g1 g2 (by rw [g3]; rfl) gf hWin
          rw [E2] at hst
          exact ⟨hst, by simp [restLen]⟩
      · have hkn : k = n := by omega
        subst hkn
        rw [show stp true * (k - k) = 0 by simp]
        have hfe : vs.all finD = fb := (map_all (fun _ _ h => finD_same h) HVS.out).trans HFB.out
        have hse : vs.all isSD = sb := (map_all (fun _ _ h => isSD_same h) HVS.out).trans HSB.out
        have hWw : Within w wr := (((Within.refl w).alloc _).trans hb3).trans hin
        have FN := Finite_any As cs vs HWV.out (by have := HVL.out; omega) wr hsat
        rw [hfe] at FN
        have SGL : Hid (∀ wx, Within wr wx → Calls Tryd.prog 73 #[.agg #[.int .i64 (S : Int), .int .u32 (q : Int), .int .u32 (t : Int), .slice As vs.length cs]] wx fun e w' => e = .returned (.bool sb) ∧ Within wx w') := Lib.hid (fun wx hx => by
          have := Singles_any As cs (.int .i64 (S : Int)) (.int .u32 (q : Int)) (.int .u32 (t : Int)) vs HWV.out (by have := HVL.out; omega) wx ((hT.of hWw).of hx) (hsat.of hx)
          rwa [hse] at this)
        have HFN := Lib.hid FN; clear FN
        have hqz3 : w.heap.size < w3.heap.size + 1 := Nat.lt_succ_of_lt qz
        have qzr : w.heap.size < wr.heap.size := Nat.lt_of_lt_of_le qz hin.size
        have qr0 : wr.cell? ⟨w.heap.size, 0, none⟩ = some (.int .i64 0) := (hin.cells _ _ qz).trans q0
        have qr1 : wr.cell? ⟨w.heap.size, 1, none⟩ = some (.int .u32 0) := (hin.cells _ _ qz).trans q1
        have qr2 : wr.cell? ⟨w.heap.size, 2, none⟩ = some (.int .u32 0) := (hin.cells _ _ qz).trans q2
        have qr3 : wr.cell? ⟨w.heap.size, 3, none⟩ = some (.slice none 0 0) := (hin.cells _ _ qz).trans q3
        have qrf : ∀ o, wr.frozen? ⟨w.heap.size, o, none⟩ = false := fun o => (hin.frozens _ _ qz).trans (qf o)
        have HFE := Lib.hid hfe; clear hfe hse
        go_wp2_with fail
        refine HFN.out.mono ?_; rintro e5 w5 ⟨rfl, hw5⟩
        have p50 : w5.cell? ⟨w3.heap.size, 0, none⟩ = some (.int .i64 (S : Int)) := (hw5.cells _ _ hRz).trans p0
        have p51 : w5.cell? ⟨w3.heap.size, 1, none⟩ = some (.int .u32 (q : Int)) := (hw5.cells _ _ hRz).trans p1
        have p52 : w5.cell? ⟨w3.heap.size, 2, none⟩ = some (.int .u32 (t : Int)) := (hw5.cells _ _ hRz).trans p2
        have p53 : w5.cell? ⟨w3.heap.size, 3, none⟩ = some (.slice As vs.length cs) := (hw5.cells _ _ hRz).trans p3
        have z50 : w5.cell? ⟨w.heap.size, 0, none⟩ = some (.int .i64 0) := (hw5.cells _ _ qzr).trans qr0
        have z51 : w5.cell? ⟨w.heap.size, 1, none⟩ = some (.int .u32 0) := (hw5.cells _ _ qzr).trans qr1
        have z52 : w5.cell? ⟨w.heap.size, 2, none⟩ = some (.int .u32 0) := (hw5.cells _ _ qzr).trans qr2
        have z53 : w5.cell? ⟨w.heap.size, 3, none⟩ = some (.slice none 0 0) := (hw5.cells _ _ qzr).trans qr3
        have z5f : ∀ o, w5.frozen? ⟨w.heap.size, o, none⟩ = false := fun o => (hw5.frozens _ _ qzr).trans (qrf o)
        have hRz5 : w3.heap.size < w5.heap.size := Nat.lt_of_lt_of_le hRz hw5.size
        have qz5 : w.heap.size < w5.heap.size := Nat.lt_of_lt_of_le qzr hw5.size
        have hW5 : Within w w5 := hWw.trans hw5
        cases fb
        · go_wp2
          have E := HER.out; have R := HRD.out
          simp at E; subst E; simp at R; subst R
          refine bodyPost_ret (v := .tuple #[.agg #[.int .i64 0, .int .u32 0, .int .u32 0, .slice none 0 0], .int .i64 211]) (by simp [results, Tryd.results49, go_sem, z50, z51, z52, z53]) rfl ⟨_, rfl, OwnF.nil_ _ _, (by repeat (first | with_reducible exact hW5 | with_reducible refine Within.setCell ?_ (Nat.le_refl _) _))⟩
        · go_wp2_with fail
          refine (SGL.out _ hw5).mono ?_; rintro e6 w6 ⟨rfl, hw6⟩
          have p60 : w6.cell? ⟨w3.heap.size, 0, none⟩ = some (.int .i64 (S : Int)) := (hw6.cells _ _ hRz5).trans p50
          have p61 : w6.cell? ⟨w3.heap.size, 1, none⟩ = some (.int .u32 (q : Int)) := (hw6.cells _ _ hRz5).trans p51
          have p62 : w6.cell? ⟨w3.heap.size, 2, none⟩ = some (.int .u32 (t : Int)) := (hw6.cells _ _ hRz5).trans p52
          have p63 : w6.cell? ⟨w3.heap.size, 3, none⟩ = some (.slice As vs.length cs) := (hw6.cells _ _ hRz5).trans p53
          have z60 : w6.cell? ⟨w.heap.size, 0, none⟩ = some (.int .i64 0) := (hw6.cells _ _ qz5).trans z50
          have z61 : w6.cell? ⟨w.heap.size, 1, none⟩ = some (.int .u32 0) := (hw6.cells _ _ qz5).trans z51
          have z62 : w6.cell? ⟨w.heap.size, 2, none⟩ = some (.int .u32 0) := (hw6.cells _ _ qz5).trans z52
          have z63 : w6.cell? ⟨w.heap.size, 3, none⟩ = some (.slice none 0 0) := (hw6.cells _ _ qz5).trans z53
          have z6f : ∀ o, w6.frozen? ⟨w.heap.size, o, none⟩ = false := fun o => (hw6.frozens _ _ qz5).trans (z5f o)
          have qz6 : w.heap.size < w6.heap.size := Nat.lt_of_lt_of_le qz5 hw6.size
          have hW6 : Within w w6 := hW5.trans hw6
          have HOW6 := Lib.hid ((HOW.out.of hw5).of hw6)
          cases sb
          · go_wp2
            have E := HER.out; have R := HRD.out
            simp at E; subst E; simp at R; subst R
            refine bodyPost_ret (v := .tuple #[.agg #[.int .i64 (S : Int), .int .u32 (q : Int), .int .u32 (t : Int), .slice As vs.length cs], .int .i64 0]) (by simp [results, Tryd.results49, go_sem, z60, z61, z62, z63]) rfl ⟨_, rfl, ?_, (by repeat (first | with_reducible exact hW6 | with_reducible refine Within.setCell ?_ (Nat.le_refl _) _))⟩
            have hvv : vs = rdVals pf true k d := map_fin HVS.out HFE.out HFB.out
            rw [show (Rd.mk S q t (rdVals pf true k d)).vals = vs from hvv.symm]
            refine OwnF.less (base := w3.heap.size + 1) ?_ (Nat.le_of_lt hqz3)
            repeat (first | with_reducible exact HOW6.out | with_reducible refine OwnF.set ?_ hqz3 _)
          · go_wp2
            have E := HER.out; have R := HRD.out
            simp at E; subst E; simp at R; subst R
            refine bodyPost_ret (v := .tuple #[.agg #[.int .i64 0, .int .u32 0, .int .u32 0, .slice none 0 0], .int .i64 211]) (by simp [results, Tryd.results49, go_sem, z60, z61, z62, z63]) rfl ⟨_, rfl, OwnF.nil_ _ _, (by repeat (first | with_reducible exact hW6 | with_reducible refine Within.setCell ?_ (Nat.le_refl _) _))⟩

end Go.Proofs.YtpmjlaiafgbjgaaDoor
end

section
namespace Go.Proofs.YtpmjlaiafgbjgaaDoor
open Go.RowKit

set_option maxRecDepth 100000 in
set_option maxHeartbeats 1000000 in
theorem Unpack_near (ad : Addr) (c m : Nat) (l : List Nat) (hm : 12 ≤ m ∧ m ≤ 60) (hc : m + 4 ≤ c) (SZ : Hid (∀ w, SlAt w (some ad) (u8v l) → Calls Tryd.prog 67 #[.slice (some ad) (m + 4) c] w fun e w' => e = .returned (.tuple #[.int .i64 ((m + 4 : Nat) : Int), .bool true]) ∧ w = w')) (G C : Nat) (hC : C < 4294967296) (GT : Hid (∀ w, SlAt w (some ad) (u8v l) → Calls Tryd.prog 68 #[.slice (some (ad.add m)) 4 (c - m)] w fun e w' => e = .returned (.int .u64 (G : Int)) ∧ w = w')) (SM : Hid (∀ w, SlAt w (some ad) (u8v l) → Calls Tryd.prog 69 #[.slice (some ad) m c] w fun e w' => e = .returned (.int .u32 (C : Int)) ∧ w = w')) (S q t : Nat) (hS : S < 256) (hq : q < 4294967296) (ht : t < 4294967296) (GQ : Hid (∀ w, SlAt w (some ad) (u8v l) → Calls Tryd.prog 68 #[.slice (some ⟨ad.block, ad.off + 4, none⟩) 4 (c - 4)] w fun e w' => e = .returned (.int .u64 (q : Int)) ∧ w = w')) (GT4 : Hid (∀ w, SlAt w (some ad) (u8v l) → Calls Tryd.prog 68 #[.slice (some ⟨ad.block, ad.off + 8, none⟩) 4 (c - 8)] w fun e w' => e = .returned (.int .u64 (t : Int)) ∧ w = w')) (h2 : ∀ w, SlAt w (some ad) (u8v l) → w.cell? ⟨ad.block, ad.off + 2, none⟩ = some (.int .u8 (S : Int))) (n K : Nat) (hn : n ≤ 6) (hmn : m = 12 + 4 * n) (hK : bits .and .u8 (K : Int) 128 = 0) (h3 : ∀ w, SlAt w (some ad) (u8v l) → w.cell? ⟨ad.block, ad.off + 3, none⟩ = some (.int .u8 (K : Int))) (d : List Nat) (hd : d = (l.drop 12).take (4 * n)) (hbd : Bytes d) (hdl : d.length = 4 * n) (fb sb : Bool) (hfb : (rdVals pf false n d).all finD = fb) (hsb : (rdVals pf false n d).all isSD = sb) (er : Int) (her : er = if fb = false ∨ false = sb then 211 else 0) (rd : Rd) (hrd : rd = if er = 0 then ⟨S, q, t, rdVals pf false n d⟩ else noRd) (hs : ((G : Int) != (C : Int)) = false) (w : World) (hT : FmS w) (hr : SlAt w (some ad) (u8v l)) : Calls Tryd.prog 49 #[.slice (some ad) (m + 4) c] w (RetR w rd er) := by
  have HFB := Lib.hid hfb; have HSB := Lib.hid hsb; have HER := Lib.hid her; have HBD := Lib.hid hbd; have HDL := Lib.hid hdl; have HD := Lib.hid hd; have HRD := Lib.hid hrd; clear hrd hfb hsb her hbd hdl hd
  have HR := Lib.hid hr; clear hr
  obtain ⟨m1, m2⟩ := hm
  have hn0 : (((m + 4 : Nat) : Int) != ((m + 4 : Nat) : Int)) = false := by rw [bne_eq_false_iff_eq]
  have d4 : decide ((m : Int) + 4 < 4) = false := decide_eq_false (by omega)
  have w4 : IntKind.i64.wrap (m : Int) = (m : Int) := by rw [IntKind.wrap_i64]; omega
  have hcm : ¬ c = m := by omega
  have hle : (m : Int) ≤ (m : Int) + 4 := by omega
  have hmc : m ≤ c := by omega
  have gC : IntKind.u64.wrap (C : Int) = (C : Int) := by rw [IntKind.wrap_u64]; omega
  clear hC
  have w32q : IntKind.u32.wrap (q : Int) = (q : Int) := by rw [IntKind.wrap_u32]; omega
  have w32t : IntKind.u32.wrap (t : Int) = (t : Int) := by rw [IntKind.wrap_u32]; omega
  have wS : IntKind.i64.wrap (S : Int) = (S : Int) := by rw [IntKind.wrap_i64]; omega
  have hc4 : ¬ c = 4 := by omega
  have hc8 : ¬ c = 8 := by omega
  have hc12 : ¬ c = 12 := by omega
  have l8 : (8 : Int) ≤ (c : Int) := by omega
  have l12 : (12 : Int) ≤ (c : Int) := by omega
  have l2 : (2 : Int) < (m : Int) + 4 := by omega
  have l3 : (3 : Int) < (m : Int) + 4 := by omega
  have l12m : (12 : Int) ≤ (m : Int) := by omega
  have HH := Lib.hid h2; have HH3 := Lib.hid h3; have HMN := Lib.hid hmn; clear h2 h3 hmn
  have HS := Lib.hid (And.intro hS (And.intro hq ht)); clear hS hq ht
  go_enter Tryd.func49, Tryd.ntmps49
  go_wp2_with fail
  refine (SZ.out _ (HR.out.of (by repeat (first | with_reducible exact Within.refl _ | with_reducible assumption | with_reducible refine Within.alloc ?_ _ | with_reducible refine Within.drew ?_ | with_reducible refine Within.drewN ?_ _ | with_reducible refine Within.setCell ?_ (by first | (simp; done) | (simp; omega)) _ | with_reducible refine Within.trans ?_ (by assumption))))).mono ?_; rintro e1 w1 ⟨rfl, rfl⟩
  go_wp2
  refine wp_region_within (by kernel_rfl) (by kernel_rfl) ?_
  repeat
    apply wpq_step rfl
    · intro wq hCq
      have hsl := HR.out.of ((((Within.refl w).alloc _).trans hCq))
      go_simp
      first | rfl | exact hCq.same (GT.out _ hsl) | exact hCq.same (SM.out _ hsl) | (trace_state; fail)
    try simp only [Act.put, List.setIfInBounds_toArray, List.set_cons_zero, List.set_cons_succ]
  refine wpQuiet_nil ?_
  intro w3 hb3
  have q0 : w3.cell? ⟨w.heap.size, 0, none⟩ = some (.int .i64 0) := (hb3.cells _ _ (by simp)).trans (by simp)
  have q1 : w3.cell? ⟨w.heap.size, 1, none⟩ = some (.int .u32 0) := (hb3.cells _ _ (by simp)).trans (by simp)
  have q2 : w3.cell? ⟨w.heap.size, 2, none⟩ = some (.int .u32 0) := (hb3.cells _ _ (by simp)).trans (by simp)
  have q3 : w3.cell? ⟨w.heap.size, 3, none⟩ = some (.slice none 0 0) := (hb3.cells _ _ (by simp)).trans (by simp)
  have qf : ∀ o, w3.frozen? ⟨w.heap.size, o, none⟩ = false := fun o => (hb3.frozens _ _ (by simp)).trans (by simp)
  have qz : w.heap.size < w3.heap.size := World.block_lt_of_cell? _ _ q0
  go_upto_region 6 with fail
  go_cut [6] (fun s6 wx => s6 = .pointer (some ⟨w3.heap.size, 0, none⟩) ∧ (wx.cell? ⟨w3.heap.size, 0, none⟩ = some (.int .i64 (S : Int)) ∧ wx.cell? ⟨w3.heap.size, 1, none⟩ = some (.int .u32 (q : Int)) ∧ wx.cell? ⟨w3.heap.size, 2, none⟩ = some (.int .u32 (t : Int)) ∧ wx.cell? ⟨w3.heap.size, 3, none⟩ = some (.slice none 0 0) ∧ (∀ o, wx.frozen? ⟨w3.heap.size, o, none⟩ = false) ∧ Within w3 wx))
  case first =>
    have h2 := HH.out
    refine wp_region_schG (fun W => SlAt W (some ad) (u8v l) ∧ W.heap.size = w3.heap.size ∧ Within w3 W) 14 (.firm 0 (.firm 1 (.firm 2 (.firm 3 (.firm 4 (.firm 5 (.firm 8 (.firm 9 (.two 6 (.firm 7 (.two 10 (.firm 11 (.firm 12 (.one 13 (.one 14 .nil)))) 13 (.one 10 (.firm 11 (.firm 12 (.one 14 .nil)))))) 13 (.one 6 (.firm 7 (.one 10 (.firm 11 (.firm 12 (.one 14 .nil))))))))))))))) (by kernel_rfl) (by kernel_rfl) ⟨HR.out.of ((Within.refl w).alloc _ |>.trans hb3), rfl, Within.refl _⟩ ?_
    rintro w0 ⟨hs0, hz1, hw0⟩
    try simp only [Act.put, List.setIfInBounds_toArray, List.set_cons_zero, List.set_cons_succ]
    iterate 8
      apply sch_firm rfl rfl (by repeat (first | with_reducible exact Within.refl _ | with_reducible assumption | with_reducible refine Within.alloc ?_ _ | with_reducible refine Within.drew ?_ | with_reducible refine Within.drewN ?_ _ | with_reducible refine Within.setCell ?_ (by first | (simp; done) | (simp; omega)) _ | with_reducible refine Within.trans ?_ (by assumption)))
      · intro wq hq
        have hcq := hq.cells
        have hcell := h2 _ (hs0.of hq)
        clear hq
        go_simp
        rfl
      try simp only [Act.put, List.setIfInBounds_toArray, List.set_cons_zero, List.set_cons_succ]
    refine sch_two rfl rfl rfl rfl (fun K hK => ?_) (fun K hK => ?_)
    · go_simp
      refine (GQ.out _ (by first | exact hs0 | exact hs0.of ((Within.refl _).drew) | exact hs0.of (((Within.refl _).drew).alloc _))).mono ?_; rintro e4 w4 ⟨rfl, rfl⟩
      refine hK _ _ (by repeat (first | with_reducible exact Within.refl _ | with_reducible assumption | with_reducible refine Within.alloc ?_ _ | with_reducible refine Within.drew ?_ | with_reducible refine Within.drewN ?_ _ | with_reducible refine Within.setCell ?_ (by first | (simp; done) | (simp; omega)) _ | with_reducible refine Within.trans ?_ (by assumption))) ?_
      clear hK K
      try simp only [Act.put, List.setIfInBounds_toArray, List.set_cons_zero, List.set_cons_succ]
      apply sch_firm rfl rfl (by repeat (first | with_reducible exact Within.refl _ | with_reducible assumption | with_reducible refine Within.alloc ?_ _ | with_reducible refine Within.drew ?_ | with_reducible refine Within.drewN ?_ _ | with_reducible refine Within.setCell ?_ (by first | (simp; done) | (simp; omega)) _ | with_reducible refine Within.trans ?_ (by assumption)))
      · intro wq hq
        have hcq := hq.cells
        have hcell := h2 _ (hs0.of hq)
        clear hq
        go_simp
        rfl
      try simp only [Act.put, List.setIfInBounds_toArray, List.set_cons_zero, List.set_cons_succ]
      refine sch_two rfl rfl rfl rfl (fun K hK => ?_) (fun K hK => ?_)
      · go_simp
        refine (GT4.out _ (by first | exact hs0 | exact hs0.of ((Within.refl _).drew) | exact hs0.of (((Within.refl _).drew).alloc _))).mono ?_; rintro e5 w5 ⟨rfl, rfl⟩
        refine hK _ _ (by repeat (first | with_reducible exact Within.refl _ | with_reducible assumption | with_reducible refine Within.alloc ?_ _ | with_reducible refine Within.drew ?_ | with_reducible refine Within.drewN ?_ _ | with_reducible refine Within.setCell ?_ (by first | (simp; done) | (simp; omega)) _ | with_reducible refine Within.trans ?_ (by assumption))) ?_
        clear hK K
        try simp only [Act.put, List.setIfInBounds_toArray, List.set_cons_zero, List.set_cons_succ]
        iterate 2
          apply sch_firm rfl rfl (by repeat (first | with_reducible exact Within.refl _ | with_reducible assumption | with_reducible refine Within.alloc ?_ _ | with_reducible refine Within.drew ?_ | with_reducible refine Within.drewN ?_ _ | with_reducible refine Within.setCell ?_ (by first | (simp; done) | (simp; omega)) _ | with_reducible refine Within.trans ?_ (by assumption)))
          · intro wq hq
            have hcq := hq.cells
            have hcell := h2 _ (hs0.of hq)
            clear hq
            go_simp
            rfl
          try simp only [Act.put, List.setIfInBounds_toArray, List.set_cons_zero, List.set_cons_succ]
        refine sch_one rfl rfl (fun K hK => ?_)
        go_simp
        refine hK _ _ (fun _ => (by repeat (first | with_reducible exact Within.refl _ | with_reducible assumption | with_reducible refine Within.alloc ?_ _ | with_reducible refine Within.drew ?_ | with_reducible refine Within.drewN ?_ _ | with_reducible refine Within.setCell ?_ (by first | (simp; done) | (simp; omega)) _ | with_reducible refine Within.trans ?_ (by assumption)))) ?_
        clear hK K
        try simp only [Act.put, List.setIfInBounds_toArray, List.set_cons_zero, List.set_cons_succ]
        refine sch_one rfl rfl (fun K hK => ?_)
        go_simp
        refine hK _ _ (fun h => absurd h (by decide)) ?_
        clear hK K
        try simp only [Act.put, List.setIfInBounds_toArray, List.set_cons_zero, List.set_cons_succ]
        refine sch_nil ?_
        go_wp2_with fail
        go_meet
        exact ⟨rfl, by go_simp, by go_simp, by go_simp, by go_simp, fun o => by go_simp, (by repeat (first | with_reducible exact Within.refl _ | with_reducible assumption | with_reducible refine Within.alloc ?_ _ | with_reducible refine Within.drew ?_ | with_reducible refine Within.drewN ?_ _ | with_reducible refine Within.setCell ?_ (by first | (simp; done) | (simp; omega)) _ | with_reducible refine Within.trans ?_ (by assumption)))⟩
      · go_simp
        refine hK _ _ (by repeat (first | with_reducible exact Within.refl _ | with_reducible assumption | with_reducible refine Within.alloc ?_ _ | with_reducible refine Within.drew ?_ | with_reducible refine Within.drewN ?_ _ | with_reducible refine Within.setCell ?_ (by first | (simp; done) | (simp; omega)) _ | with_reducible refine Within.trans ?_ (by assumption))) ?_
        clear hK K
        try simp only [Act.put, List.setIfInBounds_toArray, List.set_cons_zero, List.set_cons_succ]
        refine sch_one rfl rfl (fun K hK => ?_)
        go_simp
        refine (GT4.out _ (by first | exact hs0 | exact hs0.of ((Within.refl _).drew) | exact hs0.of (((Within.refl _).drew).alloc _))).mono ?_; rintro e5 w5 ⟨rfl, rfl⟩
        refine hK _ _ (fun _ => (by repeat (first | with_reducible exact Within.refl _ | with_reducible assumption | with_reducible refine Within.alloc ?_ _ | with_reducible refine Within.drew ?_ | with_reducible refine Within.drewN ?_ _ | with_reducible refine Within.setCell ?_ (by first | (simp; done) | (simp; omega)) _ | with_reducible refine Within.trans ?_ (by assumption)))) ?_
        clear hK K
        try simp only [Act.put, List.setIfInBounds_toArray, List.set_cons_zero, List.set_cons_succ]
        iterate 2
          apply sch_firm rfl rfl (by repeat (first | with_reducible exact Within.refl _ | with_reducible assumption | with_reducible refine Within.alloc ?_ _ | with_reducible refine Within.drew ?_ | with_reducible refine Within.drewN ?_ _ | with_reducible refine Within.setCell ?_ (by first | (simp; done) | (simp; omega)) _ | with_reducible refine Within.trans ?_ (by assumption)))
          · intro wq hq
            have hcq := hq.cells
            have hcell := h2 _ (hs0.of hq)
            clear hq
            go_simp
            rfl
          try simp only [Act.put, List.setIfInBounds_toArray, List.set_cons_zero, List.set_cons_succ]
        refine sch_one rfl rfl (fun K hK => ?_)
        go_simp
        refine hK _ _ (fun h => absurd h (by decide)) ?_
        clear hK K
        try simp only [Act.put, List.setIfInBounds_toArray, List.set_cons_zero, List.set_cons_succ]
        refine sch_nil ?_
        go_wp2_with fail
        go_meet
        exact ⟨rfl, by go_simp, by go_simp, by go_simp, by go_simp, fun o => by go_simp, (by repeat (first | with_reducible exact Within.refl _ | with_reducible assumption | with_reducible refine Within.alloc ?_ _ | with_reducible refine Within.drew ?_ | with_reducible refine Within.drewN ?_ _ | with_reducible refine Within.setCell ?_ (by first | (simp; done) | (simp; omega)) _ | with_reducible refine Within.trans ?_ (by assumption)))⟩
    · go_simp
      refine hK _ _ (by repeat (first | with_reducible exact Within.refl _ | with_reducible assumption | with_reducible refine Within.alloc ?_ _ | with_reducible refine Within.drew ?_ | with_reducible refine Within.drewN ?_ _ | with_reducible refine Within.setCell ?_ (by first | (simp; done) | (simp; omega)) _ | with_reducible refine Within.trans ?_ (by assumption))) ?_
      clear hK K
      try simp only [Act.put, List.setIfInBounds_toArray, List.set_cons_zero, List.set_cons_succ]
      refine sch_one rfl rfl (fun K hK => ?_)
      go_simp
      refine (GQ.out _ (by first | exact hs0 | exact hs0.of ((Within.refl _).drew) | exact hs0.of (((Within.refl _).drew).alloc _))).mono ?_; rintro e4 w4 ⟨rfl, rfl⟩
      refine hK _ _ (fun _ => (by repeat (first | with_reducible exact Within.refl _ | with_reducible assumption | with_reducible refine Within.alloc ?_ _ | with_reducible refine Within.drew ?_ | with_reducible refine Within.drewN ?_ _ | with_reducible refine Within.setCell ?_ (by first | (simp; done) | (simp; omega)) _ | with_reducible refine Within.trans ?_ (by assumption)))) ?_
      clear hK K
      try simp only [Act.put, List.setIfInBounds_toArray, List.set_cons_zero, List.set_cons_succ]
      apply sch_firm rfl rfl (by repeat (first | with_reducible exact Within.refl _ | with_reducible assumption | with_reducible refine Within.alloc ?_ _ | with_reducible refine Within.drew ?_ | with_reducible refine Within.drewN ?_ _ | with_reducible refine Within.setCell ?_ (by first | (simp; done) | (simp; omega)) _ | with_reducible refine Within.trans ?_ (by assumption)))
      · intro wq hq
        have hcq := hq.cells
        have hcell := h2 _ (hs0.of hq)
        clear hq
        go_simp
        rfl
      try simp only [Act.put, List.setIfInBounds_toArray, List.set_cons_zero, List.set_cons_succ]
      refine sch_one rfl rfl (fun K hK => ?_)
      go_simp
      refine (GT4.out _ (by first | exact hs0 | exact hs0.of ((Within.refl _).drew) | exact hs0.of (((Within.refl _).drew).alloc _))).mono ?_; rintro e5 w5 ⟨rfl, rfl⟩
      refine hK _ _ (fun _ => (by repeat (first | with_reducible exact Within.refl _ | with_reducible assumption | with_reducible refine Within.alloc ?_ _ | with_reducible refine Within.drew ?_ | with_reducible refine Within.drewN ?_ _ | with_reducible refine Within.setCell ?_ (by first | (simp; done) | (simp; omega)) _ | with_reducible refine Within.trans ?_ (by assumption)))) ?_
      clear hK K
      try simp only [Act.put, List.setIfInBounds_toArray, List.set_cons_zero, List.set_cons_succ]
      iterate 2
        apply sch_firm rfl rfl (by repeat (first | with_reducible exact Within.refl _ | with_reducible assumption | with_reducible refine Within.alloc ?_ _ | with_reducible refine Within.drew ?_ | with_reducible refine Within.drewN ?_ _ | with_reducible refine Within.setCell ?_ (by first | (simp; done) | (simp; omega)) _ | with_reducible refine Within.trans ?_ (by assumption)))
        · intro wq hq
          have hcq := hq.cells
          have hcell := h2 _ (hs0.of hq)
          clear hq
          go_simp
          rfl
        try simp only [Act.put, List.setIfInBounds_toArray, List.set_cons_zero, List.set_cons_succ]
      refine sch_one rfl rfl (fun K hK => ?_)
      go_simp
      refine hK _ _ (fun h => absurd h (by decide)) ?_
      clear hK K
      try simp only [Act.put, List.setIfInBounds_toArray, List.set_cons_zero, List.set_cons_succ]
      refine sch_nil ?_
      go_wp2_with fail
      go_meet
      exact ⟨rfl, by go_simp, by go_simp, by go_simp, by go_simp, fun o => by go_simp, (by repeat (first | with_reducible exact Within.refl _ | with_reducible assumption | with_reducible refine Within.alloc ?_ _ | with_reducible refine Within.drew ?_ | with_reducible refine Within.drewN ?_ _ | with_reducible refine Within.setCell ?_ (by first | (simp; done) | (simp; omega)) _ | with_reducible refine Within.trans ?_ (by assumption)))⟩
  case rest =>
    obtain ⟨rfl, r0, r1, r2, r3, rf, hw6⟩ := hcut
    have hsl3 : SlAt w3 (some ad) (u8v l) := HR.out.of ((Within.refl w).alloc _ |>.trans hb3)
    have k3 := HH3.out _ (hsl3.of hw6)
    go_wp2
    go_loopw [8] (fun vv wr => UnRel w3 d false n S q t vv wr) (fun vv _ => restLen vv)
    case atStart =>
      refine ⟨0, some ⟨ad.block, ad.off + 12, none⟩, c - 12, [], .slice none 0 0, Nat.zero_le _, ?_, ?_, ?_, rfl, (fun x hx => by cases hx), OwnF.nil_ _ _, r0, r1, r2, r3, rf, hw6⟩
      · rw [show stp false * (n - 0) = m - 12 by have := HMN.out; unfold stp; simp; omega]
      · have := HMN.out; unfold stp; simp; omega
      · rw [Nat.mul_zero, List.drop_zero, HD.out]
        have h1 := (hsl3.drop 12).take (4 * n)
        rw [add_plain' ad (by decide)] at h1
        unfold u8v at h1 ⊢; rwa [← List.map_drop, ← List.map_take] at h1
    case round =>
      obtain ⟨k, A', c', vs, sl, hk, rfl, hc', hat, hvs, hwv, hown, p0, p1, p2, p3, pf', hin⟩ := hrel
      have HVS := Lib.hid hvs; have HWV := Lib.hid hwv; clear hvs hwv
      have hvl : vs.length = k := by have := congrArg List.length HVS.out; rwa [List.length_map, List.length_map, rdVals_len] at this
      have hRz : w3.heap.size < wr.heap.size := World.block_lt_of_cell? wr _ p0
      obtain ⟨As, cs, rfl, _, hsat, _⟩ := hown.form
      have HOW := Lib.hid hown; have HVL := Lib.hid hvl; clear hown hvl
      have HPF := Lib.hid pf'; clear pf'
      by_cases hlt : k < n
      · obtain ⟨j, hj⟩ : ∃ j, n = k + 1 + j := ⟨n - (k + 1), by omega⟩
        have e1 : stp false * (n - k) = 4 * j + 4 := by unfold stp; simp; omega
        have e2 : stp false * (n - (k + 1)) = 4 * j := by unfold stp; simp; omega
        rw [e1] at hc' ⊢
        obtain ⟨a', rfl, hblk, hcl⟩ := hat (by rw [u8v_len, List.length_drop, HDL.out]; unfold stp; simp; omega)
        obtain ⟨D, hD⟩ : ∃ D, D = d.drop (stp false * k) := ⟨_, rfl⟩
        have hDl : 4 ≤ D.length := by rw [hD, List.length_drop, HDL.out]; unfold stp; simp; omega
        have hDb : Bytes D := by rw [hD]; exact HBD.out.drop _
        rw [← hD] at hat
        have hTl : (D.take 4).length = 4 := by rw [List.length_take]; omega
        obtain ⟨X, hX⟩ : ∃ X, X = leVal (D.take 4) := ⟨_, rfl⟩
        have hX2 : X < 2 ^ 32 := by rw [hX]; have := leVal_lt (hDb.take 4); rwa [hTl] at this
        have GV : Hid (∀ wx, SlAt wx (some a') (u8v D) → Calls Tryd.prog 68 #[.slice (some a') 4 c'] wx fun e w' => e = .returned (.int .u64 (X : Int)) ∧ wx = w') := Lib.hid (fun wx hx => by
          have h1 : SlAt wx (some a') (u8v (D.take 4)) := by have := hx.take 4; unfold u8v at this ⊢; rwa [← List.map_take] at this
          have := get_any (some a') c' (D.take 4) (hDb.take 4) (by rw [hTl]; decide) wx h1
          rwa [hTl, ← hX] at this)
        have l8c : (4 : Int) ≤ (c' : Int) := by omega
        have hX2' : X < 4294967296 := by omega
        have hcv : ∀ w, (convert 114 111 (.float .f32 X)).run Tryd.prog w = .ok (.float .f64 (wideV X w)) (wideW X w) := fun w => conv_wide (by kernel_rfl) (by kernel_rfl) X hX2' w
        have gX : IntKind.u32.wrap (X : Int) = (X : Int) := by rw [IntKind.wrap_u32]; omega
        clear hX2'
        have HN := Lib.hid hj; have HE2 := Lib.hid e2; have HDD := Lib.hid hD; have HDB := Lib.hid hDb; have HDL2 := Lib.hid hDl; have HXX := Lib.hid hX; have HX2 := Lib.hid hX2
        clear hj e1 e2 hD hDl hDb hTl hX hX2
        have hat0 := hat.of hin
        have hpb : ∀ b : Bool, b = decide (c' = 4) → True := fun _ _ => trivial
        rcases Decidable.em (c' = 4) with rfl | hc8'
        all_goals
          go_wp2
          refine wp_region_schB ((w3.heap.size + 1)) (fun W => W.cell? ⟨w3.heap.size, 0, none⟩ = some (.int .i64 (S : Int)) ∧ W.cell? ⟨w3.heap.size, 1, none⟩ = some (.int .u32 (q : Int)) ∧ W.cell? ⟨w3.heap.size, 2, none⟩ = some (.int .u32 (t : Int)) ∧ W.cell? ⟨w3.heap.size, 3, none⟩ = some (.slice As vs.length cs) ∧ SlAt W (some a') (u8v D) ∧ OwnF W (w3.heap.size + 1) (.slice As vs.length cs) vs ∧ w3.heap.size < W.heap.size ∧ w3.heap.size + 1 ≤ W.heap.size ∧ Within w3 W ∧ (∀ o, W.frozen? ⟨w3.heap.size, o, none⟩ = false)) 11 (.firm 0 (.firm 1 (.firm 2 (.firm 3 (.one 4 (.firm 5 (.one 6 (.one 7 (.one 8 (.one 9 (.firm 10 (.one 11 .nil)))))))))))) (by kernel_rfl) (by kernel_rfl) ⟨p0, p1, p2, p3, hat0, HOW.out, hRz, hRz, hin, HPF.out⟩ ?_
          rintro w0 ⟨b0, b1, b2, b3, hs0, ho0, hz0, hz1, hw0, hf0⟩
          have hWW : Below (w3.heap.size + 1) w0 (wideW X w0.drew) := Below.trans ((Below.refl _ _).drew) ((wideW_in w0.drew).mono (show _ ≤ w0.heap.size from hz1))
          have hWz : w3.heap.size + 1 ≤ (wideW X w0.drew).heap.size := Nat.le_trans hz1 hWW.size
          obtain ⟨v1, w1, hrun, hown1, hbl2⟩ := run_app_float (wideW X w0.drew) (w3.heap.size + 1) _ vs (wideV X w0.drew) (ho0.of (Within.trans ((Within.refl _).drew) (wideW_in _))) (by have := HVL.out; omega) hWz
          have hbl1 : Below (w3.heap.size + 1) w0 w1 := Below.trans hWW hbl2
          obtain ⟨A1, c1, hv1, _⟩ := hown1.form
          obtain ⟨N1, hN1⟩ : ∃ N1, N1 = (vs ++ [wideV X w0.drew]).length := ⟨_, rfl⟩
          rw [← hN1] at hv1
          subst hv1
          have RUN := Lib.hid hrun; clear hrun
          have g0 : w1.cell? ⟨w3.heap.size, 0, none⟩ = some (.int .i64 (S : Int)) := (hbl1.cell (p := ⟨w3.heap.size, 0, none⟩) (Nat.lt_succ_self _)).trans b0
          have g1 : w1.cell? ⟨w3.heap.size, 1, none⟩ = some (.int .u32 (q : Int)) := (hbl1.cell (p := ⟨w3.heap.size, 1, none⟩) (Nat.lt_succ_self _)).trans b1
          have g2 : w1.cell? ⟨w3.heap.size, 2, none⟩ = some (.int .u32 (t : Int)) := (hbl1.cell (p := ⟨w3.heap.size, 2, none⟩) (Nat.lt_succ_self _)).trans b2
          have g3 : w1.cell? ⟨w3.heap.size, 3, none⟩ = some (.slice As vs.length cs) := (hbl1.cell (p := ⟨w3.heap.size, 3, none⟩) (Nat.lt_succ_self _)).trans b3
          have gf : ∀ o, w1.frozen? ⟨w3.heap.size, o, none⟩ = false := fun o => (hbl1.frozen (p := ⟨w3.heap.size, o, none⟩) (Nat.lt_succ_self _)).trans (hf0 o)
          try simp only [Act.put, List.setIfInBounds_toArray, List.set_cons_zero, List.set_cons_succ]
          iterate 4
            apply sch_firm rfl rfl (by repeat (first | with_reducible exact Below.refl _ _ | with_reducible assumption | with_reducible refine Below.drew ?_ | with_reducible refine Below.alloc ?_ (by first | assumption | (simp; omega)) _ | with_reducible refine Below.trans ?_ (by assumption)))
            · intro wq hq
              have hcq : ∀ b o, b < (w3.heap.size + 1) → wq.cell? ⟨b, o, none⟩ = w0.cell? ⟨b, o, none⟩ := fun b o hb => hq.cell (p := ⟨b, o, none⟩) hb
              clear hq
              go_simp
              rfl
            try simp only [Act.put, List.setIfInBounds_toArray, List.set_cons_zero, List.set_cons_succ]
          refine sch_one rfl rfl (fun K hK => ?_)
          go_simp
          refine (GV.out _ (by exact hs0.of ((Within.refl _).drew))).mono ?_; rintro e5 w5 ⟨rfl, rfl⟩
          refine hK _ _ (fun _ => (by repeat (first | with_reducible exact Below.refl _ _ | with_reducible assumption | with_reducible refine Below.drew ?_ | with_reducible refine Below.alloc ?_ (by first | assumption | (simp; omega)) _ | with_reducible refine Below.trans ?_ (by assumption)))) ?_
          clear hK K
          try simp only [Act.put, List.setIfInBounds_toArray, List.set_cons_zero, List.set_cons_succ]
          apply sch_firm rfl rfl (by repeat (first | with_reducible exact Below.refl _ _ | with_reducible assumption | with_reducible refine Below.drew ?_ | with_reducible refine Below.alloc ?_ (by first | assumption | (simp; omega)) _ | with_reducible refine Below.trans ?_ (by assumption)))
          · intro wq hq
            have hcq : ∀ b o, b < (w3.heap.size + 1) → wq.cell? ⟨b, o, none⟩ = w0.cell? ⟨b, o, none⟩ := fun b o hb => hq.cell (p := ⟨b, o, none⟩) hb
            clear hq
            go_simp
            rfl
          try simp only [Act.put, List.setIfInBounds_toArray, List.set_cons_zero, List.set_cons_succ]
          refine sch_one rfl rfl (fun K hK => ?_)
          go_simp
          refine hK _ _ (fun _ => (by repeat (first | with_reducible exact Below.refl _ _ | with_reducible assumption | with_reducible refine Below.drew ?_ | with_reducible refine Below.alloc ?_ (by first | assumption | (simp; omega)) _ | with_reducible refine Below.trans ?_ (by assumption)))) ?_
          clear hK K
          try simp only [Act.put, List.setIfInBounds_toArray, List.set_cons_zero, List.set_cons_succ]
          refine sch_one rfl rfl (fun K hK => ?_)
          go_simp
          refine hK _ _ (fun _ => (by repeat (first | with_reducible exact Below.refl _ _ | with_reducible assumption | with_reducible refine Below.drew ?_ | with_reducible refine Below.alloc ?_ (by first | assumption | (simp; omega)) _ | with_reducible refine Below.trans ?_ (by assumption)))) ?_
          clear hK K
          try simp only [Act.put, List.setIfInBounds_toArray, List.set_cons_zero, List.set_cons_succ]
          refine sch_one rfl rfl (fun K hK => ?_)
          go_simp
          refine hK _ _ (fun _ => (by repeat (first | with_reducible exact Below.refl _ _ | with_reducible assumption | with_reducible refine Below.drew ?_ | with_reducible refine Below.alloc ?_ (by first | assumption | (simp; omega)) _ | with_reducible refine Below.trans ?_ (by assumption)))) ?_
          clear hK K
          try simp only [Act.put, List.setIfInBounds_toArray, List.set_cons_zero, List.set_cons_succ]
          refine sch_one rfl rfl (fun K hK => ?_)
          refine op_append_run (.tmp 79) (.tmp 86) 65 rfl _ _ rfl rfl RUN.out ?_
          refine hK _ _ (fun _ => (by repeat (first | with_reducible exact Below.refl _ _ | with_reducible assumption | with_reducible refine Below.drew ?_ | with_reducible refine Below.alloc ?_ (by first | assumption | (simp; omega)) _ | with_reducible refine Below.trans ?_ (by assumption)))) ?_
          clear hK K
          try simp only [Act.put, List.setIfInBounds_toArray, List.set_cons_zero, List.set_cons_succ]
          apply sch_firm rfl rfl (by repeat (first | with_reducible exact Below.refl _ _ | with_reducible assumption | with_reducible refine Below.drew ?_ | with_reducible refine Below.alloc ?_ (by first | assumption | (simp; omega)) _ | with_reducible refine Below.trans ?_ (by assumption)))
          · intro wq hq
            have hcq : ∀ b o, b < (w3.heap.size + 1) → wq.cell? ⟨b, o, none⟩ = w0.cell? ⟨b, o, none⟩ := fun b o hb => hq.cell (p := ⟨b, o, none⟩) hb
            clear hq
            go_simp
            rfl
          try simp only [Act.put, List.setIfInBounds_toArray, List.set_cons_zero, List.set_cons_succ]
          refine sch_one rfl rfl (fun K hK => ?_)
          go_simp
          refine hK _ _ (fun h => absurd h (by decide)) ?_
          clear hK K
          try simp only [Act.put, List.setIfInBounds_toArray, List.set_cons_zero, List.set_cons_succ]
          refine sch_nil ?_
          go_wp2
          rw [List.length_append, List.length_singleton] at hN1; subst hN1
          have hlt' := hlt; have hnj := HN.out; have hd1 := HDL.out; have hdl2 := HDL2.out
          have hWin : Within w3 w1 := Below.trans hw0 (hbl1.mono (Nat.le_succ _))
          have hXc : canonD (wideV X w0.drew) = canonD (if false = true then leVal ((d.drop (stp false * k)).take 8) else pf.wb (leVal ((d.drop (stp false * k)).take 4))) := by rw [wideV_canon (by have := HX2.out; omega), HXX.out, HDD.out]; rw [if_neg (by decide)]; exact wide_canon.symm
        · have hj0 : j = 0 := by omega
          subst hj0
          have E2 : stp false * (n - (k + 1)) = 0 := HE2.out
          have hst := UnRel.step (A1 := some a') (c1 := 0) hlt (Nat.le_of_eq E2) (by rw [List.drop_eq_nil_of_le (by rw [hd1, hnj]; unfold stp; simp)]; exact SlAt.nil) HVS.out hXc (wideV_lt (by have := HX2.out; omega) _) HWV.out hown1 g0 g1 g2 (by rw [g3]; rfl) gf hWin
          rw [E2] at hst
          exact ⟨hst, by simp [restLen]⟩
        · have E2 : stp false * (n - (k + 1)) = 4 * j := HE2.out
          have hat8 : SlAt w3 (some ⟨a'.block, a'.off + 4, none⟩) (u8v (d.drop (stp false * (k + 1)))) := by
            have h1 := hat.drop 4
            rw [add_plain' a' (by decide), HDD.out] at h1
            unfold u8v at h1 ⊢; rw [← List.map_drop, List.drop_drop] at h1
            rwa [show stp false * (k + 1) = stp false * k + 4 by rw [Nat.mul_add]; rfl]
          have hst := UnRel.step hlt (c1 := c' - 4) (by rw [E2]; omega) hat8 HVS.out hXc (wideV_lt (by have := HX2.out; omega) _) HWV.out hown1 g0 g1 g2 (by rw [g3]; rfl) gf hWin
          rw [E2] at hst
          exact ⟨hst, by simp [restLen]⟩
      · have hkn : k = n := by omega
        subst hkn
        rw [show stp false * (k - k) = 0 by simp]
        have hfe : vs.all finD = fb := (map_all (fun _ _ h => finD_same h) HVS.out).trans HFB.out
        have hse : vs.all isSD = sb := (map_all (fun _ _ h => isSD_same h) HVS.out).trans HSB.out
        have hWw : Within w wr := (((Within.refl w).alloc _).trans hb3).trans hin
        have FN := Finite_any As cs vs HWV.out (by have := HVL.out; omega) wr hsat
        rw [hfe] at FN
        have SGL : Hid (∀ wx, Within wr wx → Calls Tryd.prog 73 #[.agg #[.int .i64 (S : Int), .int .u32 (q : Int), .int .u32 (t : Int), .slice As vs.length cs]] wx fun e w' => e = .returned (.bool sb) ∧ Within wx w') := Lib.hid (fun wx hx => by
          have := Singles_any As cs (.int .i64 (S : Int)) (.int .u32 (q : Int)) (.int .u32 (t : Int)) vs HWV.out (by have := HVL.out; omega) wx ((hT.of hWw).of hx) (hsat.of hx)
          rwa [hse] at this)
        have HFN := Lib.hid FN; clear FN
        have hqz3 : w.heap.size < w3.heap.size + 1 := Nat.lt_succ_of_lt qz
        have qzr : w.heap.size < wr.heap.size := Nat.lt_of_lt_of_le qz hin.size
        have qr0 : wr.cell? ⟨w.heap.size, 0, none⟩ = some (.int .i64 0) := (hin.cells _ _ qz).trans q0
        have qr1 : wr.cell? ⟨w.heap.size, 1, none⟩ = some (.int .u32 0) := (hin.cells _ _ qz).trans q1
        have qr2 : wr.cell? ⟨w.heap.size, 2, none⟩ = some (.int .u32 0) := (hin.cells _ _ qz).trans q2
        have qr3 : wr.cell? ⟨w.heap.size, 3, none⟩ = some (.slice none 0 0) := (hin.cells _ _ qz).trans q3
        have qrf : ∀ o, wr.frozen? ⟨w.heap.size, o, none⟩ = false := fun o => (hin.frozens _ _ qz).trans (qf o)
        have HFE := Lib.hid hfe; clear hfe hse
        go_wp2_with fail
        refine HFN.out.mono ?_; rintro e5 w5 ⟨rfl, hw5⟩
        have p50 : w5.cell? ⟨w3.heap.size, 0, none⟩ = some (.int .i64 (S : Int)) := (hw5.cells _ _ hRz).trans p0
        have p51 : w5.cell? ⟨w3.heap.size, 1, none⟩ = some (.int .u32 (q : Int)) := (hw5.cells _ _ hRz).trans p1
        have p52 : w5.cell? ⟨w3.heap.size, 2, none⟩ = some (.int .u32 (t : Int)) := (hw5.cells _ _ hRz).trans p2
        have p53 : w5.cell? ⟨w3.heap.size, 3, none⟩ = some (.slice As vs.length cs) := (hw5.cells _ _ hRz).trans p3
        have z50 : w5.cell? ⟨w.heap.size, 0, none⟩ = some (.int .i64 0) := (hw5.cells _ _ qzr).trans qr0
        have z51 : w5.cell? ⟨w.heap.size, 1, none⟩ = some (.int .u32 0) := (hw5.cells _ _ qzr).trans qr1
        have z52 : w5.cell? ⟨w.heap.size, 2, none⟩ = some (.int .u32 0) := (hw5.cells _ _ qzr).trans qr2
        have z53 : w5.cell? ⟨w.heap.size, 3, none⟩ = some (.slice none 0 0) := (hw5.cells _ _ qzr).trans qr3
        have z5f : ∀ o, w5.frozen? ⟨w.heap.size, o, none⟩ = false := fun o => (hw5.frozens _ _ qzr).trans (qrf o)
        have hRz5 : w3.heap.size < w5.heap.size := Nat.lt_of_lt_of_le hRz hw5.size
        have qz5 : w.heap.size < w5.heap.size := Nat.lt_of_lt_of_le qzr hw5.size
        have hW5 : Within w w5 := hWw.trans hw5
        cases fb
        · go_wp2
          have E := HER.out; have R := HRD.out
          simp at E; subst E; simp at R; subst R
          refine bodyPost_ret (v := .tuple #[.agg #[.int .i64 0, .int .u32 0, .int .u32 0, .slice none 0 0], .int .i64 211]) (by simp [results, Tryd.results49, go_sem, z50, z51, z52, z53]) rfl ⟨_, rfl, OwnF.nil_ _ _, (by repeat (first | with_reducible exact hW5 | with_reducible refine Within.setCell ?_ (Nat.le_refl _) _))⟩
        · go_wp2_with fail
          refine (SGL.out _ hw5).mono ?_; rintro e6 w6 ⟨rfl, hw6⟩
          have p60 : w6.cell? ⟨w3.heap.size, 0, none⟩ = some (.int .i64 (S : Int)) := (hw6.cells _ _ hRz5).trans p50
          have p61 : w6.cell? ⟨w3.heap.size, 1, none⟩ = some (.int .u32 (q : Int)) := (hw6.cells _ _ hRz5).trans p51
          have p62 : w6.cell? ⟨w3.heap.size, 2, none⟩ = some (.int .u32 (t : Int)) := (hw6.cells _ _ hRz5).trans p52
          have p63 : w6.cell? ⟨w3.heap.size, 3, none⟩ = some (.slice As vs.length cs) := (hw6.cells _ _ hRz5).trans p53
          have z60 : w6.cell? ⟨w.heap.size, 0, none⟩ = some (.int .i64 0) := (hw6.cells _ _ qz5).trans z50
          have z61 : w6.cell? ⟨w.heap.size, 1, none⟩ = some (.int .u32 0) := (hw6.cells _ _ qz5).trans z51
          have z62 : w6.cell? ⟨w.heap.size, 2, none⟩ = some (.int .u32 0) := (hw6.cells _ _ qz5).trans z52
          have z63 : w6.cell? ⟨w.heap.size, 3, none⟩ = some (.slice none 0 0) := (hw6.cells _ _ qz5).trans z53
          have z6f : ∀ o, w6.frozen? ⟨w.heap.size, o, none⟩ = false := fun o => (hw6.frozens _ _ qz5).trans (z5f o)
          have qz6 : w.heap.size < w6.heap.size := Nat.lt_of_lt_of_le qz5 hw6.size
          have hW6 : Within w w6 := hW5.trans hw6
          have HOW6 := Lib.hid ((HOW.out.of hw5).of hw6)
          cases sb
          · go_wp2
            have E := HER.out; have R := HRD.out
            simp at E; subst E; simp at R; subst R
            refine bodyPost_ret (v := .tuple #[.agg #[.int .i64 0, .int .u32 0, .int .u32 0, .slice none 0 0], .int .i64 211]) (by simp [results, Tryd.results49, go_sem, z60, z61, z62, z63]) rfl ⟨_, rfl, OwnF.nil_ _ _, (by repeat (first | with_reducible exact hW6 | with_reducible refine Within.setCell ?_ (Nat.le_refl _) _))⟩
          · go_wp2
            have E := HER.out; have R := HRD.out
            simp at E; subst E; simp at R; subst R
            refine bodyPost_ret (v := .tuple #[.agg #[.int .i64 (S : Int), .int .u32 (q : Int), .int .u32 (t : Int), .slice As vs.length cs], .int .i64 0]) (by simp [results, Tryd.results49, go_sem, z60, z61, z62, z63]) rfl ⟨_, rfl, ?_, (by repeat (first | with_reducible exact hW6 | with_reducible refine Within.setCell ?_ (Nat.le_refl _) _))⟩
            have hvv : vs = rdVals pf false k d := map_fin HVS.out HFE.out HFB.out
            rw [show (Rd.mk S q t (rdVals pf false k d)).vals = vs from hvv.symm]
            refine OwnF.less (base := w3.heap.size + 1) ?_ (Nat.le_of_lt hqz3)
            repeat (first | with_reducible exact HOW6.out | with_reducible refine OwnF.set ?_ hqz3 _)

end Go.Proofs.YtpmjlaiafgbjgaaDoor
end

section
namespace Go.Proofs.YtpmjlaiafgbjgaaDoor
open Go.RowKit

/-- only the values' bytes count -/
theorem rdVals_take (F : Fl) (wide : Bool) : ∀ (n : Nat) (v : List Nat), rdVals F wide n (v.take (stp wide * n)) = rdVals F wide n v
  | 0, _ => rfl
  | n + 1, v => by
    have e : ∀ u, rdVals F wide (n + 1) u = (if wide then leVal (u.take 8) else F.wb (leVal (u.take 4))) :: rdVals F wide n (u.drop (stp wide)) := fun u => by cases wide <;> rfl
    have hs : stp wide ≤ stp wide * (n + 1) := Nat.le_mul_of_pos_right _ (Nat.succ_pos _)
    have ht : ∀ k, k ≤ stp wide * (n + 1) → (v.take (stp wide * (n + 1))).take k = v.take k := fun k hk => by rw [List.take_take, Nat.min_eq_left hk]
    rw [e, e, List.drop_take, show stp wide * (n + 1) - stp wide = stp wide * n by rw [Nat.mul_succ]; omega, rdVals_take F wide n]
    congr 1
    cases wide
    · rw [if_neg (by decide), if_neg (by decide), ht 4 hs]
    · rw [if_pos rfl, if_pos rfl, ht 8 hs]
theorem bits_wide : ∀ K < 256, bits .and .u8 ((K : Nat) : Int) 128 = if 128 ≤ K then 128 else 0 := by decide +kernel
theorem RetR.bad {w : World} {er : Int} {e : Ending} {w' : World} (h : e = .returned (.tuple #[.agg #[.int .i64 0, .int .u32 0, .int .u32 0, .slice none 0 0], .int .i64 er]) ∧ Within w w') : RetR w noRd er e w' :=
  ⟨.slice none 0 0, h.1, OwnF.nil_ _ _, h.2⟩
/-- what Unpack reads -/
def rdOf (b : List Nat) : Rd := if unpackE pf b = 0 then readB pf b else noRd
theorem rdOf_bad {b : List Nat} (h : unpackE pf b ≠ 0) : rdOf b = noRd := if_neg h
theorem E_head {b : List Nat} (h : headB b = false) : unpackE pf b = 211 := by
  unfold unpackE; rw [if_pos (by unfold sizeB; simp [h])]
theorem E_few {b : List Nat} (h : b.length < 4) : unpackE pf b = 211 := by
  unfold unpackE; rw [if_pos (by unfold sizeB; simp; intro h1; omega)]
theorem E_long {b : List Nat} (h : b.length ≠ szOf (b.getD 3 0)) : unpackE pf b = 211 := by
  unfold unpackE; rw [if_pos (by unfold sizeB; simp; intro _ _; simpa using h)]
theorem E_rest {b : List Nat} (h4 : 4 ≤ b.length) (hh : headB b = true) (hl : b.length = szOf (b.getD 3 0)) : unpackE pf b = if crcOf (b.take (b.length - 4)) ≠ leVal (b.drop (b.length - 4)) then 212
    else if (valsB pf b).all finD = false ∨ wideB b = (valsB pf b).all isSD then 211 else 0 := by
  unfold unpackE
  rw [if_neg (by unfold sizeB; rw [hh, decide_eq_true h4, decide_eq_true hl]; decide)]; rfl

theorem Unpack_any (A : Option Addr) (c : Nat) (l : List Nat) (hb : Bytes l) (hl : l.length ≤ 1152921504606846976) (hc : l.length ≤ c) (w : World) (hT : FmS w) (hr : SlAt w A (u8v l)) :
    Calls Tryd.prog 49 #[.slice A l.length c] w (RetR w (rdOf l) (unpackE pf l)) := by
  have SZ : Hid (∀ w, SlAt w A (u8v l) → Calls Tryd.prog 67 #[.slice A l.length c] w fun e w' => e = .returned (.tuple #[.int .i64 (szV l), .bool (headB l)]) ∧ w = w') := Lib.hid fun w hr => size_any A c l hb hl w hr
  cases hh : headB l
  · rw [rdOf_bad (by rw [E_head hh]; decide), E_head hh]
    rw [hh] at SZ
    exact (Unpack_head A c l _ SZ w hr).mono fun _ _ h => RetR.bad h
  rw [hh] at SZ
  by_cases h4 : l.length < 4
  · rw [rdOf_bad (by rw [E_few h4]; decide), E_few h4]
    exact (Unpack_few A c l _ h4 SZ w hr).mono fun _ _ h => RetR.bad h
  have h4' : 4 ≤ l.length := by omega
  have hsz : szV l = (szOf (l.getD 3 0) : Int) := by unfold szV; rw [hh, if_neg (by decide), if_neg (by omega)]
  by_cases hn : l.length = szOf (l.getD 3 0)
  case neg =>
    rw [rdOf_bad (by rw [E_long hn]; decide), E_long hn]
    exact (Unpack_long A c l _ h4' hl (by rw [hsz]; exact ne_of hn) SZ w hr).mono fun _ _ h => RetR.bad h
  obtain ⟨_, _, hS, hM⟩ := headB_parts hh
  have hK := hb.getD 3
  obtain ⟨K, hKK⟩ : ∃ K, K = l.getD 3 0 := ⟨_, rfl⟩
  obtain ⟨S, hSS⟩ : ∃ S, S = l.getD 2 0 := ⟨_, rfl⟩
  have hst := szOf_stp hK
  rw [← hKK] at hK hM hn hsz hst
  rw [← hSS] at hS
  obtain ⟨n, hnn⟩ : ∃ n, n = K % 128 := ⟨_, rfl⟩
  rw [← hnn] at hM hst
  obtain ⟨wide, hw⟩ : ∃ b, b = decide (128 ≤ K) := ⟨_, rfl⟩
  rw [← hw] at hst
  have hsn : stp wide * n ≤ 48 := by unfold stp; split <;> omega
  obtain ⟨m, hm⟩ : ∃ m, l.length = m + 4 := ⟨l.length - 4, by omega⟩
  have hmn : m = 12 + stp wide * n := by omega
  obtain ⟨ad, rfl, hblk, hcl⟩ := hr (by rw [u8v_len]; omega)
  have at_ : ∀ k, k < l.length → ∀ w, SlAt w (some ad) (u8v l) → w.cell? (ad.add k) = some (.int .u8 ((l.getD k 0 : Nat) : Int)) := fun k hk w hr => by
    obtain ⟨ad', e', _, hc⟩ := hr.at hk
    obtain rfl := Option.some.inj e'; exact hc
  have hE := E_rest h4' hh (by rw [← hKK]; exact hn)
  have hwB : wideB l = wide := by unfold wideB; rw [← hKK, hw]
  have hlen : l.length = 16 + stp wide * n := hn.trans hst
  have hd12 : (l.drop 12).length = stp wide * n + 4 := by rw [List.length_drop, hlen]; generalize stp wide * n = z; omega
  have hval : valsB pf l = rdVals pf wide n ((l.drop 12).take (stp wide * n)) := by
    rw [rdVals_take]; unfold valsB; rw [hwB, ← hKK, ← hnn]
  have hrd : readB pf l = ⟨S, leVal ((l.drop 4).take 4), leVal ((l.drop 8).take 4), rdVals pf wide n ((l.drop 12).take (stp wide * n))⟩ := by unfold readB; rw [hval, ← hSS]
  rw [hval, hwB, hm, Nat.add_sub_cancel] at hE
  have hG : leVal ((l.drop m).take 4) = leVal (l.drop m) := by rw [List.take_of_length_le (by rw [List.length_drop]; omega)]
  have GT : Hid (∀ w, SlAt w (some ad) (u8v l) → Calls Tryd.prog 68 #[.slice (some (ad.add m)) 4 (c - m)] w fun e w' => e = .returned (.int .u64 (leVal (l.drop m) : Int)) ∧ w = w') := Lib.hid fun w hr => by
    rw [← hG]; exact get_at ad c m 4 l hb (by decide) (by omega) _ w hr
  have SM : Hid (∀ w, SlAt w (some ad) (u8v l) → Calls Tryd.prog 69 #[.slice (some ad) m c] w fun e w' => e = .returned (.int .u32 (crcOf (l.take m) : Int)) ∧ w = w') := Lib.hid fun w hr => by
    have h1 : SlAt w (some ad) (u8v (l.take m)) := by have := hr.take m; unfold u8v at this ⊢; rwa [← List.map_take] at this
    have h2 := sum_any (some ad) c (l.take m) (hb.take m) (by rw [List.length_take]; omega) w h1
    rwa [List.length_take, show min m l.length = m by omega] at h2
  have SZ2 : Hid (∀ w, SlAt w (some ad) (u8v l) → Calls Tryd.prog 67 #[.slice (some ad) (m + 4) c] w fun e w' => e = .returned (.tuple #[.int .i64 ((m + 4 : Nat) : Int), .bool true]) ∧ w = w') := by
    rw [hsz, ← hn, hm] at SZ; exact SZ
  have GQ : ∀ k, k + 4 ≤ l.length → k ≠ 0 → Hid (∀ w, SlAt w (some ad) (u8v l) → Calls Tryd.prog 68 #[.slice (some ⟨ad.block, ad.off + k, none⟩) 4 (c - k)] w fun e w' => e = .returned (.int .u64 (leVal ((l.drop k).take 4) : Int)) ∧ w = w') := fun k hk h0 => Lib.hid fun w hr => by
    rw [← add_plain' ad h0]; exact get_at ad c k 4 l hb (by decide) hk _ w hr
  have lt4 : ∀ k, leVal ((l.drop k).take 4) < 4294967296 := fun k => by
    have := leVal_lt ((hb.drop k).take 4)
    refine Nat.lt_of_lt_of_le this (show _ ≤ 2 ^ 32 from Nat.pow_le_pow_right (by decide) (by rw [List.length_take]; omega))
  have hm1 : 12 ≤ m ∧ m ≤ 60 := by omega
  rw [hm] at hc ⊢
  by_cases hcs : crcOf (l.take m) = leVal (l.drop m)
  case neg =>
    rw [if_pos hcs] at hE
    rw [rdOf_bad (by rw [hE]; decide), hE]
    exact (Unpack_sum ad c m l hm1 hc SZ2 _ _ (crcOf_lt (hb.take m)) GT SM (ne_of (Ne.symm hcs)) w hr).mono fun _ _ h => RetR.bad h
  rw [if_neg (fun h => h hcs)] at hE
  have hs : ((leVal (l.drop m) : Int) != (crcOf (l.take m) : Int)) = false := eq_of' hcs.symm
  have h2 : ∀ w, SlAt w (some ad) (u8v l) → w.cell? ⟨ad.block, ad.off + 2, none⟩ = some (.int .u8 (S : Int)) := fun w hr => by rw [← add_plain' ad (by decide), hSS]; exact at_ 2 (by omega) w hr
  have h3 : ∀ w, SlAt w (some ad) (u8v l) → w.cell? ⟨ad.block, ad.off + 3, none⟩ = some (.int .u8 (K : Int)) := fun w hr => by rw [← add_plain' ad (by decide), hKK]; exact at_ 3 (by omega) w hr
  have hdl : ((l.drop 12).take (stp wide * n)).length = stp wide * n := by rw [List.length_take, hd12]; omega
  have hbK := bits_wide K hK
  have hrr : rdOf l = if unpackE pf l = 0 then ⟨S, leVal ((l.drop 4).take 4), leVal ((l.drop 8).take 4), rdVals pf wide n ((l.drop 12).take (stp wide * n))⟩ else noRd := by unfold rdOf; rw [hrd]
  cases wide
  · have hk : ¬ 128 ≤ K := of_decide_eq_false hw.symm
    rw [if_neg hk] at hbK
    exact Unpack_near ad c m l hm1 hc SZ2 _ _ (crcOf_lt (hb.take m)) GT SM S _ _ (by omega) (lt4 4) (lt4 8) (GQ 4 (by omega) (by decide)) (GQ 8 (by omega) (by decide)) h2 n K (by omega) hmn hbK h3 _ rfl ((hb.drop 12).take _) hdl _ _ rfl rfl _ hE _ hrr hs w hT hr
  · have hk : 128 ≤ K := of_decide_eq_true hw.symm
    rw [if_pos hk] at hbK
    exact Unpack_wide ad c m l hm1 hc SZ2 _ _ (crcOf_lt (hb.take m)) GT SM S _ _ (by omega) (lt4 4) (lt4 8) (GQ 4 (by omega) (by decide)) (GQ 8 (by omega) (by decide)) h2 n K (by omega) hmn hbK h3 _ rfl ((hb.drop 12).take _) hdl _ _ rfl rfl _ hE _ hrr hs w hT hr
end Go.Proofs.YtpmjlaiafgbjgaaDoor
end

section
namespace Go.Proofs.YtpmjlaiafgbjgaaDoor
open Go.RowKit

set_option maxRecDepth 100000 in
set_option maxHeartbeats 600000 in
theorem Runpack_few (A : Option Addr) (c : Nat) (l : List Nat) (h : decide ((l.length : Int) < 4) = true) (w : World) : Calls Tryd.prog 50 #[.slice A l.length c] w fun e w' => e = .returned (.tuple #[.agg #[.int .i64 0, .int .u32 0, .int .u32 0, .slice none 0 0], .int .i64 211]) ∧ Within w w' := by
  go_enter Tryd.func50, Tryd.ntmps50
  go_wp2
  refine bodyPost_ret (v := .tuple #[.agg #[.int .i64 0, .int .u32 0, .int .u32 0, .slice none 0 0], .int .i64 211]) (by simp [results, Tryd.results50, go_sem]) rfl ⟨rfl, (by repeat (first | with_reducible exact Within.refl _ | with_reducible assumption | with_reducible refine Within.alloc ?_ _ | with_reducible refine Within.drew ?_ | with_reducible refine Within.drewN ?_ _ | with_reducible refine Within.setCell ?_ (by first | (simp; done) | (simp; omega)) _ | with_reducible refine Within.trans ?_ (by assumption)))⟩

set_option maxRecDepth 100000 in
set_option maxHeartbeats 600000 in
theorem Runpack_head (A : Option Addr) (c : Nat) (l : List Nat) (h : decide ((l.length : Int) < 4) = false) (RH : Hid (∀ w, SlAt w A (u8v l) → Calls Tryd.prog 74 #[.slice A l.length c] w fun e w' => e = .returned (.bool false) ∧ w = w')) (w : World) (hr : SlAt w A (u8v l)) : Calls Tryd.prog 50 #[.slice A l.length c] w fun e w' => e = .returned (.tuple #[.agg #[.int .i64 0, .int .u32 0, .int .u32 0, .slice none 0 0], .int .i64 211]) ∧ Within w w' := by
  have HR := Lib.hid hr; clear hr
  go_enter Tryd.func50, Tryd.ntmps50
  go_wp2_with fail
  refine (RH.out _ (HR.out.of (by repeat (first | with_reducible exact Within.refl _ | with_reducible assumption | with_reducible refine Within.alloc ?_ _ | with_reducible refine Within.drew ?_ | with_reducible refine Within.drewN ?_ _ | with_reducible refine Within.setCell ?_ (by first | (simp; done) | (simp; omega)) _ | with_reducible refine Within.trans ?_ (by assumption))))).mono ?_; rintro e1 w1 ⟨rfl, rfl⟩
  go_wp2
  refine bodyPost_ret (v := .tuple #[.agg #[.int .i64 0, .int .u32 0, .int .u32 0, .slice none 0 0], .int .i64 211]) (by simp [results, Tryd.results50, go_sem]) rfl ⟨rfl, (by repeat (first | with_reducible exact Within.refl _ | with_reducible assumption | with_reducible refine Within.alloc ?_ _ | with_reducible refine Within.drew ?_ | with_reducible refine Within.drewN ?_ _ | with_reducible refine Within.setCell ?_ (by first | (simp; done) | (simp; omega)) _ | with_reducible refine Within.trans ?_ (by assumption)))⟩

set_option maxRecDepth 100000 in
set_option maxHeartbeats 600000 in
theorem Runpack_long (ad : Addr) (c N K : Nat) (l : List Nat) (h : decide ((N : Int) < 4) = false) (l3 : (3 : Int) < (N : Int)) (n : Int) (hn : ((N : Int) != n) = true) (RH : Hid (∀ w, SlAt w (some ad) (u8v l) → Calls Tryd.prog 74 #[.slice (some ad) N c] w fun e w' => e = .returned (.bool true) ∧ w = w')) (RS : Hid (∀ w, Calls Tryd.prog 75 #[.int .u8 (K : Int)] w fun e w' => e = .returned (.int .i64 n) ∧ w = w')) (h3 : ∀ w, SlAt w (some ad) (u8v l) → w.cell? ⟨ad.block, ad.off + 3, none⟩ = some (.int .u8 (K : Int))) (w : World) (hr : SlAt w (some ad) (u8v l)) : Calls Tryd.prog 50 #[.slice (some ad) N c] w fun e w' => e = .returned (.tuple #[.agg #[.int .i64 0, .int .u32 0, .int .u32 0, .slice none 0 0], .int .i64 211]) ∧ Within w w' := by
  have HR := Lib.hid hr; clear hr
  have HH3 := Lib.hid h3; clear h3
  go_enter Tryd.func50, Tryd.ntmps50
  go_wp2_with fail
  have hw1 := HR.out.of ((Within.refl w).alloc (.cells #[.int .i64 0, .int .u32 0, .int .u32 0, .slice none 0 0] 67))
  have k3 := HH3.out _ hw1
  refine (RH.out _ hw1).mono ?_; rintro e1 w1 ⟨rfl, rfl⟩
  go_wp2_with fail
  refine (RS.out _).mono ?_; rintro e2 w2 ⟨rfl, rfl⟩
  go_wp2
  refine bodyPost_ret (v := .tuple #[.agg #[.int .i64 0, .int .u32 0, .int .u32 0, .slice none 0 0], .int .i64 211]) (by simp [results, Tryd.results50, go_sem]) rfl ⟨rfl, (by repeat (first | with_reducible exact Within.refl _ | with_reducible assumption | with_reducible refine Within.alloc ?_ _ | with_reducible refine Within.drew ?_ | with_reducible refine Within.drewN ?_ _ | with_reducible refine Within.setCell ?_ (by first | (simp; done) | (simp; omega)) _ | with_reducible refine Within.trans ?_ (by assumption)))⟩

end Go.Proofs.YtpmjlaiafgbjgaaDoor
end

section
namespace Go.Proofs.YtpmjlaiafgbjgaaDoor
open Go.RowKit

set_option maxRecDepth 100000 in
set_option maxHeartbeats 1000000 in
theorem Runpack_sum (ad : Addr) (c m K : Nat) (l : List Nat) (hm : 12 ≤ m ∧ m ≤ 60) (hc : m + 4 ≤ c) (RH : Hid (∀ w, SlAt w (some ad) (u8v l) → Calls Tryd.prog 74 #[.slice (some ad) (m + 4) c] w fun e w' => e = .returned (.bool true) ∧ w = w')) (RS : Hid (∀ w, Calls Tryd.prog 75 #[.int .u8 (K : Int)] w fun e w' => e = .returned (.int .i64 ((m + 4 : Nat) : Int)) ∧ w = w')) (h3 : ∀ w, SlAt w (some ad) (u8v l) → w.cell? ⟨ad.block, ad.off + 3, none⟩ = some (.int .u8 (K : Int))) (G C : Nat) (hC : C < 4294967296) (GT : Hid (∀ w, SlAt w (some ad) (u8v l) → Calls Tryd.prog 65 #[.slice (some (ad.add m)) 4 (c - m)] w fun e w' => e = .returned (.int .u64 (G : Int)) ∧ w = w')) (SM : Hid (∀ w, SlAt w (some ad) (u8v l) → Calls Tryd.prog 58 #[.slice (some ad) m c] w fun e w' => e = .returned (.int .u32 (C : Int)) ∧ w = w')) (hs : ((C : Int) != (G : Int)) = true) (w : World) (hr : SlAt w (some ad) (u8v l)) : Calls Tryd.prog 50 #[.slice (some ad) (m + 4) c] w fun e w' => e = .returned (.tuple #[.agg #[.int .i64 0, .int .u32 0, .int .u32 0, .slice none 0 0], .int .i64 212]) ∧ Within w w' := by
  have HR := Lib.hid hr; clear hr
  have HH3 := Lib.hid h3; clear h3
  obtain ⟨m1, m2⟩ := hm
  have hn0 : (((m + 4 : Nat) : Int) != ((m + 4 : Nat) : Int)) = false := by rw [bne_eq_false_iff_eq]
  have hn1 : ((m : Int) + 4 != (m : Int) + 4) = false := by rw [bne_eq_false_iff_eq]
  have d4 : decide ((m : Int) + 4 < 4) = false := decide_eq_false (by omega)
  have l3 : (3 : Int) < (m : Int) + 4 := by omega
  have w4 : IntKind.i64.wrap (m : Int) = (m : Int) := by rw [IntKind.wrap_i64]; omega
  have hcm : ¬ c = m := by omega
  have hle : (m : Int) ≤ (m : Int) + 4 := by omega
  have hmc : m ≤ c := by omega
  have gC : IntKind.u64.wrap (C : Int) = (C : Int) := by rw [IntKind.wrap_u64]; omega
  clear hC
  go_enter Tryd.func50, Tryd.ntmps50
  go_wp2_with fail
  have hw1 := HR.out.of ((Within.refl w).alloc (.cells #[.int .i64 0, .int .u32 0, .int .u32 0, .slice none 0 0] 67))
  have k3 := HH3.out _ hw1
  refine (RH.out _ hw1).mono ?_; rintro e1 w1 ⟨rfl, rfl⟩
  go_wp2_with fail
  refine (RS.out _).mono ?_; rintro e2 w2 ⟨rfl, rfl⟩
  clear k3
  go_wp2
  refine wp_region_within (by kernel_rfl) (by kernel_rfl) ?_
  repeat
    apply wpq_step rfl
    · intro wq hCq
      have hsl := HR.out.of ((((Within.refl w).alloc _).trans hCq))
      go_simp
      first | rfl | exact hCq.same (GT.out _ hsl) | exact hCq.same (SM.out _ hsl) | (trace_state; fail)
    try simp only [Act.put, List.setIfInBounds_toArray, List.set_cons_zero, List.set_cons_succ]
  refine wpQuiet_nil ?_
  intro w3 hb3
  have q0 : w3.cell? ⟨w.heap.size, 0, none⟩ = some (.int .i64 0) := (hb3.cells _ _ (by simp)).trans (by simp)
  have q1 : w3.cell? ⟨w.heap.size, 1, none⟩ = some (.int .u32 0) := (hb3.cells _ _ (by simp)).trans (by simp)
  have q2 : w3.cell? ⟨w.heap.size, 2, none⟩ = some (.int .u32 0) := (hb3.cells _ _ (by simp)).trans (by simp)
  have q3 : w3.cell? ⟨w.heap.size, 3, none⟩ = some (.slice none 0 0) := (hb3.cells _ _ (by simp)).trans (by simp)
  have qf : ∀ o, w3.frozen? ⟨w.heap.size, o, none⟩ = false := fun o => (hb3.frozens _ _ (by simp)).trans (by simp)
  have qz : w.heap.size < w3.heap.size := World.block_lt_of_cell? _ _ q0
  go_wp2
  refine bodyPost_ret (v := .tuple #[.agg #[.int .i64 0, .int .u32 0, .int .u32 0, .slice none 0 0], .int .i64 212]) (by simp [results, Tryd.results50, go_sem, q0, q1, q2, q3]) rfl ⟨rfl, (by repeat (first | with_reducible exact Within.refl _ | with_reducible assumption | with_reducible refine Within.alloc ?_ _ | with_reducible refine Within.drew ?_ | with_reducible refine Within.drewN ?_ _ | with_reducible refine Within.setCell ?_ (by first | (simp; done) | (simp; omega)) _ | with_reducible refine Within.trans ?_ (by assumption)))⟩

theorem Rtake_at (ad : Addr) (_c k n : Nat) (l : List Nat) (hb : Bytes l) (hn : n ≤ 8) (hk : k + n ≤ l.length) (C : Nat) (w : World) (hr : SlAt w (some ad) (u8v l)) : Calls Tryd.prog 65 #[.slice (some (ad.add k)) n C] w fun e w' => e = .returned (.int .u64 (leVal ((l.drop k).take n) : Int)) ∧ w = w' := by
  have h1 := hr.drop k
  have h2 : SlAt w (some (ad.add k)) (u8v ((l.drop k).take n)) := by
    have := h1.take n
    unfold u8v at this ⊢
    rwa [← List.map_drop, ← List.map_take] at this
  have h3 : ((l.drop k).take n).length = n := by rw [List.length_take, List.length_drop]; omega
  have := Rtake_any (some (ad.add k)) C _ ((hb.drop k).take n) (by omega) w h2
  rwa [h3] at this
/-- the values' loop at its head, by the place that is read next -/
def RunRel (W3 : World) (d : List Nat) (wide : Bool) (n S q t : Nat) (vv : Value) (wr : World) : Prop :=
  ∃ (k a : Nat) (vs : List Nat) (sl : Value), k ≤ n ∧ vv = .int .i64 (a : Int) ∧ a = 12 + stp wide * k ∧
    vs.map canonD = (rdVals pf wide k d).map canonD ∧ Words64 vs ∧ OwnF wr (W3.heap.size + 1) sl vs ∧ wr.cell? ⟨W3.heap.size, 0, none⟩ = some (.int .i64 (S : Int)) ∧ wr.cell? ⟨W3.heap.size, 1, none⟩ = some (.int .u32 (q : Int)) ∧
    wr.cell? ⟨W3.heap.size, 2, none⟩ = some (.int .u32 (t : Int)) ∧ wr.cell? ⟨W3.heap.size, 3, none⟩ = some sl ∧ (∀ o, wr.frozen? ⟨W3.heap.size, o, none⟩ = false) ∧ Within W3 wr
theorem RunRel.step {W3 w' : World} {d : List Nat} {wide : Bool} {n S q t k a : Nat} {x : Nat} {vs : List Nat} {sl' : Value} (hk : k < n) (ha : a = 12 + stp wide * (k + 1))
    (hvs : vs.map canonD = (rdVals pf wide k d).map canonD) (hx : canonD x = canonD (if wide then leVal ((d.drop (stp wide * k)).take 8) else pf.wb (leVal ((d.drop (stp wide * k)).take 4)))) (hx2 : x < 18446744073709551616) (hw : Words64 vs)
    (hown : OwnF w' (W3.heap.size + 1) sl' (vs ++ [x])) (h0 : w'.cell? ⟨W3.heap.size, 0, none⟩ = some (.int .i64 (S : Int))) (h1 : w'.cell? ⟨W3.heap.size, 1, none⟩ = some (.int .u32 (q : Int))) (h2 : w'.cell? ⟨W3.heap.size, 2, none⟩ = some (.int .u32 (t : Int)))
    (h3 : (w'.cell? ⟨W3.heap.size, 3, none⟩).isSome = true) (hf : ∀ o, w'.frozen? ⟨W3.heap.size, o, none⟩ = false) (hb : Within W3 w') :
    RunRel W3 d wide n S q t (.int .i64 (a : Int)) (w'.setCell ⟨W3.heap.size, 3, none⟩ sl') := by
  obtain ⟨u, hu⟩ := Option.isSome_iff_exists.1 h3
  refine ⟨k + 1, a, vs ++ [x], sl', hk, rfl, ha, ?_, ?_, hown.set (by show W3.heap.size < _; omega) _, ?_, ?_, ?_, World.cell?_setCell_same _ _ _ hu, fun o => ?_, hb.setCell (Nat.le_refl _) _⟩
  · rw [rdVals_snoc, List.map_append, List.map_append, hvs, List.map_singleton, List.map_singleton, hx]
  · intro y hy
    rcases List.mem_append.1 hy with h | h
    · exact hw y h
    · rw [List.mem_singleton] at h; rw [h]; exact hx2
  · rw [World.cell?_setCell_other _ _ _ _ (by simp)]; exact h0
  · rw [World.cell?_setCell_other _ _ _ _ (by simp)]; exact h1
  · rw [World.cell?_setCell_other _ _ _ _ (by simp)]; exact h2
  · rw [World.frozen?_setCell]; exact hf o
def upTo (m : Nat) : Value → Nat
  | .int _ x => m - x.toNat
  | _ => 0

end Go.Proofs.YtpmjlaiafgbjgaaDoor
end

section
namespace Go.Proofs.YtpmjlaiafgbjgaaDoor
open Go.RowKit

set_option maxRecDepth 100000 in
set_option maxHeartbeats 1000000 in
theorem Runpack_wide (ad : Addr) (c m K : Nat) (l : List Nat) (hm : 12 ≤ m ∧ m ≤ 60) (hc : m + 4 ≤ c) (RH : Hid (∀ w, SlAt w (some ad) (u8v l) → Calls Tryd.prog 74 #[.slice (some ad) (m + 4) c] w fun e w' => e = .returned (.bool true) ∧ w = w')) (RS : Hid (∀ w, Calls Tryd.prog 75 #[.int .u8 (K : Int)] w fun e w' => e = .returned (.int .i64 ((m + 4 : Nat) : Int)) ∧ w = w')) (h3 : ∀ w, SlAt w (some ad) (u8v l) → w.cell? ⟨ad.block, ad.off + 3, none⟩ = some (.int .u8 (K : Int))) (G C : Nat) (hC : C < 4294967296) (GT : Hid (∀ w, SlAt w (some ad) (u8v l) → Calls Tryd.prog 65 #[.slice (some (ad.add m)) 4 (c - m)] w fun e w' => e = .returned (.int .u64 (G : Int)) ∧ w = w')) (SM : Hid (∀ w, SlAt w (some ad) (u8v l) → Calls Tryd.prog 58 #[.slice (some ad) m c] w fun e w' => e = .returned (.int .u32 (C : Int)) ∧ w = w')) (S q t : Nat) (hS : S < 256) (hq : q < 4294967296) (ht : t < 4294967296) (GQ : Hid (∀ w, SlAt w (some ad) (u8v l) → Calls Tryd.prog 65 #[.slice (some ⟨ad.block, ad.off + 4, none⟩) 4 (c - 4)] w fun e w' => e = .returned (.int .u64 (q : Int)) ∧ w = w')) (GT4 : Hid (∀ w, SlAt w (some ad) (u8v l) → Calls Tryd.prog 65 #[.slice (some ⟨ad.block, ad.off + 8, none⟩) 4 (c - 8)] w fun e w' => e = .returned (.int .u64 (t : Int)) ∧ w = w')) (h2 : ∀ w, SlAt w (some ad) (u8v l) → w.cell? ⟨ad.block, ad.off + 2, none⟩ = some (.int .u8 (S : Int))) (n : Nat) (hn : n ≤ 6) (hmn : m = 12 + 8 * n) (hK : decide (128 ≤ (K : Int)) = true) (d : List Nat) (hd : d = (l.drop 12).take (8 * n)) (hbd : Bytes d) (hdl : d.length = 8 * n) (hbl : Bytes l) (hll : l.length = m + 4) (fb sb : Bool) (hfb : (rdVals pf true n d).all finD = fb) (hsb : (rdVals pf true n d).all isSD = sb) (er : Int) (her : er = if fb = false ∨ true = sb then 211 else 0) (rd : Rd) (hrd : rd = if er = 0 then ⟨S, q, t, rdVals pf true n d⟩ else noRd) (hs : ((C : Int) != (G : Int)) = false) (w : World) (hr : SlAt w (some ad) (u8v l)) : Calls Tryd.prog 50 #[.slice (some ad) (m + 4) c] w (RetR w rd er) := by
  have HFB := Lib.hid hfb; have HSB := Lib.hid hsb; have HER := Lib.hid her; have HBD := Lib.hid hbd; have HDL := Lib.hid hdl; have HD := Lib.hid hd; have HRD := Lib.hid hrd; have HBL := Lib.hid hbl; have HLL := Lib.hid hll; clear hrd hfb hsb her hbd hdl hd hbl hll
  have HR := Lib.hid hr; clear hr
  have HH3 := Lib.hid h3; clear h3
  obtain ⟨m1, m2⟩ := hm
  have hn0 : (((m + 4 : Nat) : Int) != ((m + 4 : Nat) : Int)) = false := by rw [bne_eq_false_iff_eq]
  have hn1 : ((m : Int) + 4 != (m : Int) + 4) = false := by rw [bne_eq_false_iff_eq]
  have d4 : decide ((m : Int) + 4 < 4) = false := decide_eq_false (by omega)
  have l3 : (3 : Int) < (m : Int) + 4 := by omega
  have w4 : IntKind.i64.wrap (m : Int) = (m : Int) := by rw [IntKind.wrap_i64]; omega
  have hcm : ¬ c = m := by omega
  have hle : (m : Int) ≤ (m : Int) + 4 := by omega
  have hmc : m ≤ c := by omega
  have gC : IntKind.u64.wrap (C : Int) = (C : Int) := by rw [IntKind.wrap_u64]; omega
  clear hC
  have w32q : IntKind.u32.wrap (q : Int) = (q : Int) := by rw [IntKind.wrap_u32]; omega
  have w32t : IntKind.u32.wrap (t : Int) = (t : Int) := by rw [IntKind.wrap_u32]; omega
  have wS : IntKind.i64.wrap (S : Int) = (S : Int) := by rw [IntKind.wrap_i64]; omega
  have hc4 : ¬ c = 4 := by omega
  have hc8 : ¬ c = 8 := by omega
  have hc12 : ¬ c = 12 := by omega
  have l8 : (8 : Int) ≤ (c : Int) := by omega
  have l12 : (12 : Int) ≤ (c : Int) := by omega
  have l2 : (2 : Int) < (m : Int) + 4 := by omega
  have l12m : (12 : Int) ≤ (m : Int) := by omega
  have HH := Lib.hid h2; have HMN := Lib.hid hmn; clear h2 hmn
  have HS := Lib.hid (And.intro hS (And.intro hq ht)); clear hS hq ht
  go_enter Tryd.func50, Tryd.ntmps50
  go_wp2_with fail
  have hw1 := HR.out.of ((Within.refl w).alloc (.cells #[.int .i64 0, .int .u32 0, .int .u32 0, .slice none 0 0] 67))
  have k3 := HH3.out _ hw1
  refine (RH.out _ hw1).mono ?_; rintro e1 w1 ⟨rfl, rfl⟩
  go_wp2_with fail
  refine (RS.out _).mono ?_; rintro e2 w2 ⟨rfl, rfl⟩
  clear k3
  go_wp2
  refine wp_region_within (by kernel_rfl) (by kernel_rfl) ?_
  repeat
    apply wpq_step rfl
    · intro wq hCq
      have hsl := HR.out.of ((((Within.refl w).alloc _).trans hCq))
      go_simp
      first | rfl | exact hCq.same (GT.out _ hsl) | exact hCq.same (SM.out _ hsl) | (trace_state; fail)
    try simp only [Act.put, List.setIfInBounds_toArray, List.set_cons_zero, List.set_cons_succ]
  refine wpQuiet_nil ?_
  intro w3 hb3
  have q0 : w3.cell? ⟨w.heap.size, 0, none⟩ = some (.int .i64 0) := (hb3.cells _ _ (by simp)).trans (by simp)
  have q1 : w3.cell? ⟨w.heap.size, 1, none⟩ = some (.int .u32 0) := (hb3.cells _ _ (by simp)).trans (by simp)
  have q2 : w3.cell? ⟨w.heap.size, 2, none⟩ = some (.int .u32 0) := (hb3.cells _ _ (by simp)).trans (by simp)
  have q3 : w3.cell? ⟨w.heap.size, 3, none⟩ = some (.slice none 0 0) := (hb3.cells _ _ (by simp)).trans (by simp)
  have qf : ∀ o, w3.frozen? ⟨w.heap.size, o, none⟩ = false := fun o => (hb3.frozens _ _ (by simp)).trans (by simp)
  have qz : w.heap.size < w3.heap.size := World.block_lt_of_cell? _ _ q0
  go_upto_region 6 with fail
  go_cut [5] (fun s5 wx => s5 = .pointer (some ⟨w3.heap.size, 0, none⟩) ∧ (wx.cell? ⟨w3.heap.size, 0, none⟩ = some (.int .i64 (S : Int)) ∧ wx.cell? ⟨w3.heap.size, 1, none⟩ = some (.int .u32 (q : Int)) ∧ wx.cell? ⟨w3.heap.size, 2, none⟩ = some (.int .u32 (t : Int)) ∧ wx.cell? ⟨w3.heap.size, 3, none⟩ = some (.slice none 0 0) ∧ (∀ o, wx.frozen? ⟨w3.heap.size, o, none⟩ = false) ∧ Within w3 wx))
  case first =>
    have h2 := HH.out
    refine wp_region_schG (fun W => SlAt W (some ad) (u8v l) ∧ W.heap.size = w3.heap.size ∧ Within w3 W) 14 (.firm 0 (.firm 1 (.firm 2 (.firm 3 (.firm 4 (.firm 5 (.firm 8 (.firm 9 (.two 6 (.firm 7 (.two 10 (.firm 11 (.firm 12 (.one 13 (.one 14 .nil)))) 13 (.one 10 (.firm 11 (.firm 12 (.one 14 .nil)))))) 13 (.one 6 (.firm 7 (.one 10 (.firm 11 (.firm 12 (.one 14 .nil))))))))))))))) (by kernel_rfl) (by kernel_rfl) ⟨HR.out.of ((Within.refl w).alloc _ |>.trans hb3), rfl, Within.refl _⟩ ?_
    rintro w0 ⟨hs0, hz1, hw0⟩
    try simp only [Act.put, List.setIfInBounds_toArray, List.set_cons_zero, List.set_cons_succ]
    iterate 8
      apply sch_firm rfl rfl (by repeat (first | with_reducible exact Within.refl _ | with_reducible assumption | with_reducible refine Within.alloc ?_ _ | with_reducible refine Within.drew ?_ | with_reducible refine Within.drewN ?_ _ | with_reducible refine Within.setCell ?_ (by first | (simp; done) | (simp; omega)) _ | with_reducible refine Within.trans ?_ (by assumption)))
      · intro wq hq
        have hcq := hq.cells
        have hcell := h2 _ (hs0.of hq)
        clear hq
        go_simp
        rfl
      try simp only [Act.put, List.setIfInBounds_toArray, List.set_cons_zero, List.set_cons_succ]
    refine sch_two rfl rfl rfl rfl (fun K hK => ?_) (fun K hK => ?_)
    · go_simp
      refine (GQ.out _ (by first | exact hs0 | exact hs0.of ((Within.refl _).drew) | exact hs0.of (((Within.refl _).drew).alloc _))).mono ?_; rintro e4 w4 ⟨rfl, rfl⟩
      refine hK _ _ (by repeat (first | with_reducible exact Within.refl _ | with_reducible assumption | with_reducible refine Within.alloc ?_ _ | with_reducible refine Within.drew ?_ | with_reducible refine Within.drewN ?_ _ | with_reducible refine Within.setCell ?_ (by first | (simp; done) | (simp; omega)) _ | with_reducible refine Within.trans ?_ (by assumption))) ?_
      clear hK K
      try simp only [Act.put, List.setIfInBounds_toArray, List.set_cons_zero, List.set_cons_succ]
      apply sch_firm rfl rfl (by repeat (first | with_reducible exact Within.refl _ | with_reducible assumption | with_reducible refine Within.alloc ?_ _ | with_reducible refine Within.drew ?_ | with_reducible refine Within.drewN ?_ _ | with_reducible refine Within.setCell ?_ (by first | (simp; done) | (simp; omega)) _ | with_reducible refine Within.trans ?_ (by assumption)))
      · intro wq hq
        have hcq := hq.cells
        have hcell := h2 _ (hs0.of hq)
        clear hq
        go_simp
        rfl
      try simp only [Act.put, List.setIfInBounds_toArray, List.set_cons_zero, List.set_cons_succ]
      refine sch_two rfl rfl rfl rfl (fun K hK => ?_) (fun K hK => ?_)
      · go_simp
        refine (GT4.out _ (by first | exact hs0 | exact hs0.of ((Within.refl _).drew) | exact hs0.of (((Within.refl _).drew).alloc _))).mono ?_; rintro e5 w5 ⟨rfl, rfl⟩
        refine hK _ _ (by repeat (first | with_reducible exact Within.refl _ | with_reducible assumption | with_reducible refine Within.alloc ?_ _ | with_reducible refine Within.drew ?_ | with_reducible refine Within.drewN ?_ _ | with_reducible refine Within.setCell ?_ (by first | (simp; done) | (simp; omega)) _ | with_reducible refine Within.trans ?_ (by assumption))) ?_
        clear hK K
        try simp only [Act.put, List.setIfInBounds_toArray, List.set_cons_zero, List.set_cons_succ]
        iterate 2
          apply sch_firm rfl rfl (by repeat (first | with_reducible exact Within.refl _ | with_reducible assumption | with_reducible refine Within.alloc ?_ _ | with_reducible refine Within.drew ?_ | with_reducible refine Within.drewN ?_ _ | with_reducible refine Within.setCell ?_ (by first | (simp; done) | (simp; omega)) _ | with_reducible refine Within.trans ?_ (by assumption)))
          · intro wq hq
            have hcq := hq.cells
            have hcell := h2 _ (hs0.of hq)
            clear hq
            go_simp
            rfl
          try simp only [Act.put, List.setIfInBounds_toArray, List.set_cons_zero, List.set_cons_succ]
        refine sch_one rfl rfl (fun K hK => ?_)
        go_simp
        refine hK _ _ (fun _ => (by repeat (first | with_reducible exact Within.refl _ | with_reducible assumption | with_reducible refine Within.alloc ?_ _ | with_reducible refine Within.drew ?_ | with_reducible refine Within.drewN ?_ _ | with_reducible refine Within.setCell ?_ (by first | (simp; done) | (simp; omega)) _ | with_reducible refine Within.trans ?_ (by assumption)))) ?_
        clear hK K
        try simp only [Act.put, List.setIfInBounds_toArray, List.set_cons_zero, List.set_cons_succ]
        refine sch_one rfl rfl (fun K hK => ?_)
        go_simp
        refine hK _ _ (fun h => absurd h (by decide)) ?_
        clear hK K
        try simp only [Act.put, List.setIfInBounds_toArray, List.set_cons_zero, List.set_cons_succ]
        refine sch_nil ?_
        go_wp2_with fail
        go_meet
        exact ⟨rfl, by go_simp, by go_simp, by go_simp, by go_simp, fun o => by go_simp, (by repeat (first | with_reducible exact Within.refl _ | with_reducible assumption | with_reducible refine Within.alloc ?_ _ | with_reducible refine Within.drew ?_ | with_reducible refine Within.drewN ?_ _ | with_reducible refine Within.setCell ?_ (by first | (simp; done) | (simp; omega)) _ | with_reducible refine Within.trans ?_ (by assumption)))⟩
      · go_simp
        refine hK _ _ (by repeat (first | with_reducible exact Within.refl _ | with_reducible assumption | with_reducible refine Within.alloc ?_ _ | with_reducible refine Within.drew ?_ | with_reducible refine Within.drewN ?_ _ | with_reducible refine Within.setCell ?_ (by first | (simp; done) | (simp; omega)) _ | with_reducible refine Within.trans ?_ (by assumption))) ?_
        clear hK K
        try simp only [Act.put, List.setIfInBounds_toArray, List.set_cons_zero, List.set_cons_succ]
        refine sch_one rfl rfl (fun K hK => ?_)
        go_simp
        refine (GT4.out _ (by first | exact hs0 | exact hs0.of ((Within.refl _).drew) | exact hs0.of (((Within.refl _).drew).alloc _))).mono ?_; rintro e5 w5 ⟨rfl, rfl⟩
        refine hK _ _ (fun _ => (by repeat (first | with_reducible exact Within.refl _ | with_reducible assumption | with_reducible refine Within.alloc ?_ _ | with_reducible refine Within.drew ?_ | with_reducible refine Within.drewN ?_ _ | with_reducible refine Within.setCell ?_ (by first | (simp; done) | (simp; omega)) _ | with_reducible refine Within.trans ?_ (by assumption)))) ?_
        clear hK K
        try simp only [Act.put, List.setIfInBounds_toArray, List.set_cons_zero, List.set_cons_succ]
        iterate 2
          apply sch_firm rfl rfl (by repeat (first | with_reducible exact Within.refl _ | with_reducible assumption | with_reducible refine Within.alloc ?_ _ | with_reducible refine Within.drew ?_ | with_reducible refine Within.drewN ?_ _ | with_reducible refine Within.setCell ?_ (by first | (simp; done) | (simp; omega)) _ | with_reducible refine Within.trans ?_ (by assumption)))
          · intro wq hq
            have hcq := hq.cells
            have hcell := h2 _ (hs0.of hq)
            clear hq
            go_simp
            rfl
          try simp only [Act.put, List.setIfInBounds_toArray, List.set_cons_zero, List.set_cons_succ]
        refine sch_one rfl rfl (fun K hK => ?_)
        go_simp
        refine hK _ _ (fun h => absurd h (by decide)) ?_
        clear hK K
        try simp only [Act.put, List.setIfInBounds_toArray, List.set_cons_zero, List.set_cons_succ]
        refine sch_nil ?_
        go_wp2_with fail
        go_meet
        exact ⟨rfl, by go_simp, by go_simp, by go_simp, by go_simp, fun o => by go_simp, (by repeat (first | with_reducible exact Within.refl _ | with_reducible assumption | with_reducible refine Within.alloc ?_ _ | with_reducible refine Within.drew ?_ | with_reducible refine Within.drewN ?_ _ | with_reducible refine Within.setCell ?_ (by first | (simp; done) | (simp; omega)) _ | with_reducible refine Within.trans ?_ (by assumption)))⟩
    · go_simp
      refine hK _ _ (by repeat (first | with_reducible exact Within.refl _ | with_reducible assumption | with_reducible refine Within.alloc ?_ _ | with_reducible refine Within.drew ?_ | with_reducible refine Within.drewN ?_ _ | with_reducible refine Within.setCell ?_ (by first | (simp; done) | (simp; omega)) _ | with_reducible refine Within.trans ?_ (by assumption))) ?_
      clear hK K
      try simp only [Act.put, List.setIfInBounds_toArray, List.set_cons_zero, List.set_cons_succ]
      refine sch_one rfl rfl (fun K hK => ?_)
      go_simp
      refine (GQ.out _ (by first | exact hs0 | exact hs0.of ((Within.refl _).drew) | exact hs0.of (((Within.refl _).drew).alloc _))).mono ?_; rintro e4 w4 ⟨rfl, rfl⟩
      refine hK _ _ (fun _ => (by repeat (first | with_reducible exact Within.refl _ | with_reducible assumption | with_reducible refine Within.alloc ?_ _ | with_reducible refine Within.drew ?_ | with_reducible refine Within.drewN ?_ _ | with_reducible refine Within.setCell ?_ (by first | (simp; done) | (simp; omega)) _ | with_reducible refine Within.trans ?_ (by assumption)))) ?_
      clear hK K
      try simp only [Act.put, List.setIfInBounds_toArray, List.set_cons_zero, List.set_cons_succ]
      apply sch_firm rfl rfl (by repeat (first | with_reducible exact Within.refl _ | with_reducible assumption | with_reducible refine Within.alloc ?_ _ | with_reducible refine Within.drew ?_ | with_reducible refine Within.drewN ?_ _ | with_reducible refine Within.setCell ?_ (by first | (simp; done) | (simp; omega)) _ | with_reducible refine Within.trans ?_ (by assumption)))
      · intro wq hq
        have hcq := hq.cells
        have hcell := h2 _ (hs0.of hq)
        clear hq
        go_simp
        rfl
      try simp only [Act.put, List.setIfInBounds_toArray, List.set_cons_zero, List.set_cons_succ]
      refine sch_one rfl rfl (fun K hK => ?_)
      go_simp
      refine (GT4.out _ (by first | exact hs0 | exact hs0.of ((Within.refl _).drew) | exact hs0.of (((Within.refl _).drew).alloc _))).mono ?_; rintro e5 w5 ⟨rfl, rfl⟩
      refine hK _ _ (fun _ => (by repeat (first | with_reducible exact Within.refl _ | with_reducible assumption | with_reducible refine Within.alloc ?_ _ | with_reducible refine Within.drew ?_ | with_reducible refine Within.drewN ?_ _ | with_reducible refine Within.setCell ?_ (by first | (simp; done) | (simp; omega)) _ | with_reducible refine Within.trans ?_ (by assumption)))) ?_
      clear hK K
      try simp only [Act.put, List.setIfInBounds_toArray, List.set_cons_zero, List.set_cons_succ]
      iterate 2
        apply sch_firm rfl rfl (by repeat (first | with_reducible exact Within.refl _ | with_reducible assumption | with_reducible refine Within.alloc ?_ _ | with_reducible refine Within.drew ?_ | with_reducible refine Within.drewN ?_ _ | with_reducible refine Within.setCell ?_ (by first | (simp; done) | (simp; omega)) _ | with_reducible refine Within.trans ?_ (by assumption)))
        · intro wq hq
          have hcq := hq.cells
          have hcell := h2 _ (hs0.of hq)
          clear hq
          go_simp
          rfl
        try simp only [Act.put, List.setIfInBounds_toArray, List.set_cons_zero, List.set_cons_succ]
      refine sch_one rfl rfl (fun K hK => ?_)
      go_simp
      refine hK _ _ (fun h => absurd h (by decide)) ?_
      clear hK K
      try simp only [Act.put, List.setIfInBounds_toArray, List.set_cons_zero, List.set_cons_succ]
      refine sch_nil ?_
      go_wp2_with fail
      go_meet
      exact ⟨rfl, by go_simp, by go_simp, by go_simp, by go_simp, fun o => by go_simp, (by repeat (first | with_reducible exact Within.refl _ | with_reducible assumption | with_reducible refine Within.alloc ?_ _ | with_reducible refine Within.drew ?_ | with_reducible refine Within.drewN ?_ _ | with_reducible refine Within.setCell ?_ (by first | (simp; done) | (simp; omega)) _ | with_reducible refine Within.trans ?_ (by assumption)))⟩
  case rest =>
    obtain ⟨rfl, r0, r1, r2, r3, rf, hw6⟩ := hcut
    have hsl3 : SlAt w3 (some ad) (u8v l) := HR.out.of ((Within.refl w).alloc _ |>.trans hb3)
    have k3 := HH3.out _ (hsl3.of hw6)
    go_wp2
    go_loopw [7] (fun vv wr => RunRel w3 d true n S q t vv wr) (fun vv _ => upTo m vv)
    case atStart => exact ⟨0, 12, [], .slice none 0 0, Nat.zero_le _, rfl, rfl, rfl, (fun x hx => by cases hx), OwnF.nil_ _ _, r0, r1, r2, r3, rf, hw6⟩
    case round =>
      obtain ⟨k, a, vs, sl, hk, rfl, ha, hvs, hwv, hown, p0, p1, p2, p3, pf', hin⟩ := hrel
      have HVS := Lib.hid hvs; have HWV := Lib.hid hwv; clear hvs hwv
      have hvl : vs.length = k := by have := congrArg List.length HVS.out; rwa [List.length_map, List.length_map, rdVals_len] at this
      have hRz : w3.heap.size < wr.heap.size := World.block_lt_of_cell? wr _ p0
      obtain ⟨As, cs, rfl, _, hsat, _⟩ := hown.form
      have HOW := Lib.hid hown; have HVL := Lib.hid hvl; clear hown hvl
      by_cases hlt : k < n
      · have ha12 : a = 12 + 8 * k := by rw [ha]; rfl
        have hmn' := HMN.out
        have dm : decide ((a : Int) < (m : Int)) = true := decide_eq_true (by omega)
        have dn : a < m := by simpa using of_decide_eq_true dm
        have a8 : IntKind.i64.wrap ((a : Int) + 8) = (a : Int) + 8 := by rw [IntKind.wrap_i64]; omega
        have ac : a + 8 ≤ c := by omega
        have aci : (a : Int) + 8 ≤ (c : Int) := by omega
        have aa : (a : Int) ≤ (a : Int) + 8 := by omega
        have ca : ¬ c = a := by omega
        have al : a ≤ c := by omega
        have am : (a : Int) + 8 ≤ (m : Int) + 4 := by omega
        have ai0 : (0 : Int) ≤ (a : Int) := by omega
        have ai8 : (0 : Int) ≤ (a : Int) + 8 := by omega
        obtain ⟨X, hX⟩ : ∃ X, X = leVal ((l.drop a).take 8) := ⟨_, rfl⟩
        have hsl3' : SlAt wr (some ad) (u8v l) := hsl3.of hin
        have GV : Calls Tryd.prog 65 #[.slice (some (ad.add a)) 8 (c - a)] wr fun e w' => e = .returned (.int .u64 (X : Int)) ∧ wr = w' := by
          rw [hX]; exact Rtake_at ad c a 8 l HBL.out (by decide) (by rw [HLL.out]; omega) _ wr hsl3'
        have HGV := Lib.hid GV; clear GV
        have hX2 : X < 2 ^ 64 := by rw [hX]; have := leVal_lt ((HBL.out.drop a).take 8); rwa [show ((l.drop a).take 8).length = 8 by rw [List.length_take, List.length_drop, HLL.out]; omega] at this
        have hXd : X = leVal ((d.drop (stp true * k)).take 8) := by
          rw [hX, HD.out, List.drop_take, List.drop_drop, List.take_take, ha]
          rw [Nat.min_eq_left (by show 8 ≤ 8 * n - 8 * k; omega)]
        obtain ⟨v1, w1, hrun, hown1, hbl2⟩ := run_app_float wr (w3.heap.size + 1) _ vs X HOW.out (by have := HVL.out; omega) hRz
        have hbl1 : Below (w3.heap.size + 1) wr w1 := hbl2
        obtain ⟨A1, c1, hv1, _⟩ := hown1.form
        obtain ⟨N1, hN1⟩ : ∃ N1, N1 = (vs ++ [X]).length := ⟨_, rfl⟩
        rw [← hN1] at hv1
        subst hv1
        have RUN := Lib.hid hrun; clear hrun
        have g0 : w1.cell? ⟨w3.heap.size, 0, none⟩ = some (.int .i64 (S : Int)) := (hbl1.cell (p := ⟨w3.heap.size, 0, none⟩) (Nat.lt_succ_self _)).trans p0
        have g1 : w1.cell? ⟨w3.heap.size, 1, none⟩ = some (.int .u32 (q : Int)) := (hbl1.cell (p := ⟨w3.heap.size, 1, none⟩) (Nat.lt_succ_self _)).trans p1
        have g2 : w1.cell? ⟨w3.heap.size, 2, none⟩ = some (.int .u32 (t : Int)) := (hbl1.cell (p := ⟨w3.heap.size, 2, none⟩) (Nat.lt_succ_self _)).trans p2
        have g3 : w1.cell? ⟨w3.heap.size, 3, none⟩ = some (.slice As vs.length cs) := (hbl1.cell (p := ⟨w3.heap.size, 3, none⟩) (Nat.lt_succ_self _)).trans p3
        have gf : ∀ o, w1.frozen? ⟨w3.heap.size, o, none⟩ = false := fun o => (hbl1.frozen (p := ⟨w3.heap.size, o, none⟩) (Nat.lt_succ_self _)).trans (pf' o)
        have HA := Lib.hid ha12; have HX2 := Lib.hid hX2; have HXD := Lib.hid hXd; have HN1 := Lib.hid hN1; have HN1 := Lib.hid hN1; clear ha ha12 hX2 hXd hX hmn' hN1
        go_wp2_with fail
        refine HGV.out.mono ?_; rintro e5 w5 ⟨rfl, rfl⟩
        go_wp2_with (at_builtin; refine wpList_append_run rfl (.tmp 83) (.tmp 85) 65 rfl _ _ rfl rfl RUN.out ?_)
        go_roundw
        case rel =>
          have hN1 := HN1.out; rw [List.length_append, List.length_singleton] at hN1; subst hN1
          have hXc : canonD X = canonD (if true = true then leVal ((d.drop (stp true * k)).take 8) else pf.wb (leVal ((d.drop (stp true * k)).take 4))) := by rw [if_pos rfl, ← HXD.out]
          have hst := RunRel.step (a := a + 8) hlt (by rw [HA.out]; show 12 + 8 * k + 8 = 12 + 8 * (k + 1); omega) HVS.out hXc (by have := HX2.out; omega) HWV.out hown1 g0 g1 g2 (by rw [g3]; rfl) gf (show Within w3 w1 from Below.trans hin (hbl1.mono (Nat.le_succ _)))
          simpa using hst
        case measure =>
          have := of_decide_eq_true dm; simp only [upTo]; omega
      · have hkn : k = n := by omega
        subst hkn
        have HA := Lib.hid ha; clear ha
        have dm : decide ((a : Int) < (m : Int)) = false := decide_eq_false (by have := HA.out; have := HMN.out; simp only [stp, if_true] at *; omega)
        have dn : ¬ a < m := by simpa using of_decide_eq_false dm
        have dk : m ≤ a := by omega
        have hfe : vs.all finD = fb := (map_all (fun _ _ h => finD_same h) HVS.out).trans HFB.out
        have hse : vs.all isSD = sb := (map_all (fun _ _ h => isSD_same h) HVS.out).trans HSB.out
        have hWw : Within w wr := (((Within.refl w).alloc _).trans hb3).trans hin
        have FN := RallFinite_any As cs vs HWV.out (by have := HVL.out; omega) wr hsat
        rw [hfe] at FN
        have SGL : Hid (∀ wx, Within wr wx → Calls Tryd.prog 54 #[.slice As vs.length cs] wx fun e w' => e = .returned (.bool sb) ∧ Within wx w') := Lib.hid (fun wx hx => by
          have := Rsingles_any As cs vs HWV.out (by have := HVL.out; omega) wx (hsat.of hx)
          rwa [hse] at this)
        have HFN := Lib.hid FN; clear FN
        have hqz3 : w.heap.size < w3.heap.size + 1 := Nat.lt_succ_of_lt qz
        have qzr : w.heap.size < wr.heap.size := Nat.lt_of_lt_of_le qz hin.size
        have qr0 : wr.cell? ⟨w.heap.size, 0, none⟩ = some (.int .i64 0) := (hin.cells _ _ qz).trans q0
        have qr1 : wr.cell? ⟨w.heap.size, 1, none⟩ = some (.int .u32 0) := (hin.cells _ _ qz).trans q1
        have qr2 : wr.cell? ⟨w.heap.size, 2, none⟩ = some (.int .u32 0) := (hin.cells _ _ qz).trans q2
        have qr3 : wr.cell? ⟨w.heap.size, 3, none⟩ = some (.slice none 0 0) := (hin.cells _ _ qz).trans q3
        have qrf : ∀ o, wr.frozen? ⟨w.heap.size, o, none⟩ = false := fun o => (hin.frozens _ _ qz).trans (qf o)
        have HFE := Lib.hid hfe; clear hfe hse
        go_wp2_with fail
        refine HFN.out.mono ?_; rintro e5 w5 ⟨rfl, hw5⟩
        have p50 : w5.cell? ⟨w3.heap.size, 0, none⟩ = some (.int .i64 (S : Int)) := (hw5.cells _ _ hRz).trans p0
        have p51 : w5.cell? ⟨w3.heap.size, 1, none⟩ = some (.int .u32 (q : Int)) := (hw5.cells _ _ hRz).trans p1
        have p52 : w5.cell? ⟨w3.heap.size, 2, none⟩ = some (.int .u32 (t : Int)) := (hw5.cells _ _ hRz).trans p2
        have p53 : w5.cell? ⟨w3.heap.size, 3, none⟩ = some (.slice As vs.length cs) := (hw5.cells _ _ hRz).trans p3
        have z50 : w5.cell? ⟨w.heap.size, 0, none⟩ = some (.int .i64 0) := (hw5.cells _ _ qzr).trans qr0
        have z51 : w5.cell? ⟨w.heap.size, 1, none⟩ = some (.int .u32 0) := (hw5.cells _ _ qzr).trans qr1
        have z52 : w5.cell? ⟨w.heap.size, 2, none⟩ = some (.int .u32 0) := (hw5.cells _ _ qzr).trans qr2
        have z53 : w5.cell? ⟨w.heap.size, 3, none⟩ = some (.slice none 0 0) := (hw5.cells _ _ qzr).trans qr3
        have z5f : ∀ o, w5.frozen? ⟨w.heap.size, o, none⟩ = false := fun o => (hw5.frozens _ _ qzr).trans (qrf o)
        have hRz5 : w3.heap.size < w5.heap.size := Nat.lt_of_lt_of_le hRz hw5.size
        have qz5 : w.heap.size < w5.heap.size := Nat.lt_of_lt_of_le qzr hw5.size
        have hW5 : Within w w5 := hWw.trans hw5
        cases fb
        · go_wp2
          have E := HER.out; have R := HRD.out
          simp at E; subst E; simp at R; subst R
          refine bodyPost_ret (v := .tuple #[.agg #[.int .i64 0, .int .u32 0, .int .u32 0, .slice none 0 0], .int .i64 211]) (by simp [results, Tryd.results50, go_sem, z50, z51, z52, z53]) rfl ⟨_, rfl, OwnF.nil_ _ _, (by repeat (first | with_reducible exact hW5 | with_reducible refine Within.setCell ?_ (Nat.le_refl _) _))⟩
        · go_wp2_with fail
          refine (SGL.out _ hw5).mono ?_; rintro e6 w6 ⟨rfl, hw6⟩
          have p60 : w6.cell? ⟨w3.heap.size, 0, none⟩ = some (.int .i64 (S : Int)) := (hw6.cells _ _ hRz5).trans p50
          have p61 : w6.cell? ⟨w3.heap.size, 1, none⟩ = some (.int .u32 (q : Int)) := (hw6.cells _ _ hRz5).trans p51
          have p62 : w6.cell? ⟨w3.heap.size, 2, none⟩ = some (.int .u32 (t : Int)) := (hw6.cells _ _ hRz5).trans p52
          have p63 : w6.cell? ⟨w3.heap.size, 3, none⟩ = some (.slice As vs.length cs) := (hw6.cells _ _ hRz5).trans p53
          have z60 : w6.cell? ⟨w.heap.size, 0, none⟩ = some (.int .i64 0) := (hw6.cells _ _ qz5).trans z50
          have z61 : w6.cell? ⟨w.heap.size, 1, none⟩ = some (.int .u32 0) := (hw6.cells _ _ qz5).trans z51
          have z62 : w6.cell? ⟨w.heap.size, 2, none⟩ = some (.int .u32 0) := (hw6.cells _ _ qz5).trans z52
          have z63 : w6.cell? ⟨w.heap.size, 3, none⟩ = some (.slice none 0 0) := (hw6.cells _ _ qz5).trans z53
          have z6f : ∀ o, w6.frozen? ⟨w.heap.size, o, none⟩ = false := fun o => (hw6.frozens _ _ qz5).trans (z5f o)
          have qz6 : w.heap.size < w6.heap.size := Nat.lt_of_lt_of_le qz5 hw6.size
          have hW6 : Within w w6 := hW5.trans hw6
          have HOW6 := Lib.hid ((HOW.out.of hw5).of hw6)
          cases sb
          · go_wp2
            have E := HER.out; have R := HRD.out
            simp at E; subst E; simp at R; subst R
            refine bodyPost_ret (v := .tuple #[.agg #[.int .i64 (S : Int), .int .u32 (q : Int), .int .u32 (t : Int), .slice As vs.length cs], .int .i64 0]) (by simp [results, Tryd.results50, go_sem, z60, z61, z62, z63]) rfl ⟨_, rfl, ?_, (by repeat (first | with_reducible exact hW6 | with_reducible refine Within.setCell ?_ (Nat.le_refl _) _))⟩
            have hvv : vs = rdVals pf true k d := map_fin HVS.out HFE.out HFB.out
            rw [show (Rd.mk S q t (rdVals pf true k d)).vals = vs from hvv.symm]
            refine OwnF.less (base := w3.heap.size + 1) ?_ (Nat.le_of_lt hqz3)
            repeat (first | with_reducible exact HOW6.out | with_reducible refine OwnF.set ?_ hqz3 _)
          · go_wp2
            have E := HER.out; have R := HRD.out
            simp at E; subst E; simp at R; subst R
            refine bodyPost_ret (v := .tuple #[.agg #[.int .i64 0, .int .u32 0, .int .u32 0, .slice none 0 0], .int .i64 211]) (by simp [results, Tryd.results50, go_sem, z60, z61, z62, z63]) rfl ⟨_, rfl, OwnF.nil_ _ _, (by repeat (first | with_reducible exact hW6 | with_reducible refine Within.setCell ?_ (Nat.le_refl _) _))⟩

end Go.Proofs.YtpmjlaiafgbjgaaDoor
end

section
namespace Go.Proofs.YtpmjlaiafgbjgaaDoor
open Go.RowKit

set_option maxRecDepth 100000 in
set_option maxHeartbeats 1000000 in
theorem Runpack_near (ad : Addr) (c m K : Nat) (l : List Nat) (hm : 12 ≤ m ∧ m ≤ 60) (hc : m + 4 ≤ c) (RH : Hid (∀ w, SlAt w (some ad) (u8v l) → Calls Tryd.prog 74 #[.slice (some ad) (m + 4) c] w fun e w' => e = .returned (.bool true) ∧ w = w')) (RS : Hid (∀ w, Calls Tryd.prog 75 #[.int .u8 (K : Int)] w fun e w' => e = .returned (.int .i64 ((m + 4 : Nat) : Int)) ∧ w = w')) (h3 : ∀ w, SlAt w (some ad) (u8v l) → w.cell? ⟨ad.block, ad.off + 3, none⟩ = some (.int .u8 (K : Int))) (G C : Nat) (hC : C < 4294967296) (GT : Hid (∀ w, SlAt w (some ad) (u8v l) → Calls Tryd.prog 65 #[.slice (some (ad.add m)) 4 (c - m)] w fun e w' => e = .returned (.int .u64 (G : Int)) ∧ w = w')) (SM : Hid (∀ w, SlAt w (some ad) (u8v l) → Calls Tryd.prog 58 #[.slice (some ad) m c] w fun e w' => e = .returned (.int .u32 (C : Int)) ∧ w = w')) (S q t : Nat) (hS : S < 256) (hq : q < 4294967296) (ht : t < 4294967296) (GQ : Hid (∀ w, SlAt w (some ad) (u8v l) → Calls Tryd.prog 65 #[.slice (some ⟨ad.block, ad.off + 4, none⟩) 4 (c - 4)] w fun e w' => e = .returned (.int .u64 (q : Int)) ∧ w = w')) (GT4 : Hid (∀ w, SlAt w (some ad) (u8v l) → Calls Tryd.prog 65 #[.slice (some ⟨ad.block, ad.off + 8, none⟩) 4 (c - 8)] w fun e w' => e = .returned (.int .u64 (t : Int)) ∧ w = w')) (h2 : ∀ w, SlAt w (some ad) (u8v l) → w.cell? ⟨ad.block, ad.off + 2, none⟩ = some (.int .u8 (S : Int))) (n : Nat) (hn : n ≤ 6) (hmn : m = 12 + 4 * n) (hK : decide (128 ≤ (K : Int)) = false) (d : List Nat) (hd : d = (l.drop 12).take (4 * n)) (hbd : Bytes d) (hdl : d.length = 4 * n) (hbl : Bytes l) (hll : l.length = m + 4) (fb sb : Bool) (hfb : (rdVals pf false n d).all finD = fb) (hsb : (rdVals pf false n d).all isSD = sb) (er : Int) (her : er = if fb = false ∨ false = sb then 211 else 0) (rd : Rd) (hrd : rd = if er = 0 then ⟨S, q, t, rdVals pf false n d⟩ else noRd) (hs : ((C : Int) != (G : Int)) = false) (w : World) (hr : SlAt w (some ad) (u8v l)) : Calls Tryd.prog 50 #[.slice (some ad) (m + 4) c] w (RetR w rd er) := by
  have HFB := Lib.hid hfb; have HSB := Lib.hid hsb; have HER := Lib.hid her; have HBD := Lib.hid hbd; have HDL := Lib.hid hdl; have HD := Lib.hid hd; have HRD := Lib.hid hrd; have HBL := Lib.hid hbl; have HLL := Lib.hid hll; clear hrd hfb hsb her hbd hdl hd hbl hll
  have HR := Lib.hid hr; clear hr
  have HH3 := Lib.hid h3; clear h3
  obtain ⟨m1, m2⟩ := hm
  have hn0 : (((m + 4 : Nat) : Int) != ((m + 4 : Nat) : Int)) = false := by rw [bne_eq_false_iff_eq]
  have hn1 : ((m : Int) + 4 != (m : Int) + 4) = false := by rw [bne_eq_false_iff_eq]
  have d4 : decide ((m : Int) + 4 < 4) = false := decide_eq_false (by omega)
  have l3 : (3 : Int) < (m : Int) + 4 := by omega
  have w4 : IntKind.i64.wrap (m : Int) = (m : Int) := by rw [IntKind.wrap_i64]; omega
  have hcm : ¬ c = m := by omega
  have hle : (m : Int) ≤ (m : Int) + 4 := by omega
  have hmc : m ≤ c := by omega
  have gC : IntKind.u64.wrap (C : Int) = (C : Int) := by rw [IntKind.wrap_u64]; omega
  clear hC
  have w32q : IntKind.u32.wrap (q : Int) = (q : Int) := by rw [IntKind.wrap_u32]; omega
  have w32t : IntKind.u32.wrap (t : Int) = (t : Int) := by rw [IntKind.wrap_u32]; omega
  have wS : IntKind.i64.wrap (S : Int) = (S : Int) := by rw [IntKind.wrap_i64]; omega
  have hc4 : ¬ c = 4 := by omega
  have hc8 : ¬ c = 8 := by omega
  have hc12 : ¬ c = 12 := by omega
  have l8 : (8 : Int) ≤ (c : Int) := by omega
  have l12 : (12 : Int) ≤ (c : Int) := by omega
  have l2 : (2 : Int) < (m : Int) + 4 := by omega
  have l12m : (12 : Int) ≤ (m : Int) := by omega
  have HH := Lib.hid h2; have HMN := Lib.hid hmn; clear h2 hmn
  have HS := Lib.hid (And.intro hS (And.intro hq ht)); clear hS hq ht
  go_enter Tryd.func50, Tryd.ntmps50
  go_wp2_with fail
  have hw1 := HR.out.of ((Within.refl w).alloc (.cells #[.int .i64 0, .int .u32 0, .int .u32 0, .slice none 0 0] 67))
  have k3 := HH3.out _ hw1
  refine (RH.out _ hw1).mono ?_; rintro e1 w1 ⟨rfl, rfl⟩
  go_wp2_with fail
  refine (RS.out _).mono ?_; rintro e2 w2 ⟨rfl, rfl⟩
  clear k3
  go_wp2
  refine wp_region_within (by kernel_rfl) (by kernel_rfl) ?_
  repeat
    apply wpq_step rfl
    · intro wq hCq
      have hsl := HR.out.of ((((Within.refl w).alloc _).trans hCq))
      go_simp
      first | rfl | exact hCq.same (GT.out _ hsl) | exact hCq.same (SM.out _ hsl) | (trace_state; fail)
    try simp only [Act.put, List.setIfInBounds_toArray, List.set_cons_zero, List.set_cons_succ]
  refine wpQuiet_nil ?_
  intro w3 hb3
  have q0 : w3.cell? ⟨w.heap.size, 0, none⟩ = some (.int .i64 0) := (hb3.cells _ _ (by simp)).trans (by simp)
  have q1 : w3.cell? ⟨w.heap.size, 1, none⟩ = some (.int .u32 0) := (hb3.cells _ _ (by simp)).trans (by simp)
  have q2 : w3.cell? ⟨w.heap.size, 2, none⟩ = some (.int .u32 0) := (hb3.cells _ _ (by simp)).trans (by simp)
  have q3 : w3.cell? ⟨w.heap.size, 3, none⟩ = some (.slice none 0 0) := (hb3.cells _ _ (by simp)).trans (by simp)
  have qf : ∀ o, w3.frozen? ⟨w.heap.size, o, none⟩ = false := fun o => (hb3.frozens _ _ (by simp)).trans (by simp)
  have qz : w.heap.size < w3.heap.size := World.block_lt_of_cell? _ _ q0
  go_upto_region 6 with fail
  go_cut [5] (fun s5 wx => s5 = .pointer (some ⟨w3.heap.size, 0, none⟩) ∧ (wx.cell? ⟨w3.heap.size, 0, none⟩ = some (.int .i64 (S : Int)) ∧ wx.cell? ⟨w3.heap.size, 1, none⟩ = some (.int .u32 (q : Int)) ∧ wx.cell? ⟨w3.heap.size, 2, none⟩ = some (.int .u32 (t : Int)) ∧ wx.cell? ⟨w3.heap.size, 3, none⟩ = some (.slice none 0 0) ∧ (∀ o, wx.frozen? ⟨w3.heap.size, o, none⟩ = false) ∧ Within w3 wx))
  case first =>
    have h2 := HH.out
    refine wp_region_schG (fun W => SlAt W (some ad) (u8v l) ∧ W.heap.size = w3.heap.size ∧ Within w3 W) 14 (.firm 0 (.firm 1 (.firm 2 (.firm 3 (.firm 4 (.firm 5 (.firm 8 (.firm 9 (.two 6 (.firm 7 (.two 10 (.firm 11 (.firm 12 (.one 13 (.one 14 .nil)))) 13 (.one 10 (.firm 11 (.firm 12 (.one 14 .nil)))))) 13 (.one 6 (.firm 7 (.one 10 (.firm 11 (.firm 12 (.one 14 .nil))))))))))))))) (by kernel_rfl) (by kernel_rfl) ⟨HR.out.of ((Within.refl w).alloc _ |>.trans hb3), rfl, Within.refl _⟩ ?_
    rintro w0 ⟨hs0, hz1, hw0⟩
    try simp only [Act.put, List.setIfInBounds_toArray, List.set_cons_zero, List.set_cons_succ]
    iterate 8
      apply sch_firm rfl rfl (by repeat (first | with_reducible exact Within.refl _ | with_reducible assumption | with_reducible refine Within.alloc ?_ _ | with_reducible refine Within.drew ?_ | with_reducible refine Within.drewN ?_ _ | with_reducible refine Within.setCell ?_ (by first | (simp; done) | (simp; omega)) _ | with_reducible refine Within.trans ?_ (by assumption)))
      · intro wq hq
        have hcq := hq.cells
        have hcell := h2 _ (hs0.of hq)
        clear hq
        go_simp
        rfl
      try simp only [Act.put, List.setIfInBounds_toArray, List.set_cons_zero, List.set_cons_succ]
    refine sch_two rfl rfl rfl rfl (fun K hK => ?_) (fun K hK => ?_)
    · go_simp
      refine (GQ.out _ (by first | exact hs0 | exact hs0.of ((Within.refl _).drew) | exact hs0.of (((Within.refl _).drew).alloc _))).mono ?_; rintro e4 w4 ⟨rfl, rfl⟩
      refine hK _ _ (by repeat (first | with_reducible exact Within.refl _ | with_reducible assumption | with_reducible refine Within.alloc ?_ _ | with_reducible refine Within.drew ?_ | with_reducible refine Within.drewN ?_ _ | with_reducible refine Within.setCell ?_ (by first | (simp; done) | (simp; omega)) _ | with_reducible refine Within.trans ?_ (by assumption))) ?_
      clear hK K
      try simp only [Act.put, List.setIfInBounds_toArray, List.set_cons_zero, List.set_cons_succ]
      apply sch_firm rfl rfl (by repeat (first | with_reducible exact Within.refl _ | with_reducible assumption | with_reducible refine Within.alloc ?_ _ | with_reducible refine Within.drew ?_ | with_reducible refine Within.drewN ?_ _ | with_reducible refine Within.setCell ?_ (by first | (simp; done) | (simp; omega)) _ | with_reducible refine Within.trans ?_ (by assumption)))
      · intro wq hq
        have hcq := hq.cells
        have hcell := h2 _ (hs0.of hq)
        clear hq
        go_simp
        rfl
      try simp only [Act.put, List.setIfInBounds_toArray, List.set_cons_zero, List.set_cons_succ]
      refine sch_two rfl rfl rfl rfl (fun K hK => ?_) (fun K hK => ?_)
      · go_simp
        refine (GT4.out _ (by first | exact hs0 | exact hs0.of ((Within.refl _).drew) | exact hs0.of (((Within.refl _).drew).alloc _))).mono ?_; rintro e5 w5 ⟨rfl, rfl⟩
        refine hK _ _ (by repeat (first | with_reducible exact Within.refl _ | with_reducible assumption | with_reducible refine Within.alloc ?_ _ | with_reducible refine Within.drew ?_ | with_reducible refine Within.drewN ?_ _ | with_reducible refine Within.setCell ?_ (by first | (simp; done) | (simp; omega)) _ | with_reducible refine Within.trans ?_ (by assumption))) ?_
        clear hK K
        try simp only [Act.put, List.setIfInBounds_toArray, List.set_cons_zero, List.set_cons_succ]
        iterate 2
          apply sch_firm rfl rfl (by repeat (first | with_reducible exact Within.refl _ | with_reducible assumption | with_reducible refine Within.alloc ?_ _ | with_reducible refine Within.drew ?_ | with_reducible refine Within.drewN ?_ _ | with_reducible refine Within.setCell ?_ (by first | (simp; done) | (simp; omega)) _ | with_reducible refine Within.trans ?_ (by assumption)))
          · intro wq hq
            have hcq := hq.cells
            have hcell := h2 _ (hs0.of hq)
            clear hq
            go_simp
            rfl
          try simp only [Act.put, List.setIfInBounds_toArray, List.set_cons_zero, List.set_cons_succ]
        refine sch_one rfl rfl (fun K hK => ?_)
        go_simp
        refine hK _ _ (fun _ => (by repeat (first | with_reducible exact Within.refl _ | with_reducible assumption | with_reducible refine Within.alloc ?_ _ | with_reducible refine Within.drew ?_ | with_reducible refine Within.drewN ?_ _ | with_reducible refine Within.setCell ?_ (by first | (simp; done) | (simp; omega)) _ | with_reducible refine Within.trans ?_ (by assumption)))) ?_
        clear hK K
        try simp only [Act.put, List.setIfInBounds_toArray, List.set_cons_zero, List.set_cons_succ]
        refine sch_one rfl rfl (fun K hK => ?_)
        go_simp
        refine hK _ _ (fun h => absurd h (by decide)) ?_
        clear hK K
        try simp only [Act.put, List.setIfInBounds_toArray, List.set_cons_zero, List.set_cons_succ]
        refine sch_nil ?_
        go_wp2_with fail
        go_meet
        exact ⟨rfl, by go_simp, by go_simp, by go_simp, by go_simp, fun o => by go_simp, (by repeat (first | with_reducible exact Within.refl _ | with_reducible assumption | with_reducible refine Within.alloc ?_ _ | with_reducible refine Within.drew ?_ | with_reducible refine Within.drewN ?_ _ | with_reducible refine Within.setCell ?_ (by first | (simp; done) | (simp; omega)) _ | with_reducible refine Within.trans ?_ (by assumption)))⟩
      · go_simp
        refine hK _ _ (by repeat (first | with_reducible exact Within.refl _ | with_reducible assumption | with_reducible refine Within.alloc ?_ _ | with_reducible refine Within.drew ?_ | with_reducible refine Within.drewN ?_ _ | with_reducible refine Within.setCell ?_ (by first | (simp; done) | (simp; omega)) _ | with_reducible refine Within.trans ?_ (by assumption))) ?_
        clear hK K
        try simp only [Act.put, List.setIfInBounds_toArray, List.set_cons_zero, List.set_cons_succ]
        refine sch_one rfl rfl (fun K hK => ?_)
        go_simp
        refine (GT4.out _ (by first | exact hs0 | exact hs0.of ((Within.refl _).drew) | exact hs0.of (((Within.refl _).drew).alloc _))).mono ?_; rintro e5 w5 ⟨rfl, rfl⟩
        refine hK _ _ (fun _ => (by repeat (first | with_reducible exact Within.refl _ | with_reducible assumption | with_reducible refine Within.alloc ?_ _ | with_reducible refine Within.drew ?_ | with_reducible refine Within.drewN ?_ _ | with_reducible refine Within.setCell ?_ (by first | (simp; done) | (simp; omega)) _ | with_reducible refine Within.trans ?_ (by assumption)))) ?_
        clear hK K
        try simp only [Act.put, List.setIfInBounds_toArray, List.set_cons_zero, List.set_cons_succ]
        iterate 2
          apply sch_firm rfl rfl (by repeat (first | with_reducible exact Within.refl _ | with_reducible assumption | with_reducible refine Within.alloc ?_ _ | with_reducible refine Within.drew ?_ | with_reducible refine Within.drewN ?_ _ | with_reducible refine Within.setCell ?_ (by first | (simp; done) | (simp; omega)) _ | with_reducible refine Within.trans ?_ (by assumption)))
          · intro wq hq
            have hcq := hq.cells
            have hcell := h2 _ (hs0.of hq)
            clear hq
            go_simp
            rfl
          try simp only [Act.put, List.setIfInBounds_toArray, List.set_cons_zero, List.set_cons_succ]
        refine sch_one rfl rfl (fun K hK => ?_)
        go_simp
        refine hK _ _ (fun h => absurd h (by decide)) ?_
        clear hK K
        try simp only [Act.put, List.setIfInBounds_toArray, List.set_cons_zero, List.set_cons_succ]
        refine sch_nil ?_
        go_wp2_with fail
        go_meet
        exact ⟨rfl, by go_simp, by go_simp, by go_simp, by go_simp, fun o => by go_simp, (by repeat (first | with_reducible exact Within.refl _ | with_reducible assumption | with_reducible refine Within.alloc ?_ _ | with_reducible refine Within.drew ?_ | with_reducible refine Within.drewN ?_ _ | with_reducible refine Within.setCell ?_ (by first | (simp; done) | (simp; omega)) _ | with_reducible refine Within.trans ?_ (by assumption)))⟩
    · go_simp
      refine hK _ _ (by repeat (first | with_reducible exact Within.refl _ | with_reducible assumption | with_reducible refine Within.alloc ?_ _ | with_reducible refine Within.drew ?_ | with_reducible refine Within.drewN ?_ _ | with_reducible refine Within.setCell ?_ (by first | (simp; done) | (simp; omega)) _ | with_reducible refine Within.trans ?_ (by assumption))) ?_
      clear hK K
      try simp only [Act.put, List.setIfInBounds_toArray, List.set_cons_zero, List.set_cons_succ]
      refine sch_one rfl rfl (fun K hK => ?_)
      go_simp
      refine (GQ.out _ (by first | exact hs0 | exact hs0.of ((Within.refl _).drew) | exact hs0.of (((Within.refl _).drew).alloc _))).mono ?_; rintro e4 w4 ⟨rfl, rfl⟩
      refine hK _ _ (fun _ => (by repeat (first | with_reducible exact Within.refl _ | with_reducible assumption | with_reducible refine Within.alloc ?_ _ | with_reducible refine Within.drew ?_ | with_reducible refine Within.drewN ?_ _ | with_reducible refine Within.setCell ?_ (by first | (simp; done) | (simp; omega)) _ | with_reducible refine Within.trans ?_ (by assumption)))) ?_
      clear hK K
      try simp only [Act.put, List.setIfInBounds_toArray, List.set_cons_zero, List.set_cons_succ]
      apply sch_firm rfl rfl (by repeat (first | with_reducible exact Within.refl _ | with_reducible assumption | with_reducible refine Within.alloc ?_ _ | with_reducible refine Within.drew ?_ | with_reducible refine Within.drewN ?_ _ | with_reducible refine Within.setCell ?_ (by first | (simp; done) | (simp; omega)) _ | with_reducible refine Within.trans ?_ (by assumption)))
      · intro wq hq
        have hcq := hq.cells
        have hcell := h2 _ (hs0.of hq)
        clear hq
        go_simp
        rfl
      try simp only [Act.put, List.setIfInBounds_toArray, List.set_cons_zero, List.set_cons_succ]
      refine sch_one rfl rfl (fun K hK => ?_)
      go_simp
      refine (GT4.out _ (by first | exact hs0 | exact hs0.of ((Within.refl _).drew) | exact hs0.of (((Within.refl _).drew).alloc _))).mono ?_; rintro e5 w5 ⟨rfl, rfl⟩
      refine hK _ _ (fun _ => (by repeat (first | with_reducible exact Within.refl _ | with_reducible assumption | with_reducible refine Within.alloc ?_ _ | with_reducible refine Within.drew ?_ | with_reducible refine Within.drewN ?_ _ | with_reducible refine Within.setCell ?_ (by first | (simp; done) | (simp; omega)) _ | with_reducible refine Within.trans ?_ (by assumption)))) ?_
      clear hK K
      try simp only [Act.put, List.setIfInBounds_toArray, List.set_cons_zero, List.set_cons_succ]
      iterate 2
        apply sch_firm rfl rfl (by repeat (first | with_reducible exact Within.refl _ | with_reducible assumption | with_reducible refine Within.alloc ?_ _ | with_reducible refine Within.drew ?_ | with_reducible refine Within.drewN ?_ _ | with_reducible refine Within.setCell ?_ (by first | (simp; done) | (simp; omega)) _ | with_reducible refine Within.trans ?_ (by assumption)))
        · intro wq hq
          have hcq := hq.cells
          have hcell := h2 _ (hs0.of hq)
          clear hq
          go_simp
          rfl
        try simp only [Act.put, List.setIfInBounds_toArray, List.set_cons_zero, List.set_cons_succ]
      refine sch_one rfl rfl (fun K hK => ?_)
      go_simp
      refine hK _ _ (fun h => absurd h (by decide)) ?_
      clear hK K
      try simp only [Act.put, List.setIfInBounds_toArray, List.set_cons_zero, List.set_cons_succ]
      refine sch_nil ?_
      go_wp2_with fail
      go_meet
      exact ⟨rfl, by go_simp, by go_simp, by go_simp, by go_simp, fun o => by go_simp, (by repeat (first | with_reducible exact Within.refl _ | with_reducible assumption | with_reducible refine Within.alloc ?_ _ | with_reducible refine Within.drew ?_ | with_reducible refine Within.drewN ?_ _ | with_reducible refine Within.setCell ?_ (by first | (simp; done) | (simp; omega)) _ | with_reducible refine Within.trans ?_ (by assumption)))⟩
  case rest =>
    obtain ⟨rfl, r0, r1, r2, r3, rf, hw6⟩ := hcut
    have hsl3 : SlAt w3 (some ad) (u8v l) := HR.out.of ((Within.refl w).alloc _ |>.trans hb3)
    have k3 := HH3.out _ (hsl3.of hw6)
    go_wp2
    go_loopw [7] (fun vv wr => RunRel w3 d false n S q t vv wr) (fun vv _ => upTo m vv)
    case atStart => exact ⟨0, 12, [], .slice none 0 0, Nat.zero_le _, rfl, rfl, rfl, (fun x hx => by cases hx), OwnF.nil_ _ _, r0, r1, r2, r3, rf, hw6⟩
    case round =>
      obtain ⟨k, a, vs, sl, hk, rfl, ha, hvs, hwv, hown, p0, p1, p2, p3, pf', hin⟩ := hrel
      have HVS := Lib.hid hvs; have HWV := Lib.hid hwv; clear hvs hwv
      have hvl : vs.length = k := by have := congrArg List.length HVS.out; rwa [List.length_map, List.length_map, rdVals_len] at this
      have hRz : w3.heap.size < wr.heap.size := World.block_lt_of_cell? wr _ p0
      obtain ⟨As, cs, rfl, _, hsat, _⟩ := hown.form
      have HOW := Lib.hid hown; have HVL := Lib.hid hvl; clear hown hvl
      by_cases hlt : k < n
      · have ha12 : a = 12 + 4 * k := by rw [ha]; rfl
        have hmn' := HMN.out
        have dm : decide ((a : Int) < (m : Int)) = true := decide_eq_true (by omega)
        have dn : a < m := by simpa using of_decide_eq_true dm
        have a8 : IntKind.i64.wrap ((a : Int) + 4) = (a : Int) + 4 := by rw [IntKind.wrap_i64]; omega
        have ac : a + 4 ≤ c := by omega
        have aci : (a : Int) + 4 ≤ (c : Int) := by omega
        have aa : (a : Int) ≤ (a : Int) + 4 := by omega
        have ca : ¬ c = a := by omega
        have al : a ≤ c := by omega
        have am : (a : Int) + 4 ≤ (m : Int) + 4 := by omega
        have ai0 : (0 : Int) ≤ (a : Int) := by omega
        have ai8 : (0 : Int) ≤ (a : Int) + 4 := by omega
        obtain ⟨X, hX⟩ : ∃ X, X = leVal ((l.drop a).take 4) := ⟨_, rfl⟩
        have hsl3' : SlAt wr (some ad) (u8v l) := hsl3.of hin
        have GV : Calls Tryd.prog 65 #[.slice (some (ad.add a)) 4 (c - a)] wr fun e w' => e = .returned (.int .u64 (X : Int)) ∧ wr = w' := by
          rw [hX]; exact Rtake_at ad c a 4 l HBL.out (by decide) (by rw [HLL.out]; omega) _ wr hsl3'
        have HGV := Lib.hid GV; clear GV
        have hX2 : X < 2 ^ 32 := by rw [hX]; have := leVal_lt ((HBL.out.drop a).take 4); rwa [show ((l.drop a).take 4).length = 4 by rw [List.length_take, List.length_drop, HLL.out]; omega] at this
        have hXd : X = leVal ((d.drop (stp false * k)).take 4) := by
          rw [hX, HD.out, List.drop_take, List.drop_drop, List.take_take, ha]
          rw [Nat.min_eq_left (by show 4 ≤ 4 * n - 4 * k; omega)]
        have hX2' : X < 4294967296 := by omega
        have hcv : ∀ w, (convert 114 111 (.float .f32 X)).run Tryd.prog w = .ok (.float .f64 (wideV X w)) (wideW X w) := fun w => conv_wide (by kernel_rfl) (by kernel_rfl) X hX2' w
        have gX : IntKind.u32.wrap (X : Int) = (X : Int) := by rw [IntKind.wrap_u32]; omega
        clear hX2'
        have hWz : w3.heap.size + 1 ≤ (wideW X wr).heap.size := Nat.le_trans hRz (wideW_in wr).size
        have hWW : Below (w3.heap.size + 1) wr (wideW X wr) := (wideW_in wr).mono hRz
        obtain ⟨v1, w1, hrun, hown1, hbl2⟩ := run_app_float (wideW X wr) (w3.heap.size + 1) _ vs (wideV X wr) (HOW.out.of (wideW_in _)) (by have := HVL.out; omega) hWz
        have hbl1 : Below (w3.heap.size + 1) wr w1 := Below.trans hWW hbl2
        obtain ⟨A1, c1, hv1, _⟩ := hown1.form
        obtain ⟨N1, hN1⟩ : ∃ N1, N1 = (vs ++ [(wideV X wr)]).length := ⟨_, rfl⟩
        rw [← hN1] at hv1
        subst hv1
        have RUN := Lib.hid hrun; clear hrun
        have pw3 : (wideW X wr).cell? ⟨w3.heap.size, 3, none⟩ = some (.slice As vs.length cs) := ((wideW_in wr).cells _ _ hRz).trans p3
        have g0 : w1.cell? ⟨w3.heap.size, 0, none⟩ = some (.int .i64 (S : Int)) := (hbl1.cell (p := ⟨w3.heap.size, 0, none⟩) (Nat.lt_succ_self _)).trans p0
        have g1 : w1.cell? ⟨w3.heap.size, 1, none⟩ = some (.int .u32 (q : Int)) := (hbl1.cell (p := ⟨w3.heap.size, 1, none⟩) (Nat.lt_succ_self _)).trans p1
        have g2 : w1.cell? ⟨w3.heap.size, 2, none⟩ = some (.int .u32 (t : Int)) := (hbl1.cell (p := ⟨w3.heap.size, 2, none⟩) (Nat.lt_succ_self _)).trans p2
        have g3 : w1.cell? ⟨w3.heap.size, 3, none⟩ = some (.slice As vs.length cs) := (hbl1.cell (p := ⟨w3.heap.size, 3, none⟩) (Nat.lt_succ_self _)).trans p3
        have gf : ∀ o, w1.frozen? ⟨w3.heap.size, o, none⟩ = false := fun o => (hbl1.frozen (p := ⟨w3.heap.size, o, none⟩) (Nat.lt_succ_self _)).trans (pf' o)
        have HA := Lib.hid ha12; have HX2 := Lib.hid hX2; have HXD := Lib.hid hXd; have HN1 := Lib.hid hN1; have HN1 := Lib.hid hN1; clear ha ha12 hX2 hXd hX hmn' hN1
        go_wp2_with fail
        refine HGV.out.mono ?_; rintro e5 w5 ⟨rfl, rfl⟩
        go_wp2_with (at_builtin; refine wpList_append_run rfl (.tmp 83) (.tmp 85) 65 rfl _ _ rfl rfl RUN.out ?_)
        go_roundw
        case rel =>
          have hN1 := HN1.out; rw [List.length_append, List.length_singleton] at hN1; subst hN1
          have hXc : canonD (wideV X wr) = canonD (if false = true then leVal ((d.drop (stp false * k)).take 8) else pf.wb (leVal ((d.drop (stp false * k)).take 4))) := by rw [wideV_canon (by have := HX2.out; omega), if_neg (by decide), ← HXD.out]; exact wide_canon.symm
          have hst := RunRel.step (a := a + 4) hlt (by rw [HA.out]; show 12 + 4 * k + 4 = 12 + 4 * (k + 1); omega) HVS.out hXc (wideV_lt (by have := HX2.out; omega) _) HWV.out hown1 g0 g1 g2 (by rw [g3]; rfl) gf (show Within w3 w1 from Below.trans hin (hbl1.mono (Nat.le_succ _)))
          simpa using hst
        case measure =>
          have := of_decide_eq_true dm; simp only [upTo]; omega
      · have hkn : k = n := by omega
        subst hkn
        have HA := Lib.hid ha; clear ha
        have dm : decide ((a : Int) < (m : Int)) = false := decide_eq_false (by have := HA.out; have := HMN.out; simp only [stp, Bool.false_eq_true, if_false] at *; omega)
        have dn : ¬ a < m := by simpa using of_decide_eq_false dm
        have dk : m ≤ a := by omega
        have hfe : vs.all finD = fb := (map_all (fun _ _ h => finD_same h) HVS.out).trans HFB.out
        have hse : vs.all isSD = sb := (map_all (fun _ _ h => isSD_same h) HVS.out).trans HSB.out
        have hWw : Within w wr := (((Within.refl w).alloc _).trans hb3).trans hin
        have FN := RallFinite_any As cs vs HWV.out (by have := HVL.out; omega) wr hsat
        rw [hfe] at FN
        have SGL : Hid (∀ wx, Within wr wx → Calls Tryd.prog 54 #[.slice As vs.length cs] wx fun e w' => e = .returned (.bool sb) ∧ Within wx w') := Lib.hid (fun wx hx => by
          have := Rsingles_any As cs vs HWV.out (by have := HVL.out; omega) wx (hsat.of hx)
          rwa [hse] at this)
        have HFN := Lib.hid FN; clear FN
        have hqz3 : w.heap.size < w3.heap.size + 1 := Nat.lt_succ_of_lt qz
        have qzr : w.heap.size < wr.heap.size := Nat.lt_of_lt_of_le qz hin.size
        have qr0 : wr.cell? ⟨w.heap.size, 0, none⟩ = some (.int .i64 0) := (hin.cells _ _ qz).trans q0
        have qr1 : wr.cell? ⟨w.heap.size, 1, none⟩ = some (.int .u32 0) := (hin.cells _ _ qz).trans q1
        have qr2 : wr.cell? ⟨w.heap.size, 2, none⟩ = some (.int .u32 0) := (hin.cells _ _ qz).trans q2
        have qr3 : wr.cell? ⟨w.heap.size, 3, none⟩ = some (.slice none 0 0) := (hin.cells _ _ qz).trans q3
        have qrf : ∀ o, wr.frozen? ⟨w.heap.size, o, none⟩ = false := fun o => (hin.frozens _ _ qz).trans (qf o)
        have HFE := Lib.hid hfe; clear hfe hse
        go_wp2_with fail
        refine HFN.out.mono ?_; rintro e5 w5 ⟨rfl, hw5⟩
        have p50 : w5.cell? ⟨w3.heap.size, 0, none⟩ = some (.int .i64 (S : Int)) := (hw5.cells _ _ hRz).trans p0
        have p51 : w5.cell? ⟨w3.heap.size, 1, none⟩ = some (.int .u32 (q : Int)) := (hw5.cells _ _ hRz).trans p1
        have p52 : w5.cell? ⟨w3.heap.size, 2, none⟩ = some (.int .u32 (t : Int)) := (hw5.cells _ _ hRz).trans p2
        have p53 : w5.cell? ⟨w3.heap.size, 3, none⟩ = some (.slice As vs.length cs) := (hw5.cells _ _ hRz).trans p3
        have z50 : w5.cell? ⟨w.heap.size, 0, none⟩ = some (.int .i64 0) := (hw5.cells _ _ qzr).trans qr0
        have z51 : w5.cell? ⟨w.heap.size, 1, none⟩ = some (.int .u32 0) := (hw5.cells _ _ qzr).trans qr1
        have z52 : w5.cell? ⟨w.heap.size, 2, none⟩ = some (.int .u32 0) := (hw5.cells _ _ qzr).trans qr2
        have z53 : w5.cell? ⟨w.heap.size, 3, none⟩ = some (.slice none 0 0) := (hw5.cells _ _ qzr).trans qr3
        have z5f : ∀ o, w5.frozen? ⟨w.heap.size, o, none⟩ = false := fun o => (hw5.frozens _ _ qzr).trans (qrf o)
        have hRz5 : w3.heap.size < w5.heap.size := Nat.lt_of_lt_of_le hRz hw5.size
        have qz5 : w.heap.size < w5.heap.size := Nat.lt_of_lt_of_le qzr hw5.size
        have hW5 : Within w w5 := hWw.trans hw5
        cases fb
        · go_wp2
          have E := HER.out; have R := HRD.out
          simp at E; subst E; simp at R; subst R
          refine bodyPost_ret (v := .tuple #[.agg #[.int .i64 0, .int .u32 0, .int .u32 0, .slice none 0 0], .int .i64 211]) (by simp [results, Tryd.results50, go_sem, z50, z51, z52, z53]) rfl ⟨_, rfl, OwnF.nil_ _ _, (by repeat (first | with_reducible exact hW5 | with_reducible refine Within.setCell ?_ (Nat.le_refl _) _))⟩
        · go_wp2_with fail
          refine (SGL.out _ hw5).mono ?_; rintro e6 w6 ⟨rfl, hw6⟩
          have p60 : w6.cell? ⟨w3.heap.size, 0, none⟩ = some (.int .i64 (S : Int)) := (hw6.cells _ _ hRz5).trans p50
          have p61 : w6.cell? ⟨w3.heap.size, 1, none⟩ = some (.int .u32 (q : Int)) := (hw6.cells _ _ hRz5).trans p51
          have p62 : w6.cell? ⟨w3.heap.size, 2, none⟩ = some (.int .u32 (t : Int)) := (hw6.cells _ _ hRz5).trans p52
          have p63 : w6.cell? ⟨w3.heap.size, 3, none⟩ = some (.slice As vs.length cs) := (hw6.cells _ _ hRz5).trans p53
          have z60 : w6.cell? ⟨w.heap.size, 0, none⟩ = some (.int .i64 0) := (hw6.cells _ _ qz5).trans z50
          have z61 : w6.cell? ⟨w.heap.size, 1, none⟩ = some (.int .u32 0) := (hw6.cells _ _ qz5).trans z51
          have z62 : w6.cell? ⟨w.heap.size, 2, none⟩ = some (.int .u32 0) := (hw6.cells _ _ qz5).trans z52
          have z63 : w6.cell? ⟨w.heap.size, 3, none⟩ = some (.slice none 0 0) := (hw6.cells _ _ qz5).trans z53
          have z6f : ∀ o, w6.frozen? ⟨w.heap.size, o, none⟩ = false := fun o => (hw6.frozens _ _ qz5).trans (z5f o)
          have qz6 : w.heap.size < w6.heap.size := Nat.lt_of_lt_of_le qz5 hw6.size
          have hW6 : Within w w6 := hW5.trans hw6
          have HOW6 := Lib.hid ((HOW.out.of hw5).of hw6)
          cases sb
          · go_wp2
            have E := HER.out; have R := HRD.out
            simp at E; subst E; simp at R; subst R
            refine bodyPost_ret (v := .tuple #[.agg #[.int .i64 0, .int .u32 0, .int .u32 0, .slice none 0 0], .int .i64 211]) (by simp [results, Tryd.results50, go_sem, z60, z61, z62, z63]) rfl ⟨_, rfl, OwnF.nil_ _ _, (by repeat (first | with_reducible exact hW6 | with_reducible refine Within.setCell ?_ (Nat.le_refl _) _))⟩
          · go_wp2
            have E := HER.out; have R := HRD.out
            simp at E; subst E; simp at R; subst R
            refine bodyPost_ret (v := .tuple #[.agg #[.int .i64 (S : Int), .int .u32 (q : Int), .int .u32 (t : Int), .slice As vs.length cs], .int .i64 0]) (by simp [results, Tryd.results50, go_sem, z60, z61, z62, z63]) rfl ⟨_, rfl, ?_, (by repeat (first | with_reducible exact hW6 | with_reducible refine Within.setCell ?_ (Nat.le_refl _) _))⟩
            have hvv : vs = rdVals pf false k d := map_fin HVS.out HFE.out HFB.out
            rw [show (Rd.mk S q t (rdVals pf false k d)).vals = vs from hvv.symm]
            refine OwnF.less (base := w3.heap.size + 1) ?_ (Nat.le_of_lt hqz3)
            repeat (first | with_reducible exact HOW6.out | with_reducible refine OwnF.set ?_ hqz3 _)

end Go.Proofs.YtpmjlaiafgbjgaaDoor
end

section
namespace Go.Proofs.YtpmjlaiafgbjgaaDoor
open Go.RowKit

theorem Runpack_any (A : Option Addr) (c : Nat) (l : List Nat) (hb : Bytes l) (hl : l.length ≤ 1152921504606846976) (hc : l.length ≤ c) (w : World) (hr : SlAt w A (u8v l)) :
    Calls Tryd.prog 50 #[.slice A l.length c] w (RetR w (rdOf l) (unpackE pf l)) := by
  have RH : Hid (∀ w, SlAt w A (u8v l) → Calls Tryd.prog 74 #[.slice A l.length c] w fun e w' => e = .returned (.bool (headB l)) ∧ w = w') := Lib.hid fun w hr => Rhead_any A c l hb hl w hr
  by_cases h4 : l.length < 4
  · rw [rdOf_bad (by rw [E_few h4]; decide), E_few h4]
    exact (Runpack_few A c l (decide_eq_true (by omega)) w).mono fun _ _ h => RetR.bad h
  have h4' : 4 ≤ l.length := by omega
  have d4 : decide ((l.length : Int) < 4) = false := decide_eq_false (by omega)
  cases hh : headB l
  · rw [rdOf_bad (by rw [E_head hh]; decide), E_head hh]
    rw [hh] at RH
    exact (Runpack_head A c l d4 RH w hr).mono fun _ _ h => RetR.bad h
  rw [hh] at RH
  obtain ⟨_, _, hS, hM⟩ := headB_parts hh
  have hK := hb.getD 3
  obtain ⟨K, hKK⟩ : ∃ K, K = l.getD 3 0 := ⟨_, rfl⟩
  obtain ⟨S, hSS⟩ : ∃ S, S = l.getD 2 0 := ⟨_, rfl⟩
  have hst := szOf_stp hK
  rw [← hKK] at hK hM hst
  rw [← hSS] at hS
  obtain ⟨ad, rfl, hblk, hcl⟩ := hr (by rw [u8v_len]; omega)
  have at_ : ∀ k, k < l.length → ∀ w, SlAt w (some ad) (u8v l) → w.cell? (ad.add k) = some (.int .u8 ((l.getD k 0 : Nat) : Int)) := fun k hk w hr => by
    obtain ⟨ad', e', _, hc⟩ := hr.at hk
    obtain rfl := Option.some.inj e'; exact hc
  have h3 : ∀ w, SlAt w (some ad) (u8v l) → w.cell? ⟨ad.block, ad.off + 3, none⟩ = some (.int .u8 (K : Int)) := fun w hr => by rw [← add_plain' ad (by decide), hKK]; exact at_ 3 (by omega) w hr
  have RS : Hid (∀ w, Calls Tryd.prog 75 #[.int .u8 (K : Int)] w fun e w' => e = .returned (.int .i64 (szOf K : Int)) ∧ w = w') := Lib.hid fun w => Rsize_any K hK w
  by_cases hn : l.length = szOf K
  case neg =>
    rw [rdOf_bad (by rw [E_long (by rw [← hKK]; exact hn)]; decide), E_long (by rw [← hKK]; exact hn)]
    exact (Runpack_long ad c l.length K l d4 (by omega) _ (ne_of hn) RH RS h3 w hr).mono fun _ _ h => RetR.bad h
  obtain ⟨n, hnn⟩ : ∃ n, n = K % 128 := ⟨_, rfl⟩
  rw [← hnn] at hM hst
  obtain ⟨wide, hw⟩ : ∃ b, b = decide (128 ≤ K) := ⟨_, rfl⟩
  rw [← hw] at hst
  have hsn : stp wide * n ≤ 48 := by unfold stp; split <;> omega
  obtain ⟨m, hm⟩ : ∃ m, l.length = m + 4 := ⟨l.length - 4, by omega⟩
  have hmn : m = 12 + stp wide * n := by omega
  have hE := E_rest h4' hh (by rw [← hKK]; exact hn)
  have hwB : wideB l = wide := by unfold wideB; rw [← hKK, hw]
  have hlen : l.length = 16 + stp wide * n := hn.trans hst
  have hd12 : (l.drop 12).length = stp wide * n + 4 := by rw [List.length_drop, hlen]; generalize stp wide * n = z; omega
  have hval : valsB pf l = rdVals pf wide n ((l.drop 12).take (stp wide * n)) := by
    rw [rdVals_take]; unfold valsB; rw [hwB, ← hKK, ← hnn]
  have hrd : readB pf l = ⟨S, leVal ((l.drop 4).take 4), leVal ((l.drop 8).take 4), rdVals pf wide n ((l.drop 12).take (stp wide * n))⟩ := by unfold readB; rw [hval, ← hSS]
  rw [hval, hwB, hm, Nat.add_sub_cancel] at hE
  have hG : leVal ((l.drop m).take 4) = leVal (l.drop m) := by rw [List.take_of_length_le (by rw [List.length_drop]; omega)]
  have GT : Hid (∀ w, SlAt w (some ad) (u8v l) → Calls Tryd.prog 65 #[.slice (some (ad.add m)) 4 (c - m)] w fun e w' => e = .returned (.int .u64 (leVal (l.drop m) : Int)) ∧ w = w') := Lib.hid fun w hr => by
    rw [← hG]; exact Rtake_at ad c m 4 l hb (by decide) (by omega) _ w hr
  have SM : Hid (∀ w, SlAt w (some ad) (u8v l) → Calls Tryd.prog 58 #[.slice (some ad) m c] w fun e w' => e = .returned (.int .u32 (crcOf (l.take m) : Int)) ∧ w = w') := Lib.hid fun w hr => by
    have h1 : SlAt w (some ad) (u8v (l.take m)) := by have := hr.take m; unfold u8v at this ⊢; rwa [← List.map_take] at this
    have h2 := Rsum_any (some ad) c (l.take m) (hb.take m) (by rw [List.length_take]; omega) w h1
    rwa [List.length_take, show min m l.length = m by omega] at h2
  rw [hm] at RH
  rw [← hn, hm] at RS
  have GQ : ∀ k, k + 4 ≤ l.length → k ≠ 0 → Hid (∀ w, SlAt w (some ad) (u8v l) → Calls Tryd.prog 65 #[.slice (some ⟨ad.block, ad.off + k, none⟩) 4 (c - k)] w fun e w' => e = .returned (.int .u64 (leVal ((l.drop k).take 4) : Int)) ∧ w = w') := fun k hk h0 => Lib.hid fun w hr => by
    rw [← add_plain' ad h0]; exact Rtake_at ad c k 4 l hb (by decide) hk _ w hr
  have lt4 : ∀ k, leVal ((l.drop k).take 4) < 4294967296 := fun k => by
    have := leVal_lt ((hb.drop k).take 4)
    refine Nat.lt_of_lt_of_le this (show _ ≤ 2 ^ 32 from Nat.pow_le_pow_right (by decide) (by rw [List.length_take]; omega))
  have hm1 : 12 ≤ m ∧ m ≤ 60 := by omega
  rw [hm] at hc ⊢
  by_cases hcs : crcOf (l.take m) = leVal (l.drop m)
  case neg =>
    rw [if_pos hcs] at hE
    rw [rdOf_bad (by rw [hE]; decide), hE]
    exact (Runpack_sum ad c m K l hm1 hc RH RS h3 _ _ (crcOf_lt (hb.take m)) GT SM (ne_of hcs) w hr).mono fun _ _ h => RetR.bad h
  rw [if_neg (fun h => h hcs)] at hE
  have hs : ((crcOf (l.take m) : Int) != (leVal (l.drop m) : Int)) = false := eq_of' hcs
  have h2 : ∀ w, SlAt w (some ad) (u8v l) → w.cell? ⟨ad.block, ad.off + 2, none⟩ = some (.int .u8 (S : Int)) := fun w hr => by rw [← add_plain' ad (by decide), hSS]; exact at_ 2 (by omega) w hr
  have hdl : ((l.drop 12).take (stp wide * n)).length = stp wide * n := by rw [List.length_take, hd12]; omega
  have hrr : rdOf l = if unpackE pf l = 0 then ⟨S, leVal ((l.drop 4).take 4), leVal ((l.drop 8).take 4), rdVals pf wide n ((l.drop 12).take (stp wide * n))⟩ else noRd := by unfold rdOf; rw [hrd]
  cases wide
  · have hk : ¬ 128 ≤ K := of_decide_eq_false hw.symm
    exact Runpack_near ad c m K l hm1 hc RH RS h3 _ _ (crcOf_lt (hb.take m)) GT SM S _ _ (by omega) (lt4 4) (lt4 8) (GQ 4 (by omega) (by decide)) (GQ 8 (by omega) (by decide)) h2 n (by omega) hmn (decide_eq_false (by omega)) _ rfl ((hb.drop 12).take _) hdl hb hm _ _ rfl rfl _ hE _ hrr hs w hr
  · have hk : 128 ≤ K := of_decide_eq_true hw.symm
    exact Runpack_wide ad c m K l hm1 hc RH RS h3 _ _ (crcOf_lt (hb.take m)) GT SM S _ _ (by omega) (lt4 4) (lt4 8) (GQ 4 (by omega) (by decide)) (GQ 8 (by omega) (by decide)) h2 n (by omega) hmn (decide_eq_true (by omega)) _ rfl ((hb.drop 12).take _) hdl hb hm _ _ rfl rfl _ hE _ hrr hs w hr
end Go.Proofs.YtpmjlaiafgbjgaaDoor
end

section
namespace Go.Proofs.YtpmjlaiafgbjgaaDoor
open Go.RowKit

/-- but for block bk nothing old has turned -/
def But (bk : Nat) (a w : World) : Prop := a.grownBy w (some bk)
theorem But.refl (bk : Nat) (a : World) : But bk a a := World.grownBy.refl a _
theorem But.trans {bk : Nat} {a b c : World} (h : But bk a b) (k : But bk b c) : But bk a c := World.grownBy.trans h k
theorem But.in_ {bk : Nat} {a b : World} (h : Within a b) : But bk a b := World.grownBy.but (within_grown h) _
theorem But.within {bk : Nat} {a b c : World} (h : But bk a b) (k : Within b c) : But bk a c := h.trans (But.in_ k)
theorem But.set {bk : Nat} {a b : World} (h : But bk a b) {p : Addr} (hp : p.block = bk ∨ a.heap.size ≤ p.block) (u : Value) : But bk a (b.setCell p u) :=
  ⟨h.os, h.tape, h.output, Nat.le_trans h.size (by simp [World.setCell]), fun k hk hne => (Below.heap_setCell _ _ _ _ (by
    intro e; rcases hp with hp | hp
    · exact hne (by rw [e, hp])
    · omega)).trans (h.block k hk hne)⟩
theorem But.alloc {bk : Nat} {a b : World} (h : But bk a b) (o : Obj) : But bk a (b.alloc o) := h.within ((Within.refl b).alloc o)
theorem But.drew {bk : Nat} {a b : World} (h : But bk a b) : But bk a b.drew := h.within ((Within.refl b).drew)
theorem But.grown {bk : Nat} {a b c : World} {row : Option Nat} (h : But bk a b) (k : b.grownBy c row) (hr : ∀ j, row = some j → a.heap.size ≤ j) : But bk a c :=
  World.grownBy.andThen h k fun j hj => .inl (hr j hj)
theorem But.sizes {bk : Nat} {a b : World} (h : But bk a b) : a.heap.size ≤ b.heap.size := h.size
theorem But.cells {bk : Nat} {a b : World} (h : But bk a b) (k o : Nat) (hk : k < a.heap.size) (hne : k ≠ bk) : b.cell? ⟨k, o, none⟩ = a.cell? ⟨k, o, none⟩ :=
  World.cell?_of_block (h.block k hk (fun e => hne (Option.some.inj e)))
theorem But.frozens {bk : Nat} {a b : World} (h : But bk a b) (k o : Nat) (hk : k < a.heap.size) (hne : k ≠ bk) : b.frozen? ⟨k, o, none⟩ = a.frozen? ⟨k, o, none⟩ :=
  World.frozen?_of_block (h.block k hk (fun e => hne (Option.some.inj e)))
theorem But.out {bk : Nat} {a b : World} (h : But bk a b) (hb : a.heap.size ≤ bk) : Within a b := ⟨h.os, h.tape, h.output, h.size, fun k hk => h.block k hk (fun e => by have := Option.some.inj e; omega)⟩
theorem SlAt.but {w w' : World} {bk : Nat} {A : Option Addr} {xs : List Value} (h : SlAt w A xs) (k : But bk w w') (hA : ∀ ad, A = some ad → ad.block ≠ bk) : SlAt w' A xs := fun hn => by
  obtain ⟨ad, e, hb, hc⟩ := h hn
  have key : ∀ j, w'.cell? (ad.add j) = w.cell? (ad.add j) := fun j => World.cell?_of_block (k.block _ (by rw [add_block]; exact hb) (fun e' => hA ad e (by rw [add_block] at e'; exact Option.some.inj e')))
  exact ⟨ad, e, Nat.lt_of_lt_of_le hb k.size, fun j u hu => (key j).trans (hc j u hu)⟩
theorem FmS.but {w w' : World} {bk : Nat} (h : FmS w) (k : But bk w w') (hb : bk ≠ 1) : FmS w' := by
  have h0 := World.block_lt_of_cell? _ _ h.1
  unfold FmS at h ⊢
  simp only [k.cells _ _ h0 (Ne.symm hb)]
  exact h
theorem ownsRow_but {w w' : World} {bk base : Nat} {e : TypeId} {size : Nat} {v : Value} {n : Nat} {xs : List Value} (h : w.ownsRow base e size v n xs) (k : But bk w w') (hb : bk < base) : w'.ownsRow base e size v n xs := by
  refine h.kept k ?_
  cases hv : v.ownBlock with
  | none => exact .inl rfl
  | some j => exact .inr (fun e => by have := (h.lt j hv).1; have := Option.some.inj e; omega)
theorem OwnF.but {w w' : World} {bk base : Nat} {v : Value} {l : List Nat} (h : OwnF w base v l) (k : But bk w w') (hb : bk < base) : OwnF w' base v l := ownsRow_but h k hb
theorem OwnB.but {w w' : World} {bk base : Nat} {v : Value} {l : List Nat} (h : OwnB w base v l) (k : But bk w w') (hb : bk < base) : OwnB w' base v l := ownsRow_but h k hb

/-! slices of readings -/
def rdC (r : Rd) (v : Value) : List Value := [.int .i64 (r.sensor : Int), .int .u32 (r.seq : Int), .int .u32 (r.stamp : Int), v]
def cellsR (ps : List (Rd × Value)) : List Value := ps.flatMap fun p => rdC p.1 p.2
theorem cellsR_len (ps : List (Rd × Value)) : (cellsR ps).length = ps.length * 4 := by
  induction ps with
  | nil => rfl
  | cons p l ih => rw [cellsR, List.flatMap_cons, List.length_append, ← cellsR, ih, List.length_cons]; show 4 + _ = _; omega
def RdsP (w : World) (base : Nat) (v : Value) (ps : List (Rd × Value)) : Prop :=
  w.ownsRow base 67 4 v ps.length (cellsR ps) ∧ ∀ p ∈ ps, OwnF w base p.2 p.1.vals ∧ (p.2.ownBlock = none ∨ p.2.ownBlock ≠ v.ownBlock)
/-- a slice of readings of the call's own -/
def RdsO (w : World) (base : Nat) (v : Value) (rs : List Rd) : Prop := ∃ ps, ps.map Prod.fst = rs ∧ RdsP w base v ps
theorem RdsO.nil_ (w : World) (base : Nat) : RdsO w base (.slice none 0 0) [] := ⟨[], rfl, World.ownsRow_nil _ _ _ _, fun p hp => by cases hp⟩
theorem RdsP.but {w w' : World} {bk base : Nat} {v : Value} {ps : List (Rd × Value)} (h : RdsP w base v ps) (k : But bk w w') (hb : bk < base) : RdsP w' base v ps :=
  ⟨ownsRow_but h.1 k hb, fun p hp => ⟨(h.2 p hp).1.but k hb, (h.2 p hp).2⟩⟩
theorem RdsO.but {w w' : World} {bk base : Nat} {v : Value} {rs : List Rd} (h : RdsO w base v rs) (k : But bk w w') (hb : bk < base) : RdsO w' base v rs := by
  obtain ⟨ps, h1, h2⟩ := h; exact ⟨ps, h1, h2.but k hb⟩
theorem RdsO.of {w w' : World} {base : Nat} {v : Value} {rs : List Rd} (h : RdsO w base v rs) (k : Within w w') : RdsO w' base v rs := by
  obtain ⟨ps, h1, h2, h3⟩ := h
  exact ⟨ps, h1, h2.kept (within_grown k) (by cases hv : v.ownBlock <;> simp), fun p hp => ⟨(h3 p hp).1.of k, (h3 p hp).2⟩⟩
theorem RdsO.less {w : World} {base base' : Nat} {v : Value} {rs : List Rd} (h : RdsO w base v rs) (k : base' ≤ base) : RdsO w base' v rs := by
  obtain ⟨ps, h1, h2, h3⟩ := h
  refine ⟨ps, h1, ⟨h2.1, ?_⟩, fun p hp => ⟨(h3 p hp).1.less k, (h3 p hp).2⟩⟩
  rcases h2.2 with h | ⟨g, cap, cur, h1, hb, h3⟩
  · exact .inl h
  · exact .inr ⟨g, cap, cur, h1, Nat.le_trans k hb, h3⟩
theorem RdsO.form {w : World} {base : Nat} {v : Value} {rs : List Rd} (h : RdsO w base v rs) : ∃ A c, v = .slice A rs.length c ∧ rs.length ≤ c ∧ (∀ ad, A = some ad → base ≤ ad.block) := by
  obtain ⟨ps, rfl, h2, _⟩ := h
  rcases h2.2 with ⟨rfl, h0⟩ | ⟨g, cap, cur, rfl, hg, _, hc, _⟩
  · refine ⟨none, 0, ?_, ?_, fun ad e => by cases e⟩
    · rw [List.length_map, h0]
    · rw [List.length_map]; omega
  · refine ⟨_, _, by rw [List.length_map], by rw [List.length_map]; exact hc, fun ad e => by injection e with e; subst e; exact hg⟩

theorem Tryd.infoRd : (Tryd.prog.info? 67).map (fun i => (i.zero, i.size, i.bytes)) = some (some (.agg #[.int .i64 0, .int .u32 0, .int .u32 0, .slice none 0 0]), 4, 40) := by kernel_rfl
theorem rdC_one (r : Rd) {v : Value} (hv : v.oneCell' = true) : ∀ u ∈ rdC r v, u.oneCell' = true := by
  intro u hu
  unfold rdC at hu
  simp only [List.mem_cons, List.not_mem_nil, or_false] at hu
  rcases hu with rfl | rfl | rfl | rfl
  · rfl
  · rfl
  · rfl
  · exact hv
/-- one reading more on a row of the call's own -/
theorem run_app_rd (w : World) (base : Nat) (v : Value) (rs : List Rd) (r : Rd) (u : Value) (hown : RdsO w base v rs) (hu : OwnF w base u r.vals) (hne : u.ownBlock = none ∨ u.ownBlock ≠ v.ownBlock) (hl : (rs.length + 1) * 40 ≤ 140737488355328) (hbase : base ≤ w.heap.size) :
    ∃ v' w', (Builtin.append_ #[72, 72] 72 #[v, .slice (some ⟨w.heap.size, 0, none⟩) 1 1]).run Tryd.prog (w.alloc (.cells #[.int .i64 (r.sensor : Int), .int .u32 (r.seq : Int), .int .u32 (r.stamp : Int), u] 67)) = .ok v' w' ∧ RdsO w' base v' (rs ++ [r]) ∧ w.grownBy w' v.ownBlock ∧ (∀ j, v.ownBlock = some j → base ≤ j) := by
  obtain ⟨ps, rfl, hrow, hps⟩ := hown
  obtain ⟨i0, hi0, hz0, hz1, hz2⟩ := info_parts Tryd.infoRd
  have hin := (Within.refl w).alloc (.cells #[.int .i64 (r.sensor : Int), .int .u32 (r.seq : Int), .int .u32 (r.stamp : Int), u] 67)
  have hu1 : u.oneCell' = true := by obtain ⟨A, c, rfl, _⟩ := hu.form; rfl
  have hrow' := hrow.kept (within_grown hin) (by cases hv : v.ownBlock <;> simp)
  have hcell : ∀ (j : Nat) x, (rdC r u)[j]? = some x → (w.alloc (.cells #[.int .i64 (r.sensor : Int), .int .u32 (r.seq : Int), .int .u32 (r.stamp : Int), u] 67)).cell? ((⟨w.heap.size, 0, none⟩ : Addr).add j) = some x := fun j x hx => by
    have e : (⟨w.heap.size, 0, none⟩ : Addr).add j = ⟨w.heap.size, j, none⟩ := by
      unfold Addr.add; split
      · rename_i h; rw [h]
      · rw [Nat.zero_add]
    rw [e, World.cell?_alloc_at _ _ _ _ rfl]
    unfold rdC at hx
    match j, hx with
    | 0, hx => exact hx
    | 1, hx => exact hx
    | 2, hx => exact hx
    | 3, hx => exact hx
    | j + 4, hx => simp at hx
  obtain ⟨v', w', h1, h2, h3, _, h5⟩ := run_append_own_at (P := Tryd.prog) (w := w.alloc (.cells #[.int .i64 (r.sensor : Int), .int .u32 (r.seq : Int), .int .u32 (r.stamp : Int), u] 67)) base 72 72 67 i0 (.agg #[.int .i64 0, .int .u32 0, .int .u32 0, .slice none 0 0]) 4 40 (by kernel_rfl) hi0 hz0 hz1 hz2 rfl (by decide) v ps.length (cellsR ps) hrow' ⟨w.heap.size, 0, none⟩ 1 1 (rdC r u) rfl hcell (rdC_one r hu1)
    (by rw [List.length_map] at hl; unfold maxLen; omega) (by rw [List.length_map] at hl; omega) (by simp; omega)
  have hlt := fun j hj => (hrow.lt j hj)
  refine ⟨v', w', h1, ⟨ps ++ [(r, u)], by rw [List.map_append]; rfl, ?_, ?_⟩, ?_, fun j hj => (hlt j hj).1⟩
  · have e : cellsR (ps ++ [(r, u)]) = cellsR ps ++ rdC r u := by unfold cellsR; rw [List.flatMap_append]; simp
    rw [List.length_append, e]; exact h2
  · have key : ∀ x xs, OwnF w base x xs → (x.ownBlock = none ∨ x.ownBlock ≠ v.ownBlock) → OwnF w' base x xs ∧ (x.ownBlock = none ∨ x.ownBlock ≠ v'.ownBlock) := fun x xs h hn => by
      refine ⟨(h.of hin).kept h3 hn, ?_⟩
      rcases hn with hn | hn
      · exact .inl hn
      · rcases h5 with h5 | h5
        · exact .inr (by rw [h5]; exact hn)
        · cases hx : x.ownBlock with
          | none => exact .inl rfl
          | some j =>
            refine .inr (fun e => ?_)
            rw [h5] at e
            have := (h.lt j hx).2
            have := Option.some.inj e
            simp at this
            omega
    intro p hp
    rcases List.mem_append.1 hp with h | h
    · exact key _ _ (hps p h).1 (hps p h).2
    · rw [List.mem_singleton] at h; rw [h]; exact key _ _ hu hne
  · exact ⟨h3.os, h3.tape, h3.output, Nat.le_trans (by simp) h3.size, fun k hk hn => (h3.block k (by simp; omega) hn).trans (Below.heap_alloc _ _ _ hk)⟩
end Go.Proofs.YtpmjlaiafgbjgaaDoor
end
