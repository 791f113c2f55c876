/- Packets: frames made: walks. -/
import Derived.Test.YtmpcnhiklpahnaaDoorPk4
namespace Go.Proofs.YtmpcnhiklpahnaaDoor
open Go.RowKit

/-- a row that is written out -/
theorem made_row (w : World) (l : List Nat) (hl : l.length ≤ 1000000) : OwnB (w.alloc (.cells (u8v l).toArray 5)) w.heap.size (.slice (some ⟨w.heap.size, 0, none⟩) l.length l.length) l := by
  refine ⟨by rw [u8v_len, Nat.mul_one], .inr ⟨_, _, (u8v l).toArray, rfl, Nat.le_refl _, heap_alloc_new w _, Nat.le_refl _, by unfold maxLen; omega, by simp [u8v_len], ?_⟩⟩
  rw [Nat.mul_one, List.take_of_length_le (by simp [u8v_len])]
theorem or128 {n : Nat} (h : n ≤ 6) : bits .or .u8 (n : Int) 128 = ((n + 128 : Nat) : Int) := by
  have key : ∀ x : Fin 7, bits .or .u8 ((x.val : Nat) : Int) 128 = ((x.val + 128 : Nat) : Int) := by decide +kernel
  exact key ⟨n, by omega⟩
theorem body_snoc {F : Fl} (wide : Bool) {l : List Nat} {k : Nat} (h : k < l.length) : bodyV F wide (l.take (k + 1)) = bodyV F wide (l.take k) ++ (if wide then leBytes 8 (l.getD k 0) else leBytes 4 (F.nb (l.getD k 0))) := by
  rw [take_snoc_getD h]
  unfold bodyV
  rw [List.flatMap_append, List.flatMap_singleton]

set_option maxRecDepth 100000 in
set_option maxHeartbeats 600000 in
theorem Pack_bad (s : Int) (q t : Nat) (A : Option Addr) (c : Nat) (l : List Nat) (e : Int) (he : ((e : Int) != 0) = true) (CK : Hid (∀ w, SlAt w A (f64v l) → Calls Tryd.prog 14 #[.agg #[.int .i64 s, .int .u32 (q : Int), .int .u32 (t : Int), .slice A l.length c]] w fun e1 w' => e1 = .returned (.int .i64 (e)) ∧ Within w w')) (w : World) (hr : SlAt w A (f64v l)) : Calls Tryd.prog 12 #[.agg #[.int .i64 s, .int .u32 (q : Int), .int .u32 (t : Int), .slice A l.length c]] w fun e' w' => e' = .returned (.tuple #[.slice none 0 0, .int .i64 e]) ∧ Within w w' := by
  have HR := Lib.hid hr; clear hr
  go_enter Tryd.func12, Tryd.ntmps12
  go_wp2_with fail
  refine (CK.out _ (HR.out.of (by repeat (first | with_reducible exact Within.refl _ | with_reducible assumption | with_reducible refine Within.alloc ?_ _ | with_reducible refine Within.drew ?_ | with_reducible refine Within.drewN ?_ _ | with_reducible refine Within.setCell ?_ (by first | (simp; done) | (simp; omega)) _ | with_reducible refine Within.trans ?_ (by assumption))))).mono ?_; rintro e1 w1 ⟨rfl, hb1⟩
  go_wp2
  go_ret2
  exact ⟨rfl, (by repeat (first | with_reducible exact Within.refl _ | with_reducible assumption | with_reducible refine Within.alloc ?_ _ | with_reducible refine Within.drew ?_ | with_reducible refine Within.drewN ?_ _ | with_reducible refine Within.setCell ?_ (by first | (simp; done) | (simp; omega)) _ | with_reducible refine Within.trans ?_ (by assumption)))⟩

set_option maxRecDepth 100000 in
set_option maxHeartbeats 600000 in
theorem Rpack_bad (s : Int) (q t : Nat) (A : Option Addr) (c : Nat) (l : List Nat) (e : Int) (he : ((e : Int) != 0) = true) (CK : Hid (∀ w, SlAt w A (f64v l) → Calls Tryd.prog 15 #[.agg #[.int .i64 s, .int .u32 (q : Int), .int .u32 (t : Int), .slice A l.length c]] w fun e1 w' => e1 = .returned (.int .i64 (e)) ∧ Within w w')) (w : World) (hr : SlAt w A (f64v l)) : Calls Tryd.prog 13 #[.agg #[.int .i64 s, .int .u32 (q : Int), .int .u32 (t : Int), .slice A l.length c]] w fun e' w' => e' = .returned (.tuple #[.slice none 0 0, .int .i64 e]) ∧ Within w w' := by
  have HR := Lib.hid hr; clear hr
  go_enter Tryd.func13, Tryd.ntmps13
  go_wp2_with fail
  refine (CK.out _ (HR.out.of (by repeat (first | with_reducible exact Within.refl _ | with_reducible assumption | with_reducible refine Within.alloc ?_ _ | with_reducible refine Within.drew ?_ | with_reducible refine Within.drewN ?_ _ | with_reducible refine Within.setCell ?_ (by first | (simp; done) | (simp; omega)) _ | with_reducible refine Within.trans ?_ (by assumption))))).mono ?_; rintro e1 w1 ⟨rfl, hb1⟩
  go_wp2
  go_ret2
  exact ⟨rfl, (by repeat (first | with_reducible exact Within.refl _ | with_reducible assumption | with_reducible refine Within.alloc ?_ _ | with_reducible refine Within.drew ?_ | with_reducible refine Within.drewN ?_ _ | with_reducible refine Within.setCell ?_ (by first | (simp; done) | (simp; omega)) _ | with_reducible refine Within.trans ?_ (by assumption)))⟩

set_option maxRecDepth 100000 in
set_option maxHeartbeats 1000000 in
theorem Pack_wide (S q t : Nat) (A : Option Addr) (c : Nat) (l : List Nat) (hS : S < 64) (hl : l.length ≤ 6) (hq : q < 4294967296) (ht : t < 4294967296) (hw : Words64 l) (hfin : l.all finD = true) (CK : Hid (∀ w, SlAt w A (f64v l) → Calls Tryd.prog 14 #[.agg #[.int .i64 (S : Int), .int .u32 (q : Int), .int .u32 (t : Int), .slice A l.length c]] w fun e1 w' => e1 = .returned (.int .i64 (0)) ∧ Within w w')) (SG : Hid (∀ w, FmS w → SlAt w A (f64v l) → Calls Tryd.prog 16 #[.agg #[.int .i64 (S : Int), .int .u32 (q : Int), .int .u32 (t : Int), .slice A l.length c]] w fun e w' => e = .returned (.bool false) ∧ Within w w')) (w : World) (hT : FmS w) (hr : SlAt w A (f64v l)) : Calls Tryd.prog 12 #[.agg #[.int .i64 (S : Int), .int .u32 (q : Int), .int .u32 (t : Int), .slice A l.length c]] w fun e w' => ∃ v, e = .returned (.tuple #[v, .int .i64 0]) ∧ OwnB w' w.heap.size v (withSum (headV true S l.length q t ++ bodyV pf true l)) ∧ Within w w' := by
  have HW := Lib.hid hw; have HR := Lib.hid hr; have HT := Lib.hid hT; have HF := Lib.hid hfin; clear hw hr hT hfin
  have g1 : IntKind.u8.wrap (l.length : Int) = (l.length : Int) := by rw [IntKind.wrap_u8]; omega
  have g2 : IntKind.u8.wrap (S : Int) = (S : Int) := by rw [IntKind.wrap_u8]; omega
  have g4 : IntKind.u64.wrap (q : Int) = (q : Int) := by rw [IntKind.wrap_u64]; omega
  have g5 : IntKind.u64.wrap (t : Int) = (t : Int) := by rw [IntKind.wrap_u64]; omega
  have g3 := or128 hl
  have HQ := Lib.hid (And.intro hq ht); clear hq ht
  have c0 : (w.alloc (.cells #[.int .i64 (S : Int), .int .u32 (q : Int), .int .u32 (t : Int), .slice A l.length c] 29)).cell? ⟨w.heap.size, 0, none⟩ = some (.int .i64 (S : Int)) := by go_simp
  have c1 : (w.alloc (.cells #[.int .i64 (S : Int), .int .u32 (q : Int), .int .u32 (t : Int), .slice A l.length c] 29)).cell? ⟨w.heap.size, 1, none⟩ = some (.int .u32 (q : Int)) := by go_simp
  have c2 : (w.alloc (.cells #[.int .i64 (S : Int), .int .u32 (q : Int), .int .u32 (t : Int), .slice A l.length c] 29)).cell? ⟨w.heap.size, 2, none⟩ = some (.int .u32 (t : Int)) := by go_simp
  have c3 : (w.alloc (.cells #[.int .i64 (S : Int), .int .u32 (q : Int), .int .u32 (t : Int), .slice A l.length c] 29)).cell? ⟨w.heap.size, 3, none⟩ = some (.slice A l.length c) := by go_simp
  have hg : w.heap.size < (w.alloc (.cells #[.int .i64 (S : Int), .int .u32 (q : Int), .int .u32 (t : Int), .slice A l.length c] 29)).heap.size := by simp
  have hsl := HR.out.of ((Within.refl w).alloc (.cells #[.int .i64 (S : Int), .int .u32 (q : Int), .int .u32 (t : Int), .slice A l.length c] 29))
  have hin1 : Within w (w.alloc (.cells #[.int .i64 (S : Int), .int .u32 (q : Int), .int .u32 (t : Int), .slice A l.length c] 29)) := (Within.refl w).alloc _
  go_enter Tryd.func12, Tryd.ntmps12
  go_wp2_with fail
  refine (CK.out _ hsl).mono ?_; rintro e1 w1 ⟨rfl, hv1⟩
  have a1_0 := (hv1.cells _ 0 hg).trans c0
  have a1_1 := (hv1.cells _ 1 hg).trans c1
  have a1_2 := (hv1.cells _ 2 hg).trans c2
  have a1_3 := (hv1.cells _ 3 hg).trans c3
  go_wp2_with fail
  refine (SG.out _ (HT.out.of (hin1.trans hv1)) (hsl.of hv1)).mono ?_; rintro e2 w2 ⟨rfl, hb2⟩
  have hv2 := hv1.trans hb2
  have a2_0 := (hv2.cells _ 0 hg).trans c0
  have a2_1 := (hv2.cells _ 1 hg).trans c1
  have a2_2 := (hv2.cells _ 2 hg).trans c2
  have a2_3 := (hv2.cells _ 3 hg).trans c3
  have hsl2 := hsl.of hv2
  have hin2 := hin1.trans hv2
  have hg2 : w.heap.size < w2.heap.size := Nat.lt_of_lt_of_le hg hv2.size
  obtain ⟨C, hC⟩ : ∃ C, C = l.length + 128 := ⟨_, rfl⟩
  rw [← hC] at g3
  have hrow := made_row w2 [181, 98, S, C] (by simp)
  clear a1_0 a1_1 a1_2 a1_3 c0 c1 c2 c3 hsl hv1 hb2 hv2 hin1
  have HG : Hid (OwnB (w2.alloc (.cells #[.int .u8 181, .int .u8 98, .int .u8 (S : Int), .int .u8 (C : Int)] 5)) w2.heap.size (.slice (some ⟨w2.heap.size, 0, none⟩) 4 4) [181, 98, S, C]) := Lib.hid hrow
  have HC := Lib.hid hC; clear hrow hC
  go_wp2
  refine wp_region_schB (w2.heap.size) (fun W => W.cell? ⟨w.heap.size, 0, none⟩ = some (.int .i64 (S : Int)) ∧ W.cell? ⟨w.heap.size, 1, none⟩ = some (.int .u32 (q : Int)) ∧ W.cell? ⟨w.heap.size, 2, none⟩ = some (.int .u32 (t : Int)) ∧ W.cell? ⟨w.heap.size, 3, none⟩ = some (.slice A l.length c) ∧ OwnB W w2.heap.size (.slice (some ⟨w2.heap.size, 0, none⟩) 4 4) [181, 98, S, C] ∧ Within w2 W) 9 (.firm 0 (.firm 1 (.firm 2 (.firm 3 (.firm 5 (.firm 6 (.firm 7 (.one 4 (.one 8 (.one 9 .nil)))))))))) (by kernel_rfl) (by kernel_rfl) ⟨by go_simp, by go_simp, by go_simp, by go_simp, HG.out, (Within.refl w2).alloc _⟩ ?_
  rintro w0 ⟨b0, b1, b2, b3, hO, hW⟩
  try simp only [Act.put, List.setIfInBounds_toArray, List.set_cons_zero, List.set_cons_succ]
  apply sch_firm rfl rfl (by repeat (first | with_reducible exact Below.refl _ _ | with_reducible assumption | with_reducible refine Below.drew ?_ | with_reducible refine Below.trans ?_ (by assumption)))
  · intro wq hq
    have hcq : ∀ b o, b < w2.heap.size → wq.cell? ⟨b, o, none⟩ = w0.cell? ⟨b, o, none⟩ := fun b o hb => hq.cell (p := ⟨b, o, none⟩) hb
    clear hq
    go_simp
    first | rfl | (trace_state; fail)
  try simp only [Act.put, List.setIfInBounds_toArray, List.set_cons_zero, List.set_cons_succ]
  apply sch_firm rfl rfl (by repeat (first | with_reducible exact Below.refl _ _ | with_reducible assumption | with_reducible refine Below.drew ?_ | with_reducible refine Below.trans ?_ (by assumption)))
  · intro wq hq
    have hcq : ∀ b o, b < w2.heap.size → wq.cell? ⟨b, o, none⟩ = w0.cell? ⟨b, o, none⟩ := fun b o hb => hq.cell (p := ⟨b, o, none⟩) hb
    clear hq
    go_simp
    first | rfl | (trace_state; fail)
  try simp only [Act.put, List.setIfInBounds_toArray, List.set_cons_zero, List.set_cons_succ]
  apply sch_firm rfl rfl (by repeat (first | with_reducible exact Below.refl _ _ | with_reducible assumption | with_reducible refine Below.drew ?_ | with_reducible refine Below.trans ?_ (by assumption)))
  · intro wq hq
    have hcq : ∀ b o, b < w2.heap.size → wq.cell? ⟨b, o, none⟩ = w0.cell? ⟨b, o, none⟩ := fun b o hb => hq.cell (p := ⟨b, o, none⟩) hb
    clear hq
    go_simp
    first | rfl | (trace_state; fail)
  try simp only [Act.put, List.setIfInBounds_toArray, List.set_cons_zero, List.set_cons_succ]
  apply sch_firm rfl rfl (by repeat (first | with_reducible exact Below.refl _ _ | with_reducible assumption | with_reducible refine Below.drew ?_ | with_reducible refine Below.trans ?_ (by assumption)))
  · intro wq hq
    have hcq : ∀ b o, b < w2.heap.size → wq.cell? ⟨b, o, none⟩ = w0.cell? ⟨b, o, none⟩ := fun b o hb => hq.cell (p := ⟨b, o, none⟩) hb
    clear hq
    go_simp
    first | rfl | (trace_state; fail)
  try simp only [Act.put, List.setIfInBounds_toArray, List.set_cons_zero, List.set_cons_succ]
  apply sch_firm rfl rfl (by repeat (first | with_reducible exact Below.refl _ _ | with_reducible assumption | with_reducible refine Below.drew ?_ | with_reducible refine Below.trans ?_ (by assumption)))
  · intro wq hq
    have hcq : ∀ b o, b < w2.heap.size → wq.cell? ⟨b, o, none⟩ = w0.cell? ⟨b, o, none⟩ := fun b o hb => hq.cell (p := ⟨b, o, none⟩) hb
    clear hq
    go_simp
    first | rfl | (trace_state; fail)
  try simp only [Act.put, List.setIfInBounds_toArray, List.set_cons_zero, List.set_cons_succ]
  apply sch_firm rfl rfl (by repeat (first | with_reducible exact Below.refl _ _ | with_reducible assumption | with_reducible refine Below.drew ?_ | with_reducible refine Below.trans ?_ (by assumption)))
  · intro wq hq
    have hcq : ∀ b o, b < w2.heap.size → wq.cell? ⟨b, o, none⟩ = w0.cell? ⟨b, o, none⟩ := fun b o hb => hq.cell (p := ⟨b, o, none⟩) hb
    clear hq
    go_simp
    first | rfl | (trace_state; fail)
  try simp only [Act.put, List.setIfInBounds_toArray, List.set_cons_zero, List.set_cons_succ]
  apply sch_firm rfl rfl (by repeat (first | with_reducible exact Below.refl _ _ | with_reducible assumption | with_reducible refine Below.drew ?_ | with_reducible refine Below.trans ?_ (by assumption)))
  · intro wq hq
    have hcq : ∀ b o, b < w2.heap.size → wq.cell? ⟨b, o, none⟩ = w0.cell? ⟨b, o, none⟩ := fun b o hb => hq.cell (p := ⟨b, o, none⟩) hb
    clear hq
    go_simp
    first | rfl | (trace_state; fail)
  try simp only [Act.put, List.setIfInBounds_toArray, List.set_cons_zero, List.set_cons_succ]
  refine sch_one rfl rfl (fun K hK => ?_)
  go_simp
  refine (put4 w2.heap.size _ [181, 98, S, C] q (by have := HQ.out; omega) (by simp) _ (by exact hW.size) (by exact hO)).mono ?_; rintro e3 w3 ⟨v3, rfl, hO3, hB3⟩
  have hB3' : Below w2.heap.size w0 w3 := (Below.drew (Below.refl _ w0)).trans hB3
  refine hK _ _ (fun _ => (by repeat (first | with_reducible exact Below.refl _ _ | with_reducible assumption | with_reducible refine Below.drew ?_ | with_reducible refine Below.trans ?_ (by assumption)))) ?_
  clear hK K
  try simp only [Act.put, List.setIfInBounds_toArray, List.set_cons_zero, List.set_cons_succ]
  refine sch_one rfl rfl (fun K hK => ?_)
  go_simp
  refine (put4 w2.heap.size _ ([181, 98, S, C] ++ leBytes 4 q) t (by have := HQ.out; omega) (by simp [leBytes_len]) _ (by exact Nat.le_trans hW.size hB3'.size) (by exact hO3)).mono ?_; rintro e4 w4 ⟨v4, rfl, hO4, hB4⟩
  have hB4' : Below w2.heap.size w0 w4 := hB3'.trans hB4
  refine hK _ _ (fun _ => (by repeat (first | with_reducible exact Below.refl _ _ | with_reducible assumption | with_reducible refine Below.drew ?_ | with_reducible refine Below.trans ?_ (by assumption)))) ?_
  clear hK K
  try simp only [Act.put, List.setIfInBounds_toArray, List.set_cons_zero, List.set_cons_succ]
  refine sch_one rfl rfl (fun K hK => ?_)
  go_simp
  refine hK _ _ (fun h => absurd h (by decide)) ?_
  clear hK K
  try simp only [Act.put, List.setIfInBounds_toArray, List.set_cons_zero, List.set_cons_succ]
  refine sch_nil ?_
  obtain ⟨HL, hHL⟩ : ∃ HL, HL = [181, 98, S, C] ++ leBytes 4 q ++ leBytes 4 t := ⟨_, rfl⟩
  rw [← hHL] at hO4
  have hlen : HL.length = 12 := by rw [hHL]; simp [leBytes_len]
  have hbyt : Bytes HL := by
    rw [hHL]
    refine Bytes.append (Bytes.append ?_ (leBytes_bytes _ _)) (leBytes_bytes _ _)
    have hC := HC.out
    intro z hz
    simp only [List.mem_cons, List.not_mem_nil, or_false] at hz
    rcases hz with rfl | rfl | rfl | rfl <;> omega
  have hin4 : Within w2 w4 := Below.trans hW hB4'
  have d0 := (hin4.cells _ 0 hg2).trans a2_0
  have d1 := (hin4.cells _ 1 hg2).trans a2_1
  have d2 := (hin4.cells _ 2 hg2).trans a2_2
  have d3 := (hin4.cells _ 3 hg2).trans a2_3
  have HHL := Lib.hid hHL; have HLEN := Lib.hid hlen; have HO4 := Lib.hid hO4
  clear hO hW b0 b1 b2 b3 hO3 hB3 hB3' hO4 hB4 hB4' HG hHL hlen
  go_wp2
  go_loopw [7, 42] (fun bv iv wr => ∃ k : Nat, k ≤ l.length ∧ iv = .int .i64 (k : Int) ∧ OwnB wr w2.heap.size bv (HL ++ bodyV pf true (l.take k)) ∧ Within w2 wr) (fun _ iv _ => l.length - (intOf iv).toNat)
  case atStart => exact ⟨0, Nat.zero_le _, rfl, (by rw [show bodyV pf true (l.take 0) = [] from rfl, List.append_nil]; exact HO4.out), hin4⟩
  case round =>
    obtain ⟨k, hk, rfl, hown, hin⟩ := hrel
    obtain ⟨L, hL⟩ : ∃ L, L = HL ++ bodyV pf true (l.take k) := ⟨_, rfl⟩
    rw [← hL] at hown
    have hLl : L.length ≤ 100 := by rw [hL, List.length_append, bodyV_len, HLEN.out, List.length_take]; unfold stp; split <;> omega
    have hLb : Bytes L := by rw [hL]; exact hbyt.append (bodyV_bytes _ _)
    have hbr : w2.heap.size ≤ wr.heap.size := hin.size
    have HOW := Lib.hid hown; have HLE := Lib.hid hL; have HLL := Lib.hid hLl; clear hown hL hLl
    by_cases hlt : k < l.length
    · obtain ⟨ad, rfl, hblk, hc⟩ := (hsl2.of hin).at hlt
      obtain ⟨x, hx⟩ : ∃ x, x = l.getD k 0 := ⟨_, rfl⟩
      have hx2 : x < 18446744073709551616 := by rw [hx]; exact HW.out.at hlt
      rw [← hx] at hc
      have hnext := body_snoc (F := pf) true hlt
      rw [← hx] at hnext
      simp only [if_true] at hnext
      have HN := Lib.hid hnext; have HX2 := Lib.hid hx2; clear hx hx2 hnext
      go_wp2_with fail
      refine (put8 w2.heap.size _ L x HX2.out (by have := HLL.out; omega) _ (by exact hbr) (by exact HOW.out)).mono ?_; rintro e5 w5 ⟨v5, rfl, hO5, hB5⟩
      have HO5 := Lib.hid hO5; clear hO5
      go_wp2
      go_roundw
      case rel => exact ⟨k + 1, hlt, by go_num, (by have := HO5.out; rw [HLE.out, List.append_assoc, ← HN.out] at this; exact this), Below.trans hin hB5⟩
      case measure => simp [intOf]; omega
    · obtain rfl : k = l.length := by omega
      obtain ⟨A5, k5, rfl, _, hat5, _⟩ := HOW.out.form
      have hcr := crcOf_lt hLb
      have g7 : IntKind.u64.wrap (crcOf L : Int) = (crcOf L : Int) := by rw [IntKind.wrap_u64]; omega
      have SM := Lib.hid (sum_any A5 k5 L hLb (by have := HLL.out; omega) wr hat5)
      have HCR := Lib.hid hcr; have HLB := Lib.hid hLb; clear hcr hLb
      go_wp2_with fail
      refine SM.out.mono ?_; rintro e5 w5 ⟨rfl, rfl⟩
      go_wp2_with fail
      refine (put4 w2.heap.size _ L (crcOf L) (by have := HCR.out; omega) (by have := HLL.out; omega) _ (by exact hbr) (by exact HOW.out)).mono ?_; rintro e6 w6 ⟨v6, rfl, hO6, hB6⟩
      go_wp2
      go_ret2
      refine ⟨_, rfl, ?_, hin2.trans (Below.trans hin hB6)⟩
      have e : L = headV true S l.length q t ++ bodyV pf true l := by
        have h1 := HLE.out; rw [List.take_of_length_le (Nat.le_refl _), HHL.out, HC.out] at h1; exact h1
      unfold withSum
      rw [← e]
      exact hO6.less hin2.size

set_option maxRecDepth 100000 in
set_option maxHeartbeats 1000000 in
theorem Pack_near (S q t : Nat) (A : Option Addr) (c : Nat) (l : List Nat) (hS : S < 64) (hl : l.length ≤ 6) (hq : q < 4294967296) (ht : t < 4294967296) (hw : Words64 l) (hfin : l.all finD = true) (hsg : l.all isSD = true) (CK : Hid (∀ w, SlAt w A (f64v l) → Calls Tryd.prog 14 #[.agg #[.int .i64 (S : Int), .int .u32 (q : Int), .int .u32 (t : Int), .slice A l.length c]] w fun e1 w' => e1 = .returned (.int .i64 (0)) ∧ Within w w')) (SG : Hid (∀ w, FmS w → SlAt w A (f64v l) → Calls Tryd.prog 16 #[.agg #[.int .i64 (S : Int), .int .u32 (q : Int), .int .u32 (t : Int), .slice A l.length c]] w fun e w' => e = .returned (.bool true) ∧ Within w w')) (w : World) (hT : FmS w) (hr : SlAt w A (f64v l)) : Calls Tryd.prog 12 #[.agg #[.int .i64 (S : Int), .int .u32 (q : Int), .int .u32 (t : Int), .slice A l.length c]] w fun e w' => ∃ v, e = .returned (.tuple #[v, .int .i64 0]) ∧ OwnB w' w.heap.size v (withSum (headV false S l.length q t ++ bodyV pf false l)) ∧ Within w w' := by
  have HW := Lib.hid hw; have HR := Lib.hid hr; have HT := Lib.hid hT; have HF := Lib.hid hfin; clear hw hr hT hfin
  have HSG := Lib.hid hsg; clear hsg
  have g1 : IntKind.u8.wrap (l.length : Int) = (l.length : Int) := by rw [IntKind.wrap_u8]; omega
  have g2 : IntKind.u8.wrap (S : Int) = (S : Int) := by rw [IntKind.wrap_u8]; omega
  have g4 : IntKind.u64.wrap (q : Int) = (q : Int) := by rw [IntKind.wrap_u64]; omega
  have g5 : IntKind.u64.wrap (t : Int) = (t : Int) := by rw [IntKind.wrap_u64]; omega
  have HQ := Lib.hid (And.intro hq ht); clear hq ht
  have c0 : (w.alloc (.cells #[.int .i64 (S : Int), .int .u32 (q : Int), .int .u32 (t : Int), .slice A l.length c] 29)).cell? ⟨w.heap.size, 0, none⟩ = some (.int .i64 (S : Int)) := by go_simp
  have c1 : (w.alloc (.cells #[.int .i64 (S : Int), .int .u32 (q : Int), .int .u32 (t : Int), .slice A l.length c] 29)).cell? ⟨w.heap.size, 1, none⟩ = some (.int .u32 (q : Int)) := by go_simp
  have c2 : (w.alloc (.cells #[.int .i64 (S : Int), .int .u32 (q : Int), .int .u32 (t : Int), .slice A l.length c] 29)).cell? ⟨w.heap.size, 2, none⟩ = some (.int .u32 (t : Int)) := by go_simp
  have c3 : (w.alloc (.cells #[.int .i64 (S : Int), .int .u32 (q : Int), .int .u32 (t : Int), .slice A l.length c] 29)).cell? ⟨w.heap.size, 3, none⟩ = some (.slice A l.length c) := by go_simp
  have hg : w.heap.size < (w.alloc (.cells #[.int .i64 (S : Int), .int .u32 (q : Int), .int .u32 (t : Int), .slice A l.length c] 29)).heap.size := by simp
  have hsl := HR.out.of ((Within.refl w).alloc (.cells #[.int .i64 (S : Int), .int .u32 (q : Int), .int .u32 (t : Int), .slice A l.length c] 29))
  have hin1 : Within w (w.alloc (.cells #[.int .i64 (S : Int), .int .u32 (q : Int), .int .u32 (t : Int), .slice A l.length c] 29)) := (Within.refl w).alloc _
  go_enter Tryd.func12, Tryd.ntmps12
  go_wp2_with fail
  refine (CK.out _ hsl).mono ?_; rintro e1 w1 ⟨rfl, hv1⟩
  have a1_0 := (hv1.cells _ 0 hg).trans c0
  have a1_1 := (hv1.cells _ 1 hg).trans c1
  have a1_2 := (hv1.cells _ 2 hg).trans c2
  have a1_3 := (hv1.cells _ 3 hg).trans c3
  go_wp2_with fail
  refine (SG.out _ (HT.out.of (hin1.trans hv1)) (hsl.of hv1)).mono ?_; rintro e2 w2 ⟨rfl, hb2⟩
  have hv2 := hv1.trans hb2
  have a2_0 := (hv2.cells _ 0 hg).trans c0
  have a2_1 := (hv2.cells _ 1 hg).trans c1
  have a2_2 := (hv2.cells _ 2 hg).trans c2
  have a2_3 := (hv2.cells _ 3 hg).trans c3
  have hsl2 := hsl.of hv2
  have hin2 := hin1.trans hv2
  have hg2 : w.heap.size < w2.heap.size := Nat.lt_of_lt_of_le hg hv2.size
  have hC : l.length = l.length := rfl
  have hrow := made_row w2 [181, 98, S, l.length] (by simp)
  clear a1_0 a1_1 a1_2 a1_3 c0 c1 c2 c3 hsl hv1 hb2 hv2 hin1
  have HG : Hid (OwnB (w2.alloc (.cells #[.int .u8 181, .int .u8 98, .int .u8 (S : Int), .int .u8 (l.length : Int)] 5)) w2.heap.size (.slice (some ⟨w2.heap.size, 0, none⟩) 4 4) [181, 98, S, l.length]) := Lib.hid hrow
  clear hrow hC
  go_wp2
  refine wp_region_schB (w2.heap.size) (fun W => W.cell? ⟨w.heap.size, 0, none⟩ = some (.int .i64 (S : Int)) ∧ W.cell? ⟨w.heap.size, 1, none⟩ = some (.int .u32 (q : Int)) ∧ W.cell? ⟨w.heap.size, 2, none⟩ = some (.int .u32 (t : Int)) ∧ W.cell? ⟨w.heap.size, 3, none⟩ = some (.slice A l.length c) ∧ OwnB W w2.heap.size (.slice (some ⟨w2.heap.size, 0, none⟩) 4 4) [181, 98, S, l.length] ∧ Within w2 W) 9 (.firm 0 (.firm 1 (.firm 2 (.firm 3 (.firm 5 (.firm 6 (.firm 7 (.one 4 (.one 8 (.one 9 .nil)))))))))) (by kernel_rfl) (by kernel_rfl) ⟨by go_simp, by go_simp, by go_simp, by go_simp, HG.out, (Within.refl w2).alloc _⟩ ?_
  rintro w0 ⟨b0, b1, b2, b3, hO, hW⟩
  try simp only [Act.put, List.setIfInBounds_toArray, List.set_cons_zero, List.set_cons_succ]
  apply sch_firm rfl rfl (by repeat (first | with_reducible exact Below.refl _ _ | with_reducible assumption | with_reducible refine Below.drew ?_ | with_reducible refine Below.trans ?_ (by assumption)))
  · intro wq hq
    have hcq : ∀ b o, b < w2.heap.size → wq.cell? ⟨b, o, none⟩ = w0.cell? ⟨b, o, none⟩ := fun b o hb => hq.cell (p := ⟨b, o, none⟩) hb
    clear hq
    go_simp
    first | rfl | (trace_state; fail)
  try simp only [Act.put, List.setIfInBounds_toArray, List.set_cons_zero, List.set_cons_succ]
  apply sch_firm rfl rfl (by repeat (first | with_reducible exact Below.refl _ _ | with_reducible assumption | with_reducible refine Below.drew ?_ | with_reducible refine Below.trans ?_ (by assumption)))
  · intro wq hq
    have hcq : ∀ b o, b < w2.heap.size → wq.cell? ⟨b, o, none⟩ = w0.cell? ⟨b, o, none⟩ := fun b o hb => hq.cell (p := ⟨b, o, none⟩) hb
    clear hq
    go_simp
    first | rfl | (trace_state; fail)
  try simp only [Act.put, List.setIfInBounds_toArray, List.set_cons_zero, List.set_cons_succ]
  apply sch_firm rfl rfl (by repeat (first | with_reducible exact Below.refl _ _ | with_reducible assumption | with_reducible refine Below.drew ?_ | with_reducible refine Below.trans ?_ (by assumption)))
  · intro wq hq
    have hcq : ∀ b o, b < w2.heap.size → wq.cell? ⟨b, o, none⟩ = w0.cell? ⟨b, o, none⟩ := fun b o hb => hq.cell (p := ⟨b, o, none⟩) hb
    clear hq
    go_simp
    first | rfl | (trace_state; fail)
  try simp only [Act.put, List.setIfInBounds_toArray, List.set_cons_zero, List.set_cons_succ]
  apply sch_firm rfl rfl (by repeat (first | with_reducible exact Below.refl _ _ | with_reducible assumption | with_reducible refine Below.drew ?_ | with_reducible refine Below.trans ?_ (by assumption)))
  · intro wq hq
    have hcq : ∀ b o, b < w2.heap.size → wq.cell? ⟨b, o, none⟩ = w0.cell? ⟨b, o, none⟩ := fun b o hb => hq.cell (p := ⟨b, o, none⟩) hb
    clear hq
    go_simp
    first | rfl | (trace_state; fail)
  try simp only [Act.put, List.setIfInBounds_toArray, List.set_cons_zero, List.set_cons_succ]
  apply sch_firm rfl rfl (by repeat (first | with_reducible exact Below.refl _ _ | with_reducible assumption | with_reducible refine Below.drew ?_ | with_reducible refine Below.trans ?_ (by assumption)))
  · intro wq hq
    have hcq : ∀ b o, b < w2.heap.size → wq.cell? ⟨b, o, none⟩ = w0.cell? ⟨b, o, none⟩ := fun b o hb => hq.cell (p := ⟨b, o, none⟩) hb
    clear hq
    go_simp
    first | rfl | (trace_state; fail)
  try simp only [Act.put, List.setIfInBounds_toArray, List.set_cons_zero, List.set_cons_succ]
  apply sch_firm rfl rfl (by repeat (first | with_reducible exact Below.refl _ _ | with_reducible assumption | with_reducible refine Below.drew ?_ | with_reducible refine Below.trans ?_ (by assumption)))
  · intro wq hq
    have hcq : ∀ b o, b < w2.heap.size → wq.cell? ⟨b, o, none⟩ = w0.cell? ⟨b, o, none⟩ := fun b o hb => hq.cell (p := ⟨b, o, none⟩) hb
    clear hq
    go_simp
    first | rfl | (trace_state; fail)
  try simp only [Act.put, List.setIfInBounds_toArray, List.set_cons_zero, List.set_cons_succ]
  apply sch_firm rfl rfl (by repeat (first | with_reducible exact Below.refl _ _ | with_reducible assumption | with_reducible refine Below.drew ?_ | with_reducible refine Below.trans ?_ (by assumption)))
  · intro wq hq
    have hcq : ∀ b o, b < w2.heap.size → wq.cell? ⟨b, o, none⟩ = w0.cell? ⟨b, o, none⟩ := fun b o hb => hq.cell (p := ⟨b, o, none⟩) hb
    clear hq
    go_simp
    first | rfl | (trace_state; fail)
  try simp only [Act.put, List.setIfInBounds_toArray, List.set_cons_zero, List.set_cons_succ]
  refine sch_one rfl rfl (fun K hK => ?_)
  go_simp
  refine (put4 w2.heap.size _ [181, 98, S, l.length] q (by have := HQ.out; omega) (by simp) _ (by exact hW.size) (by exact hO)).mono ?_; rintro e3 w3 ⟨v3, rfl, hO3, hB3⟩
  have hB3' : Below w2.heap.size w0 w3 := (Below.drew (Below.refl _ w0)).trans hB3
  refine hK _ _ (fun _ => (by repeat (first | with_reducible exact Below.refl _ _ | with_reducible assumption | with_reducible refine Below.drew ?_ | with_reducible refine Below.trans ?_ (by assumption)))) ?_
  clear hK K
  try simp only [Act.put, List.setIfInBounds_toArray, List.set_cons_zero, List.set_cons_succ]
  refine sch_one rfl rfl (fun K hK => ?_)
  go_simp
  refine (put4 w2.heap.size _ ([181, 98, S, l.length] ++ leBytes 4 q) t (by have := HQ.out; omega) (by simp [leBytes_len]) _ (by exact Nat.le_trans hW.size hB3'.size) (by exact hO3)).mono ?_; rintro e4 w4 ⟨v4, rfl, hO4, hB4⟩
  have hB4' : Below w2.heap.size w0 w4 := hB3'.trans hB4
  refine hK _ _ (fun _ => (by repeat (first | with_reducible exact Below.refl _ _ | with_reducible assumption | with_reducible refine Below.drew ?_ | with_reducible refine Below.trans ?_ (by assumption)))) ?_
  clear hK K
  try simp only [Act.put, List.setIfInBounds_toArray, List.set_cons_zero, List.set_cons_succ]
  refine sch_one rfl rfl (fun K hK => ?_)
  go_simp
  refine hK _ _ (fun h => absurd h (by decide)) ?_
  clear hK K
  try simp only [Act.put, List.setIfInBounds_toArray, List.set_cons_zero, List.set_cons_succ]
  refine sch_nil ?_
  obtain ⟨HL, hHL⟩ : ∃ HL, HL = [181, 98, S, l.length] ++ leBytes 4 q ++ leBytes 4 t := ⟨_, rfl⟩
  rw [← hHL] at hO4
  have hlen : HL.length = 12 := by rw [hHL]; simp [leBytes_len]
  have hbyt : Bytes HL := by
    rw [hHL]
    refine Bytes.append (Bytes.append ?_ (leBytes_bytes _ _)) (leBytes_bytes _ _)
    intro z hz
    simp only [List.mem_cons, List.not_mem_nil, or_false] at hz
    rcases hz with rfl | rfl | rfl | rfl <;> omega
  have hin4 : Within w2 w4 := Below.trans hW hB4'
  have d0 := (hin4.cells _ 0 hg2).trans a2_0
  have d1 := (hin4.cells _ 1 hg2).trans a2_1
  have d2 := (hin4.cells _ 2 hg2).trans a2_2
  have d3 := (hin4.cells _ 3 hg2).trans a2_3
  have HHL := Lib.hid hHL; have HLEN := Lib.hid hlen; have HO4 := Lib.hid hO4
  clear hO hW b0 b1 b2 b3 hO3 hB3 hB3' hO4 hB4 hB4' HG hHL hlen
  go_wp2
  go_loopw [7, 42] (fun bv iv wr => ∃ k : Nat, k ≤ l.length ∧ iv = .int .i64 (k : Int) ∧ OwnB wr w2.heap.size bv (HL ++ bodyV pf false (l.take k)) ∧ Within w2 wr) (fun _ iv _ => l.length - (intOf iv).toNat)
  case atStart => exact ⟨0, Nat.zero_le _, rfl, (by rw [show bodyV pf false (l.take 0) = [] from rfl, List.append_nil]; exact HO4.out), hin4⟩
  case round =>
    obtain ⟨k, hk, rfl, hown, hin⟩ := hrel
    obtain ⟨L, hL⟩ : ∃ L, L = HL ++ bodyV pf false (l.take k) := ⟨_, rfl⟩
    rw [← hL] at hown
    have hLl : L.length ≤ 100 := by rw [hL, List.length_append, bodyV_len, HLEN.out, List.length_take]; unfold stp; split <;> omega
    have hLb : Bytes L := by rw [hL]; exact hbyt.append (bodyV_bytes _ _)
    have hbr : w2.heap.size ≤ wr.heap.size := hin.size
    have HOW := Lib.hid hown; have HLE := Lib.hid hL; have HLL := Lib.hid hLl; clear hown hL hLl
    by_cases hlt : k < l.length
    · obtain ⟨ad, rfl, hblk, hc⟩ := (hsl2.of hin).at hlt
      obtain ⟨x, hx⟩ : ∃ x, x = l.getD k 0 := ⟨_, rfl⟩
      have hx2 : x < 18446744073709551616 := by rw [hx]; exact HW.out.at hlt
      rw [← hx] at hc
      have hnext := body_snoc (F := pf) false hlt
      rw [← hx] at hnext
      have hmem : x ∈ l := by rw [hx, List.getD, List.getElem?_eq_getElem hlt]; exact List.getElem_mem hlt
      have hfx := List.all_eq_true.1 HF.out x hmem
      have hsx := List.all_eq_true.1 HSG.out x hmem
      have hcv : ∀ w, (convert 75 78 (.float .f64 x)).run Tryd.prog w = .ok (.float .f32 (nWord x 0)) w := fun w => by
        have h := conv_nar (P := Tryd.prog) (src := 75) (dst := 78) (by kernel_rfl) (by kernel_rfl) x hx2 w
        rw [(nar_single hx2 hfx hsx w).1, (nar_single hx2 hfx hsx w).2] at h; exact h
      obtain ⟨nx, hnx⟩ : ∃ nx, nx = nWord x 0 := ⟨_, rfl⟩
      have hnx2 : nx < 4294967296 := by rw [hnx]; exact nWord_lt x hx2 0
      have hnb : pf.nb x = nx := hnx.symm
      rw [← hnx] at hcv
      have g6 : IntKind.u64.wrap (nx : Int) = (nx : Int) := by rw [IntKind.wrap_u64]; omega
      simp only [Bool.false_eq_true, if_false] at hnext
      rw [hnb] at hnext
      have HNX := Lib.hid hnx2; clear hmem hfx hsx hnx hnx2 hnb
      have HN := Lib.hid hnext; have HX2 := Lib.hid hx2; clear hx hx2 hnext
      go_wp2_with fail
      refine (put4 w2.heap.size _ L nx (by have := HNX.out; omega) (by have := HLL.out; omega) _ (by exact hbr) (by exact HOW.out)).mono ?_; rintro e5 w5 ⟨v5, rfl, hO5, hB5⟩
      have HO5 := Lib.hid hO5; clear hO5
      go_wp2
      go_roundw
      case rel => exact ⟨k + 1, hlt, by go_num, (by have := HO5.out; rw [HLE.out, List.append_assoc, ← HN.out] at this; exact this), Below.trans hin hB5⟩
      case measure => simp [intOf]; omega
    · obtain rfl : k = l.length := by omega
      obtain ⟨A5, k5, rfl, _, hat5, _⟩ := HOW.out.form
      have hcr := crcOf_lt hLb
      have g7 : IntKind.u64.wrap (crcOf L : Int) = (crcOf L : Int) := by rw [IntKind.wrap_u64]; omega
      have SM := Lib.hid (sum_any A5 k5 L hLb (by have := HLL.out; omega) wr hat5)
      have HCR := Lib.hid hcr; have HLB := Lib.hid hLb; clear hcr hLb
      go_wp2_with fail
      refine SM.out.mono ?_; rintro e5 w5 ⟨rfl, rfl⟩
      go_wp2_with fail
      refine (put4 w2.heap.size _ L (crcOf L) (by have := HCR.out; omega) (by have := HLL.out; omega) _ (by exact hbr) (by exact HOW.out)).mono ?_; rintro e6 w6 ⟨v6, rfl, hO6, hB6⟩
      go_wp2
      go_ret2
      refine ⟨_, rfl, ?_, hin2.trans (Below.trans hin hB6)⟩
      have e : L = headV false S l.length q t ++ bodyV pf false l := by
        have h1 := HLE.out; rw [List.take_of_length_le (Nat.le_refl _), HHL.out] at h1; exact h1
      unfold withSum
      rw [← e]
      exact hO6.less hin2.size

set_option maxRecDepth 100000 in
set_option maxHeartbeats 1000000 in
theorem Rpack_wide (S q t : Nat) (A : Option Addr) (c : Nat) (l : List Nat) (hS : S < 64) (hl : l.length ≤ 6) (hq : q < 4294967296) (ht : t < 4294967296) (hw : Words64 l) (hfin : l.all finD = true) (CK : Hid (∀ w, SlAt w A (f64v l) → Calls Tryd.prog 15 #[.agg #[.int .i64 (S : Int), .int .u32 (q : Int), .int .u32 (t : Int), .slice A l.length c]] w fun e1 w' => e1 = .returned (.int .i64 (0)) ∧ Within w w')) (SG : Hid (∀ w, SlAt w A (f64v l) → Calls Tryd.prog 17 #[.slice A l.length c] w fun e w' => e = .returned (.bool false) ∧ Within w w')) (w : World) (hr : SlAt w A (f64v l)) : Calls Tryd.prog 13 #[.agg #[.int .i64 (S : Int), .int .u32 (q : Int), .int .u32 (t : Int), .slice A l.length c]] w fun e w' => ∃ v, e = .returned (.tuple #[v, .int .i64 0]) ∧ OwnB w' w.heap.size v (withSum (headV true S l.length q t ++ bodyV pf true l)) ∧ Within w w' := by
  have HW := Lib.hid hw; have HR := Lib.hid hr; have HF := Lib.hid hfin; clear hw hr hfin
  have g1 : IntKind.u8.wrap (l.length : Int) = (l.length : Int) := by rw [IntKind.wrap_u8]; omega
  have g1' : IntKind.u8.wrap ((l.length : Int) + 128) = (l.length : Int) + 128 := by rw [IntKind.wrap_u8]; omega
  have g2 : IntKind.u8.wrap (S : Int) = (S : Int) := by rw [IntKind.wrap_u8]; omega
  have g4 : IntKind.u64.wrap (q : Int) = (q : Int) := by rw [IntKind.wrap_u64]; omega
  have g5 : IntKind.u64.wrap (t : Int) = (t : Int) := by rw [IntKind.wrap_u64]; omega
  have HQ := Lib.hid (And.intro hq ht); clear hq ht
  have c0 : (w.alloc (.cells #[.int .i64 (S : Int), .int .u32 (q : Int), .int .u32 (t : Int), .slice A l.length c] 29)).cell? ⟨w.heap.size, 0, none⟩ = some (.int .i64 (S : Int)) := by go_simp
  have c1 : (w.alloc (.cells #[.int .i64 (S : Int), .int .u32 (q : Int), .int .u32 (t : Int), .slice A l.length c] 29)).cell? ⟨w.heap.size, 1, none⟩ = some (.int .u32 (q : Int)) := by go_simp
  have c2 : (w.alloc (.cells #[.int .i64 (S : Int), .int .u32 (q : Int), .int .u32 (t : Int), .slice A l.length c] 29)).cell? ⟨w.heap.size, 2, none⟩ = some (.int .u32 (t : Int)) := by go_simp
  have c3 : (w.alloc (.cells #[.int .i64 (S : Int), .int .u32 (q : Int), .int .u32 (t : Int), .slice A l.length c] 29)).cell? ⟨w.heap.size, 3, none⟩ = some (.slice A l.length c) := by go_simp
  have hg : w.heap.size < (w.alloc (.cells #[.int .i64 (S : Int), .int .u32 (q : Int), .int .u32 (t : Int), .slice A l.length c] 29)).heap.size := by simp
  have hsl := HR.out.of ((Within.refl w).alloc (.cells #[.int .i64 (S : Int), .int .u32 (q : Int), .int .u32 (t : Int), .slice A l.length c] 29))
  have hin1 : Within w (w.alloc (.cells #[.int .i64 (S : Int), .int .u32 (q : Int), .int .u32 (t : Int), .slice A l.length c] 29)) := (Within.refl w).alloc _
  go_enter Tryd.func13, Tryd.ntmps13
  go_wp2_with fail
  refine (CK.out _ hsl).mono ?_; rintro e1 w1 ⟨rfl, hv1⟩
  have a1_0 := (hv1.cells _ 0 hg).trans c0
  have a1_1 := (hv1.cells _ 1 hg).trans c1
  have a1_2 := (hv1.cells _ 2 hg).trans c2
  have a1_3 := (hv1.cells _ 3 hg).trans c3
  go_wp2_with fail
  refine (SG.out _ (hsl.of hv1)).mono ?_; rintro e2 w2 ⟨rfl, hb2⟩
  have hv2 := hv1.trans hb2
  have a2_0 := (hv2.cells _ 0 hg).trans c0
  have a2_1 := (hv2.cells _ 1 hg).trans c1
  have a2_2 := (hv2.cells _ 2 hg).trans c2
  have a2_3 := (hv2.cells _ 3 hg).trans c3
  have hsl2 := hsl.of hv2
  have hin2 := hin1.trans hv2
  have hg2 : w.heap.size < w2.heap.size := Nat.lt_of_lt_of_le hg hv2.size
  have hrow := made_row w2 [181, 98, S, l.length + 128] (by simp)
  clear a1_0 a1_1 a1_2 a1_3 c0 c1 c2 c3 hsl hv1 hb2 hv2 hin1
  have HG : Hid (OwnB (w2.alloc (.cells #[.int .u8 181, .int .u8 98, .int .u8 (S : Int), .int .u8 ((l.length : Int) + 128)] 5)) w2.heap.size (.slice (some ⟨w2.heap.size, 0, none⟩) 4 4) [181, 98, S, l.length + 128]) := Lib.hid hrow
  clear hrow
  have hW : Within w2 (w2.alloc (.cells #[.int .u8 181, .int .u8 98, .int .u8 (S : Int), .int .u8 ((l.length : Int) + 128)] 5)) := (Within.refl w2).alloc _
  go_wp2_with fail
  refine (Rput4 w2.heap.size _ [181, 98, S, l.length + 128] q (by have := HQ.out; omega) (by simp) _ (by exact hW.size) (by exact HG.out)).mono ?_; rintro e3 w3 ⟨v3, rfl, hO3, hB3⟩
  have hin3 : Within w2 w3 := Below.trans hW hB3
  have f0 := (hin3.cells _ 0 hg2).trans a2_0
  have f1 := (hin3.cells _ 1 hg2).trans a2_1
  have f2 := (hin3.cells _ 2 hg2).trans a2_2
  have f3 := (hin3.cells _ 3 hg2).trans a2_3
  have HO3 := Lib.hid hO3; clear hO3
  go_wp2_with fail
  refine (Rput4 w2.heap.size _ ([181, 98, S, l.length + 128] ++ leBytes 4 q) t (by have := HQ.out; omega) (by simp [leBytes_len]) _ (by exact hin3.size) (by exact HO3.out)).mono ?_; rintro e4 w4 ⟨v4, rfl, hO4, hB4⟩
  have hin4 : Within w2 w4 := Below.trans hin3 hB4
  obtain ⟨HL, hHL⟩ : ∃ HL, HL = [181, 98, S, l.length + 128] ++ leBytes 4 q ++ leBytes 4 t := ⟨_, rfl⟩
  rw [← hHL] at hO4
  have hlen : HL.length = 12 := by rw [hHL]; simp [leBytes_len]
  have hbyt : Bytes HL := by
    rw [hHL]
    refine Bytes.append (Bytes.append ?_ (leBytes_bytes _ _)) (leBytes_bytes _ _)
    intro z hz
    simp only [List.mem_cons, List.not_mem_nil, or_false] at hz
    rcases hz with rfl | rfl | rfl | rfl <;> omega
  have d0 := (hin4.cells _ 0 hg2).trans a2_0
  have d1 := (hin4.cells _ 1 hg2).trans a2_1
  have d2 := (hin4.cells _ 2 hg2).trans a2_2
  have d3 := (hin4.cells _ 3 hg2).trans a2_3
  have HHL := Lib.hid hHL; have HLEN := Lib.hid hlen; have HO4 := Lib.hid hO4
  clear hW HO3 hB3 hin3 hO4 hB4 HG hHL hlen f0 f1 f2 f3
  go_wp2
  go_loopw [7, 44] (fun bv iv wr => ∃ k : Nat, k ≤ l.length ∧ iv = .int .i64 (k : Int) ∧ OwnB wr w2.heap.size bv (HL ++ bodyV pf true (l.take k)) ∧ Within w2 wr) (fun _ iv _ => l.length - (intOf iv).toNat)
  case atStart => exact ⟨0, Nat.zero_le _, rfl, (by rw [show bodyV pf true (l.take 0) = [] from rfl, List.append_nil]; exact HO4.out), hin4⟩
  case round =>
    obtain ⟨k, hk, rfl, hown, hin⟩ := hrel
    obtain ⟨L, hL⟩ : ∃ L, L = HL ++ bodyV pf true (l.take k) := ⟨_, rfl⟩
    rw [← hL] at hown
    have hLl : L.length ≤ 100 := by rw [hL, List.length_append, bodyV_len, HLEN.out, List.length_take]; unfold stp; split <;> omega
    have hLb : Bytes L := by rw [hL]; exact hbyt.append (bodyV_bytes _ _)
    have hbr : w2.heap.size ≤ wr.heap.size := hin.size
    have HOW := Lib.hid hown; have HLE := Lib.hid hL; have HLL := Lib.hid hLl; clear hown hL hLl
    by_cases hlt : k < l.length
    · obtain ⟨ad, rfl, hblk, hc⟩ := (hsl2.of hin).at hlt
      obtain ⟨x, hx⟩ : ∃ x, x = l.getD k 0 := ⟨_, rfl⟩
      have hx2 : x < 18446744073709551616 := by rw [hx]; exact HW.out.at hlt
      rw [← hx] at hc
      have hnext := body_snoc (F := pf) true hlt
      rw [← hx] at hnext
      simp only [if_true] at hnext
      have HN := Lib.hid hnext; have HX2 := Lib.hid hx2; clear hx hx2 hnext
      go_wp2_with fail
      refine (Rput8 w2.heap.size _ L x HX2.out (by have := HLL.out; omega) _ (by exact hbr) (by exact HOW.out)).mono ?_; rintro e5 w5 ⟨v5, rfl, hO5, hB5⟩
      have HO5 := Lib.hid hO5; clear hO5
      go_wp2
      go_roundw
      case rel => exact ⟨k + 1, hlt, by go_num, (by have := HO5.out; rw [HLE.out, List.append_assoc, ← HN.out] at this; exact this), Below.trans hin hB5⟩
      case measure => simp [intOf]; omega
    · obtain rfl : k = l.length := by omega
      obtain ⟨A5, k5, rfl, _, hat5, _⟩ := HOW.out.form
      have hcr := crcOf_lt hLb
      have g7 : IntKind.u64.wrap (crcOf L : Int) = (crcOf L : Int) := by rw [IntKind.wrap_u64]; omega
      have SM := Lib.hid (Rsum_any A5 k5 L hLb (by have := HLL.out; omega) wr hat5)
      have HCR := Lib.hid hcr; have HLB := Lib.hid hLb; clear hcr hLb
      go_wp2_with fail
      refine SM.out.mono ?_; rintro e5 w5 ⟨rfl, rfl⟩
      go_wp2_with fail
      refine (Rput4 w2.heap.size _ L (crcOf L) (by have := HCR.out; omega) (by have := HLL.out; omega) _ (by exact hbr) (by exact HOW.out)).mono ?_; rintro e6 w6 ⟨v6, rfl, hO6, hB6⟩
      go_wp2
      go_ret2
      refine ⟨_, rfl, ?_, hin2.trans (Below.trans hin hB6)⟩
      have e : L = headV true S l.length q t ++ bodyV pf true l := by
        have h1 := HLE.out; rw [List.take_of_length_le (Nat.le_refl _), HHL.out] at h1; exact h1
      unfold withSum
      rw [← e]
      exact hO6.less hin2.size

set_option maxRecDepth 100000 in
set_option maxHeartbeats 1000000 in
theorem Rpack_near (S q t : Nat) (A : Option Addr) (c : Nat) (l : List Nat) (hS : S < 64) (hl : l.length ≤ 6) (hq : q < 4294967296) (ht : t < 4294967296) (hw : Words64 l) (hfin : l.all finD = true) (hsg : l.all isSD = true) (CK : Hid (∀ w, SlAt w A (f64v l) → Calls Tryd.prog 15 #[.agg #[.int .i64 (S : Int), .int .u32 (q : Int), .int .u32 (t : Int), .slice A l.length c]] w fun e1 w' => e1 = .returned (.int .i64 (0)) ∧ Within w w')) (SG : Hid (∀ w, SlAt w A (f64v l) → Calls Tryd.prog 17 #[.slice A l.length c] w fun e w' => e = .returned (.bool true) ∧ Within w w')) (w : World) (hr : SlAt w A (f64v l)) : Calls Tryd.prog 13 #[.agg #[.int .i64 (S : Int), .int .u32 (q : Int), .int .u32 (t : Int), .slice A l.length c]] w fun e w' => ∃ v, e = .returned (.tuple #[v, .int .i64 0]) ∧ OwnB w' w.heap.size v (withSum (headV false S l.length q t ++ bodyV pf false l)) ∧ Within w w' := by
  have HW := Lib.hid hw; have HR := Lib.hid hr; have HF := Lib.hid hfin; clear hw hr hfin
  have HSG := Lib.hid hsg; clear hsg
  have g1 : IntKind.u8.wrap (l.length : Int) = (l.length : Int) := by rw [IntKind.wrap_u8]; omega
  have g1' : IntKind.u8.wrap ((l.length : Int) + 128) = (l.length : Int) + 128 := by rw [IntKind.wrap_u8]; omega
  have g2 : IntKind.u8.wrap (S : Int) = (S : Int) := by rw [IntKind.wrap_u8]; omega
  have g4 : IntKind.u64.wrap (q : Int) = (q : Int) := by rw [IntKind.wrap_u64]; omega
  have g5 : IntKind.u64.wrap (t : Int) = (t : Int) := by rw [IntKind.wrap_u64]; omega
  have HQ := Lib.hid (And.intro hq ht); clear hq ht
  have c0 : (w.alloc (.cells #[.int .i64 (S : Int), .int .u32 (q : Int), .int .u32 (t : Int), .slice A l.length c] 29)).cell? ⟨w.heap.size, 0, none⟩ = some (.int .i64 (S : Int)) := by go_simp
  have c1 : (w.alloc (.cells #[.int .i64 (S : Int), .int .u32 (q : Int), .int .u32 (t : Int), .slice A l.length c] 29)).cell? ⟨w.heap.size, 1, none⟩ = some (.int .u32 (q : Int)) := by go_simp
  have c2 : (w.alloc (.cells #[.int .i64 (S : Int), .int .u32 (q : Int), .int .u32 (t : Int), .slice A l.length c] 29)).cell? ⟨w.heap.size, 2, none⟩ = some (.int .u32 (t : Int)) := by go_simp
  have c3 : (w.alloc (.cells #[.int .i64 (S : Int), .int .u32 (q : Int), .int .u32 (t : Int), .slice A l.length c] 29)).cell? ⟨w.heap.size, 3, none⟩ = some (.slice A l.length c) := by go_simp
  have hg : w.heap.size < (w.alloc (.cells #[.int .i64 (S : Int), .int .u32 (q : Int), .int .u32 (t : Int), .slice A l.length c] 29)).heap.size := by simp
  have hsl := HR.out.of ((Within.refl w).alloc (.cells #[.int .i64 (S : Int), .int .u32 (q : Int), .int .u32 (t : Int), .slice A l.length c] 29))
  have hin1 : Within w (w.alloc (.cells #[.int .i64 (S : Int), .int .u32 (q : Int), .int .u32 (t : Int), .slice A l.length c] 29)) := (Within.refl w).alloc _
  go_enter Tryd.func13, Tryd.ntmps13
  go_wp2_with fail
  refine (CK.out _ hsl).mono ?_; rintro e1 w1 ⟨rfl, hv1⟩
  have a1_0 := (hv1.cells _ 0 hg).trans c0
  have a1_1 := (hv1.cells _ 1 hg).trans c1
  have a1_2 := (hv1.cells _ 2 hg).trans c2
  have a1_3 := (hv1.cells _ 3 hg).trans c3
  go_wp2_with fail
  refine (SG.out _ (hsl.of hv1)).mono ?_; rintro e2 w2 ⟨rfl, hb2⟩
  have hv2 := hv1.trans hb2
  have a2_0 := (hv2.cells _ 0 hg).trans c0
  have a2_1 := (hv2.cells _ 1 hg).trans c1
  have a2_2 := (hv2.cells _ 2 hg).trans c2
  have a2_3 := (hv2.cells _ 3 hg).trans c3
  have hsl2 := hsl.of hv2
  have hin2 := hin1.trans hv2
  have hg2 : w.heap.size < w2.heap.size := Nat.lt_of_lt_of_le hg hv2.size
  have hrow := made_row w2 [181, 98, S, l.length] (by simp)
  clear a1_0 a1_1 a1_2 a1_3 c0 c1 c2 c3 hsl hv1 hb2 hv2 hin1
  have HG : Hid (OwnB (w2.alloc (.cells #[.int .u8 181, .int .u8 98, .int .u8 (S : Int), .int .u8 (l.length : Int)] 5)) w2.heap.size (.slice (some ⟨w2.heap.size, 0, none⟩) 4 4) [181, 98, S, l.length]) := Lib.hid hrow
  clear hrow
  have hW : Within w2 (w2.alloc (.cells #[.int .u8 181, .int .u8 98, .int .u8 (S : Int), .int .u8 (l.length : Int)] 5)) := (Within.refl w2).alloc _
  go_wp2_with fail
  refine (Rput4 w2.heap.size _ [181, 98, S, l.length] q (by have := HQ.out; omega) (by simp) _ (by exact hW.size) (by exact HG.out)).mono ?_; rintro e3 w3 ⟨v3, rfl, hO3, hB3⟩
  have hin3 : Within w2 w3 := Below.trans hW hB3
  have f0 := (hin3.cells _ 0 hg2).trans a2_0
  have f1 := (hin3.cells _ 1 hg2).trans a2_1
  have f2 := (hin3.cells _ 2 hg2).trans a2_2
  have f3 := (hin3.cells _ 3 hg2).trans a2_3
  have HO3 := Lib.hid hO3; clear hO3
  go_wp2_with fail
  refine (Rput4 w2.heap.size _ ([181, 98, S, l.length] ++ leBytes 4 q) t (by have := HQ.out; omega) (by simp [leBytes_len]) _ (by exact hin3.size) (by exact HO3.out)).mono ?_; rintro e4 w4 ⟨v4, rfl, hO4, hB4⟩
  have hin4 : Within w2 w4 := Below.trans hin3 hB4
  obtain ⟨HL, hHL⟩ : ∃ HL, HL = [181, 98, S, l.length] ++ leBytes 4 q ++ leBytes 4 t := ⟨_, rfl⟩
  rw [← hHL] at hO4
  have hlen : HL.length = 12 := by rw [hHL]; simp [leBytes_len]
  have hbyt : Bytes HL := by
    rw [hHL]
    refine Bytes.append (Bytes.append ?_ (leBytes_bytes _ _)) (leBytes_bytes _ _)
    intro z hz
    simp only [List.mem_cons, List.not_mem_nil, or_false] at hz
    rcases hz with rfl | rfl | rfl | rfl <;> omega
  have d0 := (hin4.cells _ 0 hg2).trans a2_0
  have d1 := (hin4.cells _ 1 hg2).trans a2_1
  have d2 := (hin4.cells _ 2 hg2).trans a2_2
  have d3 := (hin4.cells _ 3 hg2).trans a2_3
  have HHL := Lib.hid hHL; have HLEN := Lib.hid hlen; have HO4 := Lib.hid hO4
  clear hW HO3 hB3 hin3 hO4 hB4 HG hHL hlen f0 f1 f2 f3
  go_wp2
  go_loopw [7, 44] (fun bv iv wr => ∃ k : Nat, k ≤ l.length ∧ iv = .int .i64 (k : Int) ∧ OwnB wr w2.heap.size bv (HL ++ bodyV pf false (l.take k)) ∧ Within w2 wr) (fun _ iv _ => l.length - (intOf iv).toNat)
  case atStart => exact ⟨0, Nat.zero_le _, rfl, (by rw [show bodyV pf false (l.take 0) = [] from rfl, List.append_nil]; exact HO4.out), hin4⟩
  case round =>
    obtain ⟨k, hk, rfl, hown, hin⟩ := hrel
    obtain ⟨L, hL⟩ : ∃ L, L = HL ++ bodyV pf false (l.take k) := ⟨_, rfl⟩
    rw [← hL] at hown
    have hLl : L.length ≤ 100 := by rw [hL, List.length_append, bodyV_len, HLEN.out, List.length_take]; unfold stp; split <;> omega
    have hLb : Bytes L := by rw [hL]; exact hbyt.append (bodyV_bytes _ _)
    have hbr : w2.heap.size ≤ wr.heap.size := hin.size
    have HOW := Lib.hid hown; have HLE := Lib.hid hL; have HLL := Lib.hid hLl; clear hown hL hLl
    by_cases hlt : k < l.length
    · obtain ⟨ad, rfl, hblk, hc⟩ := (hsl2.of hin).at hlt
      obtain ⟨x, hx⟩ : ∃ x, x = l.getD k 0 := ⟨_, rfl⟩
      have hx2 : x < 18446744073709551616 := by rw [hx]; exact HW.out.at hlt
      rw [← hx] at hc
      have hnext := body_snoc (F := pf) false hlt
      rw [← hx] at hnext
      have hmem : x ∈ l := by rw [hx, List.getD, List.getElem?_eq_getElem hlt]; exact List.getElem_mem hlt
      have hfx := List.all_eq_true.1 HF.out x hmem
      have hsx := List.all_eq_true.1 HSG.out x hmem
      have hcv : ∀ w, (convert 75 78 (.float .f64 x)).run Tryd.prog w = .ok (.float .f32 (nWord x 0)) w := fun w => by
        have h := conv_nar (P := Tryd.prog) (src := 75) (dst := 78) (by kernel_rfl) (by kernel_rfl) x hx2 w
        rw [(nar_single hx2 hfx hsx w).1, (nar_single hx2 hfx hsx w).2] at h; exact h
      obtain ⟨nx, hnx⟩ : ∃ nx, nx = nWord x 0 := ⟨_, rfl⟩
      have hnx2 : nx < 4294967296 := by rw [hnx]; exact nWord_lt x hx2 0
      have hnb : pf.nb x = nx := hnx.symm
      rw [← hnx] at hcv
      have g6 : IntKind.u64.wrap (nx : Int) = (nx : Int) := by rw [IntKind.wrap_u64]; omega
      simp only [Bool.false_eq_true, if_false] at hnext
      rw [hnb] at hnext
      have HNX := Lib.hid hnx2; clear hmem hfx hsx hnx hnx2 hnb
      have HN := Lib.hid hnext; have HX2 := Lib.hid hx2; clear hx hx2 hnext
      go_wp2_with fail
      refine (Rput4 w2.heap.size _ L nx (by have := HNX.out; omega) (by have := HLL.out; omega) _ (by exact hbr) (by exact HOW.out)).mono ?_; rintro e5 w5 ⟨v5, rfl, hO5, hB5⟩
      have HO5 := Lib.hid hO5; clear hO5
      go_wp2
      go_roundw
      case rel => exact ⟨k + 1, hlt, by go_num, (by have := HO5.out; rw [HLE.out, List.append_assoc, ← HN.out] at this; exact this), Below.trans hin hB5⟩
      case measure => simp [intOf]; omega
    · obtain rfl : k = l.length := by omega
      obtain ⟨A5, k5, rfl, _, hat5, _⟩ := HOW.out.form
      have hcr := crcOf_lt hLb
      have g7 : IntKind.u64.wrap (crcOf L : Int) = (crcOf L : Int) := by rw [IntKind.wrap_u64]; omega
      have SM := Lib.hid (Rsum_any A5 k5 L hLb (by have := HLL.out; omega) wr hat5)
      have HCR := Lib.hid hcr; have HLB := Lib.hid hLb; clear hcr hLb
      go_wp2_with fail
      refine SM.out.mono ?_; rintro e5 w5 ⟨rfl, rfl⟩
      go_wp2_with fail
      refine (Rput4 w2.heap.size _ L (crcOf L) (by have := HCR.out; omega) (by have := HLL.out; omega) _ (by exact hbr) (by exact HOW.out)).mono ?_; rintro e6 w6 ⟨v6, rfl, hO6, hB6⟩
      go_wp2
      go_ret2
      refine ⟨_, rfl, ?_, hin2.trans (Below.trans hin hB6)⟩
      have e : L = headV false S l.length q t ++ bodyV pf false l := by
        have h1 := HLE.out; rw [List.take_of_length_le (Nat.le_refl _), HHL.out] at h1; exact h1
      unfold withSum
      rw [← e]
      exact hO6.less hin2.size

/-- what Pack answers: a frame, or nothing; and why -/
def packL (s : Int) (q t : Nat) (l : List Nat) : List Nat := if checkV pf s l = 0 then packV pf ⟨s.toNat, q, t, l⟩ else []
theorem check_parts {s : Int} {l : List Nat} (h : checkV pf s l = 0) : 0 ≤ s ∧ s < 64 ∧ l.length ≤ 6 ∧ l.all finD = true := by
  unfold checkV at h
  by_cases h1 : s < 0 ∨ 64 ≤ s ∨ 6 < l.length
  · rw [if_pos h1] at h; cases h
  rw [if_neg h1] at h
  by_cases h2 : l.all pf.fin = true
  · exact ⟨by omega, by omega, by omega, h2⟩
  · rw [if_neg h2] at h; cases h
theorem pack_split {S q t : Nat} {l : List Nat} : packV pf ⟨S, q, t, l⟩ = withSum (headV (!l.all isSD) S l.length q t ++ bodyV pf (!l.all isSD) l) := rfl

theorem Pack_any (s : Int) (q t : Nat) (A : Option Addr) (c : Nat) (l : List Nat) (hq : q < 4294967296) (ht : t < 4294967296) (hw : Words64 l) (hl : l.length ≤ 1152921504606846976) (w : World) (hT : FmS w) (hr : SlAt w A (f64v l)) :
    Calls Tryd.prog 12 #[.agg #[.int .i64 s, .int .u32 (q : Int), .int .u32 (t : Int), .slice A l.length c]] w fun e w' => ∃ v, e = .returned (.tuple #[v, .int .i64 (checkV pf s l)]) ∧ OwnB w' w.heap.size v (packL s q t l) ∧ Within w w' := by
  have CK := Lib.hid (fun w h => Check_any s (.int .u32 (q : Int)) (.int .u32 (t : Int)) A c l hw hl w h)
  unfold packL
  by_cases h : checkV pf s l = 0
  · rw [h] at CK ⊢
    rw [if_pos rfl]
    obtain ⟨h0, h1, h2, h3⟩ := check_parts h
    obtain ⟨S, rfl⟩ : ∃ S : Nat, s = (S : Int) := ⟨s.toNat, by omega⟩
    rw [Int.toNat_natCast, pack_split]
    have SG := Lib.hid (fun w (hT : FmS w) (hr : SlAt w A (f64v l)) => Singles_any A c (.int .i64 (S : Int)) (.int .u32 (q : Int)) (.int .u32 (t : Int)) l hw hl w hT hr)
    cases hs : l.all isSD
    · rw [hs] at SG
      exact Pack_wide S q t A c l (by omega) h2 hq ht hw h3 CK SG w hT hr
    · rw [hs] at SG
      exact Pack_near S q t A c l (by omega) h2 hq ht hw h3 hs CK SG w hT hr
  · rw [if_neg h]
    exact (Pack_bad s q t A c l (checkV pf s l) (by rw [bne_iff_ne]; exact h) CK w hr).mono fun e w' ⟨he, hb⟩ => ⟨_, he, OwnB.nil_ _ _, hb⟩

theorem Rpack_any (s : Int) (q t : Nat) (A : Option Addr) (c : Nat) (l : List Nat) (hq : q < 4294967296) (ht : t < 4294967296) (hw : Words64 l) (hl : l.length ≤ 1152921504606846976) (w : World) (hr : SlAt w A (f64v l)) :
    Calls Tryd.prog 13 #[.agg #[.int .i64 s, .int .u32 (q : Int), .int .u32 (t : Int), .slice A l.length c]] w fun e w' => ∃ v, e = .returned (.tuple #[v, .int .i64 (checkV pf s l)]) ∧ OwnB w' w.heap.size v (packL s q t l) ∧ Within w w' := by
  have CK := Lib.hid (fun w h => Rcheck_any s (.int .u32 (q : Int)) (.int .u32 (t : Int)) A c l hw hl w h)
  unfold packL
  by_cases h : checkV pf s l = 0
  · rw [h] at CK ⊢
    rw [if_pos rfl]
    obtain ⟨h0, h1, h2, h3⟩ := check_parts h
    obtain ⟨S, rfl⟩ : ∃ S : Nat, s = (S : Int) := ⟨s.toNat, by omega⟩
    rw [Int.toNat_natCast, pack_split]
    have SG := Lib.hid (fun w (hr : SlAt w A (f64v l)) => Rsingles_any A c l hw hl w hr)
    cases hs : l.all isSD
    · rw [hs] at SG
      exact Rpack_wide S q t A c l (by omega) h2 hq ht hw h3 CK SG w hr
    · rw [hs] at SG
      exact Rpack_near S q t A c l (by omega) h2 hq ht hw h3 hs CK SG w hr
  · rw [if_neg h]
    exact (Rpack_bad s q t A c l (checkV pf s l) (by rw [bne_iff_ne]; exact h) CK w hr).mono fun e w' ⟨he, hb⟩ => ⟨_, he, OwnB.nil_ _ _, hb⟩

end Go.Proofs.YtmpcnhiklpahnaaDoor
