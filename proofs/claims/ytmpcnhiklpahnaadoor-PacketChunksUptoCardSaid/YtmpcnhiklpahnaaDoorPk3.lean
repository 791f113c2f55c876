/- Packets: readings of bits, checks, sizes: walks. -/
import Derived.Test.YtmpcnhiklpahnaaDoorPk2
import Derived.Test.YtmpcnhiklpahnaaDoorSchg
namespace Go.Proofs.YtmpcnhiklpahnaaDoor
open Go.RowKit

set_option maxRecDepth 100000 in
set_option maxHeartbeats 600000 in
theorem Rof64_any (A : Option Addr) (c : Nat) (l : List Nat) (hw : Words64 l) (hl : l.length * 8 ≤ 140737488355328) (w : World) (hr : SlAt w A (u64v l)) : Calls Tryd.prog 34 #[.slice A l.length c] w fun e w' => ∃ v, e = .returned v ∧ OwnF w' w.heap.size v l ∧ Within w w' := by
  have HW := Lib.hid hw; have HR := Lib.hid hr; have HL := Lib.hid hl; have hl2 : l.length ≤ 1152921504606846976 := by omega
  clear hw hr hl
  go_enter Tryd.func34, Tryd.ntmps34
  go_wp2
  go_loopw [3, 8] (fun xv iv wr => ∃ k : Nat, k ≤ l.length ∧ iv = .int .i64 (k : Int) ∧ OwnF wr w.heap.size xv (l.take k) ∧ Within w wr) (fun _ iv _ => l.length - (intOf iv).toNat)
  case atStart => exact ⟨0, Nat.zero_le _, rfl, OwnF.nil_ _ _, Within.refl _⟩
  case round =>
    obtain ⟨k, hk, rfl, hown, hin⟩ := hrel
    obtain ⟨L, hL⟩ : ∃ L, L = l.take k := ⟨_, rfl⟩
    have hLl : L.length = k := by rw [hL, List.length_take]; omega
    rw [← hL] at hown
    have hbr : w.heap.size ≤ wr.heap.size := hin.size
    by_cases hlt : k < l.length
    · obtain ⟨ad, rfl, hblk, hc⟩ := (HR.out.of hin).at hlt
      obtain ⟨x, hx⟩ : ∃ x, x = l.getD k 0 := ⟨_, rfl⟩
      have hx2 : x < 18446744073709551616 := by rw [hx]; exact HW.out.at hlt
      rw [← hx] at hc
      obtain ⟨A', c', rfl, _, _, _⟩ := hown.form
      obtain ⟨v', w', hrun, hown', hbl'⟩ := run_app_float wr w.heap.size _ _ x hown (by have := HL.out; omega) hbr
      have RUN := Lib.hid hrun
      have hnext : L ++ [x] = l.take (k + 1) := by rw [take_snoc_getD hlt, hL, hx]
      have HN := Lib.hid hnext; have HOW := Lib.hid hown'
      clear hrun hown hown' hnext hL hx
      generalize L.length = n at *
      go_wp2_with (at_builtin; refine wpList_append_run rfl (.tmp 12) (.tmp 15) 27 rfl _ _ rfl rfl RUN.out ?_)
      go_roundw
      case rel => exact ⟨k + 1, hlt, by go_num, HN.out ▸ HOW.out, Below.trans hin hbl'⟩
      case measure => simp [intOf]; omega
    · obtain rfl : k = l.length := by omega
      have HOW := Lib.hid hown; have HLE := Lib.hid hL; clear hL hown hLl
      go_wp2
      go_ret
      exact ⟨_, rfl, (by have := HLE.out; rw [List.take_of_length_le (Nat.le_refl _)] at this; exact this ▸ HOW.out), hin⟩

set_option maxRecDepth 100000 in
set_option maxHeartbeats 600000 in
theorem Of_any (s q t : Int) (A : Option Addr) (c : Nat) (l : List Nat) (hw : Words64 l) (hl : l.length * 8 ≤ 140737488355328) (w : World) (hr : SlAt w A (u64v l)) : Calls Tryd.prog 11 #[.agg #[.int .i64 s, .int .u32 q, .int .u32 t, .slice A l.length c]] w fun e w' => ∃ v, e = .returned (.agg #[.int .i64 s, .int .u32 q, .int .u32 t, v]) ∧ OwnF w' w.heap.size v l ∧ Within w w' := by
  have OF := Lib.hid (fun w (hr : SlAt w A (u64v l)) => Rof64_any A c l hw hl w hr)
  have HR := Lib.hid hr; clear hw hr hl
  have HN : Hid (OwnF w w.heap.size (.slice none 0 0) []) := Lib.hid (OwnF.nil_ _ _)
  go_enter Tryd.func11, Tryd.ntmps11
  go_upto_region 1 with fail
  refine wp_region_schG (fun W => W.cell? ⟨w.heap.size, 0, none⟩ = some (.int .i64 s) ∧ W.cell? ⟨w.heap.size, 1, none⟩ = some (.int .u32 q) ∧ W.cell? ⟨w.heap.size, 2, none⟩ = some (.int .u32 t) ∧ W.cell? ⟨w.heap.size, 3, none⟩ = some (.slice A l.length c) ∧ W.cell? ⟨w.heap.size + 1, 0, none⟩ = some (.int .i64 0) ∧ W.cell? ⟨w.heap.size + 1, 1, none⟩ = some (.int .u32 0) ∧ W.cell? ⟨w.heap.size + 1, 2, none⟩ = some (.int .u32 0) ∧ W.cell? ⟨w.heap.size + 1, 3, none⟩ = some (.slice none 0 0) ∧ (∀ o, W.frozen? ⟨w.heap.size + 1, o, none⟩ = false) ∧ SlAt W A (u64v l) ∧ Within ((w.alloc (.cells #[.int .i64 s, .int .u32 q, .int .u32 t, .slice A l.length c] 25)).alloc (.cells #[.int .i64 0, .int .u32 0, .int .u32 0, .slice none 0 0] 29)) W ∧ w.heap.size < W.heap.size ∧ w.heap.size + 1 < W.heap.size) 10 (.firm 0 (.firm 1 (.firm 2 (.firm 3 (.firm 4 (.firm 5 (.firm 6 (.firm 7 (.one 8 (.firm 9 (.one 10 .nil))))))))))) (by kernel_rfl) (by kernel_rfl) ⟨by go_simp, by go_simp, by go_simp, by go_simp, by go_simp, by go_simp, by go_simp, by go_simp, fun o => by go_simp, HR.out.of (((Within.refl w).alloc _).alloc _), Within.refl _, by simp; omega, by simp⟩ ?_
  rintro w0 ⟨c0, c1, c2, c3, c4, c5, c6, c7, hf, hs, hw0, hz0, hz1⟩
  try simp only [Act.put, List.setIfInBounds_toArray, List.set_cons_zero, List.set_cons_succ]
  apply sch_firm rfl rfl (by repeat (first | with_reducible exact Within.refl _ | with_reducible assumption | with_reducible refine Within.alloc ?_ _ | with_reducible refine Within.drew ?_ | with_reducible refine Within.drewN ?_ _ | with_reducible refine Within.setCell ?_ (by first | (simp; done) | (simp; omega)) _ | with_reducible refine Within.trans ?_ (by assumption)))
  · intro wq hq
    have hcq := hq.cells
    clear hq
    go_simp
    first | rfl | (trace_state; fail)
  try simp only [Act.put, List.setIfInBounds_toArray, List.set_cons_zero, List.set_cons_succ]
  apply sch_firm rfl rfl (by repeat (first | with_reducible exact Within.refl _ | with_reducible assumption | with_reducible refine Within.alloc ?_ _ | with_reducible refine Within.drew ?_ | with_reducible refine Within.drewN ?_ _ | with_reducible refine Within.setCell ?_ (by first | (simp; done) | (simp; omega)) _ | with_reducible refine Within.trans ?_ (by assumption)))
  · intro wq hq
    have hcq := hq.cells
    clear hq
    go_simp
    first | rfl | (trace_state; fail)
  try simp only [Act.put, List.setIfInBounds_toArray, List.set_cons_zero, List.set_cons_succ]
  apply sch_firm rfl rfl (by repeat (first | with_reducible exact Within.refl _ | with_reducible assumption | with_reducible refine Within.alloc ?_ _ | with_reducible refine Within.drew ?_ | with_reducible refine Within.drewN ?_ _ | with_reducible refine Within.setCell ?_ (by first | (simp; done) | (simp; omega)) _ | with_reducible refine Within.trans ?_ (by assumption)))
  · intro wq hq
    have hcq := hq.cells
    clear hq
    go_simp
    first | rfl | (trace_state; fail)
  try simp only [Act.put, List.setIfInBounds_toArray, List.set_cons_zero, List.set_cons_succ]
  apply sch_firm rfl rfl (by repeat (first | with_reducible exact Within.refl _ | with_reducible assumption | with_reducible refine Within.alloc ?_ _ | with_reducible refine Within.drew ?_ | with_reducible refine Within.drewN ?_ _ | with_reducible refine Within.setCell ?_ (by first | (simp; done) | (simp; omega)) _ | with_reducible refine Within.trans ?_ (by assumption)))
  · intro wq hq
    have hcq := hq.cells
    clear hq
    go_simp
    first | rfl | (trace_state; fail)
  try simp only [Act.put, List.setIfInBounds_toArray, List.set_cons_zero, List.set_cons_succ]
  apply sch_firm rfl rfl (by repeat (first | with_reducible exact Within.refl _ | with_reducible assumption | with_reducible refine Within.alloc ?_ _ | with_reducible refine Within.drew ?_ | with_reducible refine Within.drewN ?_ _ | with_reducible refine Within.setCell ?_ (by first | (simp; done) | (simp; omega)) _ | with_reducible refine Within.trans ?_ (by assumption)))
  · intro wq hq
    have hcq := hq.cells
    clear hq
    go_simp
    first | rfl | (trace_state; fail)
  try simp only [Act.put, List.setIfInBounds_toArray, List.set_cons_zero, List.set_cons_succ]
  apply sch_firm rfl rfl (by repeat (first | with_reducible exact Within.refl _ | with_reducible assumption | with_reducible refine Within.alloc ?_ _ | with_reducible refine Within.drew ?_ | with_reducible refine Within.drewN ?_ _ | with_reducible refine Within.setCell ?_ (by first | (simp; done) | (simp; omega)) _ | with_reducible refine Within.trans ?_ (by assumption)))
  · intro wq hq
    have hcq := hq.cells
    clear hq
    go_simp
    first | rfl | (trace_state; fail)
  try simp only [Act.put, List.setIfInBounds_toArray, List.set_cons_zero, List.set_cons_succ]
  apply sch_firm rfl rfl (by repeat (first | with_reducible exact Within.refl _ | with_reducible assumption | with_reducible refine Within.alloc ?_ _ | with_reducible refine Within.drew ?_ | with_reducible refine Within.drewN ?_ _ | with_reducible refine Within.setCell ?_ (by first | (simp; done) | (simp; omega)) _ | with_reducible refine Within.trans ?_ (by assumption)))
  · intro wq hq
    have hcq := hq.cells
    clear hq
    go_simp
    first | rfl | (trace_state; fail)
  try simp only [Act.put, List.setIfInBounds_toArray, List.set_cons_zero, List.set_cons_succ]
  apply sch_firm rfl rfl (by repeat (first | with_reducible exact Within.refl _ | with_reducible assumption | with_reducible refine Within.alloc ?_ _ | with_reducible refine Within.drew ?_ | with_reducible refine Within.drewN ?_ _ | with_reducible refine Within.setCell ?_ (by first | (simp; done) | (simp; omega)) _ | with_reducible refine Within.trans ?_ (by assumption)))
  · intro wq hq
    have hcq := hq.cells
    clear hq
    go_simp
    first | rfl | (trace_state; fail)
  try simp only [Act.put, List.setIfInBounds_toArray, List.set_cons_zero, List.set_cons_succ]
  refine sch_one rfl rfl (fun K hK => ?_)
  go_simp
  refine (OF.out _ (hs.of ((Within.refl _).drew))).mono ?_; rintro e1 w1 ⟨v, rfl, hown, hb1⟩
  obtain ⟨A1, k1, rfl, _, _, _⟩ := hown.form
  have hv1 : Within w0 w1 := (by repeat (first | with_reducible exact Within.refl _ | with_reducible assumption | with_reducible refine Within.alloc ?_ _ | with_reducible refine Within.drew ?_ | with_reducible refine Within.drewN ?_ _ | with_reducible refine Within.setCell ?_ (by first | (simp; done) | (simp; omega)) _ | with_reducible refine Within.trans ?_ (by assumption)))
  have q0 := (hv1.cells _ 0 hz1).trans c4
  have q1 := (hv1.cells _ 1 hz1).trans c5
  have q2 := (hv1.cells _ 2 hz1).trans c6
  have q3 := (hv1.cells _ 3 hz1).trans c7
  have qf : ∀ o, w1.frozen? ⟨w.heap.size + 1, o, none⟩ = false := fun o => (hv1.frozens _ o hz1).trans (hf o)
  have hz2 : w.heap.size + 1 < w1.heap.size := Nat.lt_of_lt_of_le hz1 hv1.size
  refine hK _ _ (fun _ => (by repeat (first | with_reducible exact Within.refl _ | with_reducible assumption | with_reducible refine Within.alloc ?_ _ | with_reducible refine Within.drew ?_ | with_reducible refine Within.drewN ?_ _ | with_reducible refine Within.setCell ?_ (by first | (simp; done) | (simp; omega)) _ | with_reducible refine Within.trans ?_ (by assumption)))) ?_
  clear hK K
  try simp only [Act.put, List.setIfInBounds_toArray, List.set_cons_zero, List.set_cons_succ]
  apply sch_firm rfl rfl (by repeat (first | with_reducible exact Within.refl _ | with_reducible assumption | with_reducible refine Within.alloc ?_ _ | with_reducible refine Within.drew ?_ | with_reducible refine Within.drewN ?_ _ | with_reducible refine Within.setCell ?_ (by first | (simp; done) | (simp; omega)) _ | with_reducible refine Within.trans ?_ (by assumption)))
  · intro wq hq
    have hcq := hq.cells
    clear hq
    go_simp
    first | rfl | (trace_state; fail)
  try simp only [Act.put, List.setIfInBounds_toArray, List.set_cons_zero, List.set_cons_succ]
  refine sch_one rfl rfl (fun K hK => ?_)
  go_simp
  refine hK _ _ (fun h => absurd h (by decide)) ?_
  clear hK K
  try simp only [Act.put, List.setIfInBounds_toArray, List.set_cons_zero, List.set_cons_succ]
  refine sch_nil ?_
  go_wp2
  refine bodyPost_ret (v := .agg #[.int .i64 s, .int .u32 q, .int .u32 t, .slice A1 l.length k1]) (by simp [results, Tryd.results11, go_sem, q0, q1, q2, q3]) rfl ⟨_, rfl, ?_, ?_⟩
  · exact (((((OwnF.less hown (Nat.le_refl _) : OwnF w1 w0.heap.size _ l).set hz1 _).set hz1 _).set hz1 _).set hz1 _).less (by omega)
  · exact (by repeat (first | with_reducible exact Within.refl _ | with_reducible assumption | with_reducible refine Within.alloc ?_ _ | with_reducible refine Within.drew ?_ | with_reducible refine Within.drewN ?_ _ | with_reducible refine Within.setCell ?_ (by first | (simp; done) | (simp; omega)) _ | with_reducible refine Within.trans ?_ (by assumption)))

set_option maxRecDepth 100000 in
set_option maxHeartbeats 600000 in
theorem Check_neg (s : Int) (q t : Value) (A : Option Addr) (c : Nat) (l : List Nat) (h : decide (s < 0) = true) (w : World) : Calls Tryd.prog 14 #[.agg #[.int .i64 s, q, t, .slice A l.length c]] w fun e w' => e = .returned (.int .i64 (210)) ∧ Within w w' := by
  go_enter Tryd.func14, Tryd.ntmps14
  go_wp2
  go_ret
  exact ⟨rfl, (by repeat (first | with_reducible exact Within.refl _ | with_reducible assumption | with_reducible refine Within.alloc ?_ _ | with_reducible refine Within.drew ?_ | with_reducible refine Within.drewN ?_ _ | with_reducible refine Within.setCell ?_ (by first | (simp; done) | (simp; omega)) _ | with_reducible refine Within.trans ?_ (by assumption)))⟩

set_option maxRecDepth 100000 in
set_option maxHeartbeats 600000 in
theorem Check_high (s : Int) (q t : Value) (A : Option Addr) (c : Nat) (l : List Nat) (h0 : decide (s < 0) = false) (h : decide (s ≥ 64) = true) (w : World) : Calls Tryd.prog 14 #[.agg #[.int .i64 s, q, t, .slice A l.length c]] w fun e w' => e = .returned (.int .i64 (210)) ∧ Within w w' := by
  go_enter Tryd.func14, Tryd.ntmps14
  go_wp2
  go_ret
  exact ⟨rfl, (by repeat (first | with_reducible exact Within.refl _ | with_reducible assumption | with_reducible refine Within.alloc ?_ _ | with_reducible refine Within.drew ?_ | with_reducible refine Within.drewN ?_ _ | with_reducible refine Within.setCell ?_ (by first | (simp; done) | (simp; omega)) _ | with_reducible refine Within.trans ?_ (by assumption)))⟩

set_option maxRecDepth 100000 in
set_option maxHeartbeats 600000 in
theorem Check_long (s : Int) (q t : Value) (A : Option Addr) (c : Nat) (l : List Nat) (h0 : decide (s < 0) = false) (h1 : decide (s ≥ 64) = false) (h : 6 < l.length) (hl : l.length ≤ 1152921504606846976) (w : World) : Calls Tryd.prog 14 #[.agg #[.int .i64 s, q, t, .slice A l.length c]] w fun e w' => e = .returned (.int .i64 (210)) ∧ Within w w' := by
  go_enter Tryd.func14, Tryd.ntmps14
  go_wp2
  go_ret
  exact ⟨rfl, (by repeat (first | with_reducible exact Within.refl _ | with_reducible assumption | with_reducible refine Within.alloc ?_ _ | with_reducible refine Within.drew ?_ | with_reducible refine Within.drewN ?_ _ | with_reducible refine Within.setCell ?_ (by first | (simp; done) | (simp; omega)) _ | with_reducible refine Within.trans ?_ (by assumption)))⟩

set_option maxRecDepth 100000 in
set_option maxHeartbeats 600000 in
theorem Check_yes (s : Int) (q t : Value) (A : Option Addr) (c : Nat) (l : List Nat) (h0 : decide (s < 0) = false) (h1 : decide (s ≥ 64) = false) (h : l.length ≤ 6) (FI : Hid (∀ w, SlAt w A (f64v l) → Calls Tryd.prog 38 #[.slice A l.length c] w fun e w' => e = .returned (.bool true) ∧ Within w w')) (w : World) (hr : SlAt w A (f64v l)) : Calls Tryd.prog 14 #[.agg #[.int .i64 s, q, t, .slice A l.length c]] w fun e w' => e = .returned (.int .i64 (0)) ∧ Within w w' := by
  have HR := Lib.hid hr; clear hr
  go_enter Tryd.func14, Tryd.ntmps14
  go_wp2_with fail
  refine (FI.out _ (HR.out.of (by repeat (first | with_reducible exact Within.refl _ | with_reducible assumption | with_reducible refine Within.alloc ?_ _ | with_reducible refine Within.drew ?_ | with_reducible refine Within.drewN ?_ _ | with_reducible refine Within.setCell ?_ (by first | (simp; done) | (simp; omega)) _ | with_reducible refine Within.trans ?_ (by assumption))))).mono ?_; rintro e1 w1 ⟨rfl, hb1⟩
  go_wp2
  go_ret
  exact ⟨rfl, (by repeat (first | with_reducible exact Within.refl _ | with_reducible assumption | with_reducible refine Within.alloc ?_ _ | with_reducible refine Within.drew ?_ | with_reducible refine Within.drewN ?_ _ | with_reducible refine Within.setCell ?_ (by first | (simp; done) | (simp; omega)) _ | with_reducible refine Within.trans ?_ (by assumption)))⟩

set_option maxRecDepth 100000 in
set_option maxHeartbeats 600000 in
theorem Check_no (s : Int) (q t : Value) (A : Option Addr) (c : Nat) (l : List Nat) (h0 : decide (s < 0) = false) (h1 : decide (s ≥ 64) = false) (h : l.length ≤ 6) (FI : Hid (∀ w, SlAt w A (f64v l) → Calls Tryd.prog 38 #[.slice A l.length c] w fun e w' => e = .returned (.bool false) ∧ Within w w')) (w : World) (hr : SlAt w A (f64v l)) : Calls Tryd.prog 14 #[.agg #[.int .i64 s, q, t, .slice A l.length c]] w fun e w' => e = .returned (.int .i64 (4)) ∧ Within w w' := by
  have HR := Lib.hid hr; clear hr
  go_enter Tryd.func14, Tryd.ntmps14
  go_wp2_with fail
  refine (FI.out _ (HR.out.of (by repeat (first | with_reducible exact Within.refl _ | with_reducible assumption | with_reducible refine Within.alloc ?_ _ | with_reducible refine Within.drew ?_ | with_reducible refine Within.drewN ?_ _ | with_reducible refine Within.setCell ?_ (by first | (simp; done) | (simp; omega)) _ | with_reducible refine Within.trans ?_ (by assumption))))).mono ?_; rintro e1 w1 ⟨rfl, hb1⟩
  go_wp2
  go_ret
  exact ⟨rfl, (by repeat (first | with_reducible exact Within.refl _ | with_reducible assumption | with_reducible refine Within.alloc ?_ _ | with_reducible refine Within.drew ?_ | with_reducible refine Within.drewN ?_ _ | with_reducible refine Within.setCell ?_ (by first | (simp; done) | (simp; omega)) _ | with_reducible refine Within.trans ?_ (by assumption)))⟩

theorem Check_any (s : Int) (q t : Value) (A : Option Addr) (c : Nat) (l : List Nat) (hw : Words64 l) (hl : l.length ≤ 1152921504606846976) (w : World) (hr : SlAt w A (f64v l)) : Calls Tryd.prog 14 #[.agg #[.int .i64 s, q, t, .slice A l.length c]] w fun e w' => e = .returned (.int .i64 (checkV pf s l)) ∧ Within w w' := by
  unfold checkV
  by_cases h0 : s < 0
  · rw [if_pos (.inl h0)]; exact Check_neg s q t A c l (decide_eq_true h0) w
  by_cases h1 : 64 ≤ s
  · rw [if_pos (.inr (.inl h1))]; exact Check_high s q t A c l (decide_eq_false h0) (decide_eq_true h1) w
  by_cases h2 : 6 < l.length
  · rw [if_pos (.inr (.inr h2))]; exact Check_long s q t A c l (decide_eq_false h0) (decide_eq_false h1) h2 hl w
  rw [if_neg (by omega)]
  have FI := Lib.hid (fun w h => Finite_any A c l hw hl w h)
  have e : l.all pf.fin = l.all finD := rfl
  rw [e]
  cases hf : l.all finD
  · rw [hf] at FI; rw [if_neg Bool.false_ne_true]; exact Check_no s q t A c l (decide_eq_false h0) (decide_eq_false h1) (by omega) FI w hr
  · rw [hf] at FI; rw [if_pos rfl]; exact Check_yes s q t A c l (decide_eq_false h0) (decide_eq_false h1) (by omega) FI w hr

set_option maxRecDepth 100000 in
set_option maxHeartbeats 600000 in
theorem Rcheck_neg (s : Int) (q t : Value) (A : Option Addr) (c : Nat) (l : List Nat) (h : decide (s < 0) = true) (w : World) : Calls Tryd.prog 15 #[.agg #[.int .i64 s, q, t, .slice A l.length c]] w fun e w' => e = .returned (.int .i64 (210)) ∧ Within w w' := by
  go_enter Tryd.func15, Tryd.ntmps15
  go_wp2
  go_ret
  exact ⟨rfl, (by repeat (first | with_reducible exact Within.refl _ | with_reducible assumption | with_reducible refine Within.alloc ?_ _ | with_reducible refine Within.drew ?_ | with_reducible refine Within.drewN ?_ _ | with_reducible refine Within.setCell ?_ (by first | (simp; done) | (simp; omega)) _ | with_reducible refine Within.trans ?_ (by assumption)))⟩

set_option maxRecDepth 100000 in
set_option maxHeartbeats 600000 in
theorem Rcheck_high (s : Int) (q t : Value) (A : Option Addr) (c : Nat) (l : List Nat) (h0 : decide (s < 0) = false) (h : decide (s ≥ 64) = true) (w : World) : Calls Tryd.prog 15 #[.agg #[.int .i64 s, q, t, .slice A l.length c]] w fun e w' => e = .returned (.int .i64 (210)) ∧ Within w w' := by
  go_enter Tryd.func15, Tryd.ntmps15
  go_wp2
  go_ret
  exact ⟨rfl, (by repeat (first | with_reducible exact Within.refl _ | with_reducible assumption | with_reducible refine Within.alloc ?_ _ | with_reducible refine Within.drew ?_ | with_reducible refine Within.drewN ?_ _ | with_reducible refine Within.setCell ?_ (by first | (simp; done) | (simp; omega)) _ | with_reducible refine Within.trans ?_ (by assumption)))⟩

set_option maxRecDepth 100000 in
set_option maxHeartbeats 600000 in
theorem Rcheck_long (s : Int) (q t : Value) (A : Option Addr) (c : Nat) (l : List Nat) (h0 : decide (s < 0) = false) (h1 : decide (s ≥ 64) = false) (h : 6 < l.length) (hl : l.length ≤ 1152921504606846976) (w : World) : Calls Tryd.prog 15 #[.agg #[.int .i64 s, q, t, .slice A l.length c]] w fun e w' => e = .returned (.int .i64 (210)) ∧ Within w w' := by
  go_enter Tryd.func15, Tryd.ntmps15
  go_wp2
  go_ret
  exact ⟨rfl, (by repeat (first | with_reducible exact Within.refl _ | with_reducible assumption | with_reducible refine Within.alloc ?_ _ | with_reducible refine Within.drew ?_ | with_reducible refine Within.drewN ?_ _ | with_reducible refine Within.setCell ?_ (by first | (simp; done) | (simp; omega)) _ | with_reducible refine Within.trans ?_ (by assumption)))⟩

set_option maxRecDepth 100000 in
set_option maxHeartbeats 600000 in
theorem Rcheck_yes (s : Int) (q t : Value) (A : Option Addr) (c : Nat) (l : List Nat) (h0 : decide (s < 0) = false) (h1 : decide (s ≥ 64) = false) (h : l.length ≤ 6) (FI : Hid (∀ w, SlAt w A (f64v l) → Calls Tryd.prog 39 #[.slice A l.length c] w fun e w' => e = .returned (.bool true) ∧ Within w w')) (w : World) (hr : SlAt w A (f64v l)) : Calls Tryd.prog 15 #[.agg #[.int .i64 s, q, t, .slice A l.length c]] w fun e w' => e = .returned (.int .i64 (0)) ∧ Within w w' := by
  have HR := Lib.hid hr; clear hr
  go_enter Tryd.func15, Tryd.ntmps15
  go_wp2_with fail
  refine (FI.out _ (HR.out.of (by repeat (first | with_reducible exact Within.refl _ | with_reducible assumption | with_reducible refine Within.alloc ?_ _ | with_reducible refine Within.drew ?_ | with_reducible refine Within.drewN ?_ _ | with_reducible refine Within.setCell ?_ (by first | (simp; done) | (simp; omega)) _ | with_reducible refine Within.trans ?_ (by assumption))))).mono ?_; rintro e1 w1 ⟨rfl, hb1⟩
  go_wp2
  go_ret
  exact ⟨rfl, (by repeat (first | with_reducible exact Within.refl _ | with_reducible assumption | with_reducible refine Within.alloc ?_ _ | with_reducible refine Within.drew ?_ | with_reducible refine Within.drewN ?_ _ | with_reducible refine Within.setCell ?_ (by first | (simp; done) | (simp; omega)) _ | with_reducible refine Within.trans ?_ (by assumption)))⟩

set_option maxRecDepth 100000 in
set_option maxHeartbeats 600000 in
theorem Rcheck_no (s : Int) (q t : Value) (A : Option Addr) (c : Nat) (l : List Nat) (h0 : decide (s < 0) = false) (h1 : decide (s ≥ 64) = false) (h : l.length ≤ 6) (FI : Hid (∀ w, SlAt w A (f64v l) → Calls Tryd.prog 39 #[.slice A l.length c] w fun e w' => e = .returned (.bool false) ∧ Within w w')) (w : World) (hr : SlAt w A (f64v l)) : Calls Tryd.prog 15 #[.agg #[.int .i64 s, q, t, .slice A l.length c]] w fun e w' => e = .returned (.int .i64 (4)) ∧ Within w w' := by
  have HR := Lib.hid hr; clear hr
  go_enter Tryd.func15, Tryd.ntmps15
  go_wp2_with fail
  refine (FI.out _ (HR.out.of (by repeat (first | with_reducible exact Within.refl _ | with_reducible assumption | with_reducible refine Within.alloc ?_ _ | with_reducible refine Within.drew ?_ | with_reducible refine Within.drewN ?_ _ | with_reducible refine Within.setCell ?_ (by first | (simp; done) | (simp; omega)) _ | with_reducible refine Within.trans ?_ (by assumption))))).mono ?_; rintro e1 w1 ⟨rfl, hb1⟩
  go_wp2
  go_ret
  exact ⟨rfl, (by repeat (first | with_reducible exact Within.refl _ | with_reducible assumption | with_reducible refine Within.alloc ?_ _ | with_reducible refine Within.drew ?_ | with_reducible refine Within.drewN ?_ _ | with_reducible refine Within.setCell ?_ (by first | (simp; done) | (simp; omega)) _ | with_reducible refine Within.trans ?_ (by assumption)))⟩

theorem Rcheck_any (s : Int) (q t : Value) (A : Option Addr) (c : Nat) (l : List Nat) (hw : Words64 l) (hl : l.length ≤ 1152921504606846976) (w : World) (hr : SlAt w A (f64v l)) : Calls Tryd.prog 15 #[.agg #[.int .i64 s, q, t, .slice A l.length c]] w fun e w' => e = .returned (.int .i64 (checkV pf s l)) ∧ Within w w' := by
  unfold checkV
  by_cases h0 : s < 0
  · rw [if_pos (.inl h0)]; exact Rcheck_neg s q t A c l (decide_eq_true h0) w
  by_cases h1 : 64 ≤ s
  · rw [if_pos (.inr (.inl h1))]; exact Rcheck_high s q t A c l (decide_eq_false h0) (decide_eq_true h1) w
  by_cases h2 : 6 < l.length
  · rw [if_pos (.inr (.inr h2))]; exact Rcheck_long s q t A c l (decide_eq_false h0) (decide_eq_false h1) h2 hl w
  rw [if_neg (by omega)]
  have FI := Lib.hid (fun w h => RallFinite_any A c l hw hl w h)
  have e : l.all pf.fin = l.all finD := rfl
  rw [e]
  cases hf : l.all finD
  · rw [hf] at FI; rw [if_neg Bool.false_ne_true]; exact Rcheck_no s q t A c l (decide_eq_false h0) (decide_eq_false h1) (by omega) FI w hr
  · rw [hf] at FI; rw [if_pos rfl]; exact Rcheck_yes s q t A c l (decide_eq_false h0) (decide_eq_false h1) (by omega) FI w hr

set_option maxRecDepth 100000 in
set_option maxHeartbeats 600000 in
theorem Rsize_wide (c : Nat) (hc : c < 256) (h : 128 ≤ c) (w : World) : Calls Tryd.prog 49 #[.int .u8 (c : Int)] w fun e w' => e = .returned (.int .i64 (szOf c : Int)) ∧ w = w' := by
  have hs : szOf c = 16 + 8 * (c - 128) := by unfold szOf; rw [if_pos (by omega)]
  have HS := Lib.hid hs; clear hs
  have d1 : decide ((c : Int) ≥ 128) = true := by simp; omega
  have g1 : IntKind.u8.wrap ((c : Int) - 128) = (c : Int) - 128 := by rw [IntKind.wrap_u8]; omega
  have H := Lib.hid h; clear h
  go_enter Tryd.func49, Tryd.ntmps49
  go_wp2
  go_ret
  exact ⟨ret_int (by have := H.out; rw [HS.out]; omega), rfl⟩

set_option maxRecDepth 100000 in
set_option maxHeartbeats 600000 in
theorem Rsize_near (c : Nat) (hc : c < 256) (h : c < 128) (w : World) : Calls Tryd.prog 49 #[.int .u8 (c : Int)] w fun e w' => e = .returned (.int .i64 (szOf c : Int)) ∧ w = w' := by
  have hs : szOf c = 16 + 4 * c := by unfold szOf; rw [if_neg (by omega)]
  have HS := Lib.hid hs; clear hs
  have d1 : decide ((c : Int) ≥ 128) = false := by simp; omega
  have H := Lib.hid h; clear h
  go_enter Tryd.func49, Tryd.ntmps49
  go_wp2
  go_ret
  exact ⟨ret_int (by have := H.out; rw [HS.out]; omega), rfl⟩

theorem Rsize_any (c : Nat) (hc : c < 256) (w : World) : Calls Tryd.prog 49 #[.int .u8 (c : Int)] w fun e w' => e = .returned (.int .i64 (szOf c : Int)) ∧ w = w' := by
  rcases Nat.lt_or_ge c 128 with h | h
  · exact Rsize_near c hc h w
  · exact Rsize_wide c hc h w

end Go.Proofs.YtmpcnhiklpahnaaDoor
