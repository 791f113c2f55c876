/- PacketSpoilt: walk. -/
import Derived.Test.YtmpcnhiklpahnaaDoorPk21
import Derived.Test.YtmpcnhiklpahnaaDoorMem4
namespace Go.Proofs.YtmpcnhiklpahnaaDoor
open Go.RowKit

set_option maxRecDepth 100000 in
set_option maxHeartbeats 1000000 in
theorem spoilt_bad_walk (s : Int) (q t : Nat) (A : Option Addr) (c : Nat) (l : List Nat) (hq : q < 4294967296) (ht : t < 4294967296) (hw : Words64 l) (hl : l.length * 8 ≤ 140737488355328) (at_ : Int) (e0 e1 e2 e3 : Nat) (hbad : checkV pf s l ≠ 0) (w : World) (hT : FmS w) (hr : SlAt w A (u64v l)) : Calls Tryd.prog 6 #[.agg #[.int .i64 s, .int .u32 (q : Int), .int .u32 (t : Int), .slice A l.length c], .int .i64 at_, .agg #[.int .u8 (e0 : Int), .int .u8 (e1 : Int), .int .u8 (e2 : Int), .int .u8 (e3 : Int)]] w fun e w' => e = .returned (.bool true) ∧ Within w w' := by
  have OF := Lib.hid (fun W h => Of_any s q t A c l hw (by omega) W h)
  have HR := Lib.hid hr; clear hr
  have PK := Lib.hid (fun (W : World) A c (hT : FmS W) (h : SlAt W A (f64v l)) => Pack_any s q t A c l hq ht hw (by omega) W hT h)
  obtain ⟨pl, hpl⟩ : ∃ x, x = packL s q t l := ⟨_, rfl⟩
  rw [← hpl] at PK
  obtain ⟨ck, hck⟩ : ∃ x, x = checkV pf s l := ⟨_, rfl⟩
  rw [← hck] at PK hbad
  have hne : (ck != 0) = true := bne_iff_ne.2 hbad
  have HT := Lib.hid hT
  clear hpl hck hT hw hl hq ht hbad
  go_enter Tryd.func6, Tryd.ntmps6
  go_wp2_with fail
  refine (OF.out _ (by exact HR.out.of (by repeat (first | with_reducible exact Within.refl _ | with_reducible assumption | with_reducible refine Within.alloc ?_ _ | with_reducible refine Within.drew ?_ | with_reducible refine Within.drewN ?_ _ | with_reducible refine Within.setCell ?_ (by first | (simp; done) | (simp; omega)) _ | with_reducible refine Within.trans ?_ (by assumption))))).mono ?_; rintro e1 w1 ⟨v1, rfl, hO1, h1⟩
  obtain ⟨A1, c1, rfl, _, hs1, _⟩ := hO1.form
  have hW1 : Within w w1 := Within.trans (((Within.refl w).alloc _).alloc _) h1
  have HS1 := Lib.hid hs1; clear hs1 hO1
  go_wp2_with fail
  refine (PK.out _ A1 c1 (by exact HT.out.of (by repeat (first | with_reducible exact Within.refl _ | with_reducible assumption | with_reducible refine Within.alloc ?_ _ | with_reducible refine Within.drew ?_ | with_reducible refine Within.drewN ?_ _ | with_reducible refine Within.setCell ?_ (by first | (simp; done) | (simp; omega)) _ | with_reducible refine Within.trans ?_ (by assumption)))) (by exact HS1.out.of (by repeat (first | with_reducible exact Within.refl _ | with_reducible assumption | with_reducible refine Within.alloc ?_ _ | with_reducible refine Within.drew ?_ | with_reducible refine Within.drewN ?_ _ | with_reducible refine Within.setCell ?_ (by first | (simp; done) | (simp; omega)) _ | with_reducible refine Within.trans ?_ (by assumption))))).mono ?_; rintro e2 w2 ⟨v2, rfl, hO2, h2⟩
  obtain ⟨A2, c2, rfl, _, hs2, _⟩ := hO2.form
  clear hs2 hO2
  go_wp2_with fail
  refine (awake_true _ (by exact HT.out.of (by repeat (first | with_reducible exact Within.refl _ | with_reducible assumption | with_reducible refine Within.alloc ?_ _ | with_reducible refine Within.drew ?_ | with_reducible refine Within.drewN ?_ _ | with_reducible refine Within.setCell ?_ (by first | (simp; done) | (simp; omega)) _ | with_reducible refine Within.trans ?_ (by assumption))))).mono ?_; rintro e4 w4 ⟨rfl, h4⟩
  go_wp2
  go_ret
  exact ⟨rfl, (by repeat (first | with_reducible exact Within.refl _ | with_reducible assumption | with_reducible refine Within.alloc ?_ _ | with_reducible refine Within.drew ?_ | with_reducible refine Within.drewN ?_ _ | with_reducible refine Within.setCell ?_ (by first | (simp; done) | (simp; omega)) _ | with_reducible refine Within.trans ?_ (by assumption)))⟩

set_option maxRecDepth 100000 in
set_option maxHeartbeats 1000000 in
theorem spoilt_none_walk (n q t : Nat) (A : Option Addr) (c : Nat) (l : List Nat) (hw : Words64 l) (hl : l.length * 8 ≤ 140737488355328) (hok : Rd.Ok pf ⟨n, q, t, l⟩) (at_ : Int) (w : World) (hT : FmS w) (hr : SlAt w A (u64v l)) : Calls Tryd.prog 6 #[.agg #[.int .i64 (n : Int), .int .u32 (q : Int), .int .u32 (t : Int), .slice A l.length c], .int .i64 at_, .agg #[.int .u8 0, .int .u8 0, .int .u8 0, .int .u8 0]] w fun e w' => e = .returned (.bool true) ∧ Within w w' := by
  have OF := Lib.hid (fun W h => Of_any (n : Int) q t A c l hw (by omega) W h)
  have HR := Lib.hid hr; clear hr
  have PK := Lib.hid (fun (W : World) A c (hT : FmS W) (h : SlAt W A (f64v l)) => Pack_fit n q t A c l hok W hT h)
  obtain ⟨pl, hpl⟩ : ∃ x, x = packV pf ⟨n, q, t, l⟩ := ⟨_, rfl⟩
  rw [← hpl] at PK
  have HT := Lib.hid hT
  clear hpl hT hw hl hok
  go_enter Tryd.func6, Tryd.ntmps6
  go_wp2_with fail
  refine (OF.out _ (by exact HR.out.of (by repeat (first | with_reducible exact Within.refl _ | with_reducible assumption | with_reducible refine Within.alloc ?_ _ | with_reducible refine Within.drew ?_ | with_reducible refine Within.drewN ?_ _ | with_reducible refine Within.setCell ?_ (by first | (simp; done) | (simp; omega)) _ | with_reducible refine Within.trans ?_ (by assumption))))).mono ?_; rintro e1 w1 ⟨v1, rfl, hO1, h1⟩
  obtain ⟨A1, c1, rfl, _, hs1, _⟩ := hO1.form
  have hW1 : Within w w1 := Within.trans (((Within.refl w).alloc _).alloc _) h1
  have HS1 := Lib.hid hs1; clear hs1 hO1
  go_wp2_with fail
  refine (PK.out _ A1 c1 (by exact HT.out.of (by repeat (first | with_reducible exact Within.refl _ | with_reducible assumption | with_reducible refine Within.alloc ?_ _ | with_reducible refine Within.drew ?_ | with_reducible refine Within.drewN ?_ _ | with_reducible refine Within.setCell ?_ (by first | (simp; done) | (simp; omega)) _ | with_reducible refine Within.trans ?_ (by assumption)))) (by exact HS1.out.of (by repeat (first | with_reducible exact Within.refl _ | with_reducible assumption | with_reducible refine Within.alloc ?_ _ | with_reducible refine Within.drew ?_ | with_reducible refine Within.drewN ?_ _ | with_reducible refine Within.setCell ?_ (by first | (simp; done) | (simp; omega)) _ | with_reducible refine Within.trans ?_ (by assumption))))).mono ?_; rintro e2 w2 ⟨v2, rfl, hO2, h2⟩
  obtain ⟨A2, c2, rfl, _, hs2, _⟩ := hO2.form
  clear hs2 hO2
  have hW12 : Within w1 w2 := h2
  have EQ := quad_eq 0 0 0 0
  have z0 : w2.cell? ⟨w.heap.size + 1, 0, none⟩ = some (.int .u8 0) := (hW12.cells _ _ (by have := h1.size; simp at this; omega)).trans ((h1.cells _ _ (by simp)).trans (by simp))
  have z1 : w2.cell? ⟨w.heap.size + 1, 1, none⟩ = some (.int .u8 0) := (hW12.cells _ _ (by have := h1.size; simp at this; omega)).trans ((h1.cells _ _ (by simp)).trans (by simp))
  have z2 : w2.cell? ⟨w.heap.size + 1, 2, none⟩ = some (.int .u8 0) := (hW12.cells _ _ (by have := h1.size; simp at this; omega)).trans ((h1.cells _ _ (by simp)).trans (by simp))
  have z3 : w2.cell? ⟨w.heap.size + 1, 3, none⟩ = some (.int .u8 0) := (hW12.cells _ _ (by have := h1.size; simp at this; omega)).trans ((h1.cells _ _ (by simp)).trans (by simp))
  go_wp2_with fail
  refine (awake_true _ (by exact HT.out.of (by repeat (first | with_reducible exact Within.refl _ | with_reducible assumption | with_reducible refine Within.alloc ?_ _ | with_reducible refine Within.drew ?_ | with_reducible refine Within.drewN ?_ _ | with_reducible refine Within.setCell ?_ (by first | (simp; done) | (simp; omega)) _ | with_reducible refine Within.trans ?_ (by assumption))))).mono ?_; rintro e4 w4 ⟨rfl, h4⟩
  go_wp2
  go_ret
  exact ⟨rfl, (by repeat (first | with_reducible exact Within.refl _ | with_reducible assumption | with_reducible refine Within.alloc ?_ _ | with_reducible refine Within.drew ?_ | with_reducible refine Within.drewN ?_ _ | with_reducible refine Within.setCell ?_ (by first | (simp; done) | (simp; omega)) _ | with_reducible refine Within.trans ?_ (by assumption)))⟩

set_option maxRecDepth 100000 in
set_option maxHeartbeats 1000000 in
theorem spoilt_ok_walk (n q t : Nat) (A : Option Addr) (c : Nat) (l : List Nat) (hw : Words64 l) (hl : l.length * 8 ≤ 140737488355328) (hok : Rd.Ok pf ⟨n, q, t, l⟩) (at_ : Int) (e0 e1 e2 e3 : Nat) (he0 : e0 < 256) (he1 : e1 < 256) (he2 : e2 < 256) (he3 : e3 < 256) (hnz : ¬ (e0 = 0 ∧ e1 = 0 ∧ e2 = 0 ∧ e3 = 0)) (w : World) (hT : FmS w) (hr : SlAt w A (u64v l)) : Calls Tryd.prog 6 #[.agg #[.int .i64 (n : Int), .int .u32 (q : Int), .int .u32 (t : Int), .slice A l.length c], .int .i64 at_, .agg #[.int .u8 (e0 : Int), .int .u8 (e1 : Int), .int .u8 (e2 : Int), .int .u8 (e3 : Int)]] w fun e w' => e = .returned (.bool true) ∧ Within w w' := by
  have OF := Lib.hid (fun W h => Of_any (n : Int) q t A c l hw (by omega) W h)
  have HR := Lib.hid hr; clear hr
  have PK := Lib.hid (fun (W : World) A c (hT : FmS W) (h : SlAt W A (f64v l)) => Pack_fit n q t A c l hok W hT h)
  have hl16 := (frame_len hok).1
  have hl64 := (frame_len hok).2
  have HBY := Lib.hid (packV_bytes hok)
  have he : Bytes [e0, e1, e2, e3] := by intro x hx; simp only [List.mem_cons, List.not_mem_nil, or_false] at hx; rcases hx with rfl | rfl | rfl | rfl <;> assumption
  have SPB := Lib.hid (fun k (hk : k + 4 ≤ (packV pf ⟨n, q, t, l⟩).length) => spoilt_bad hok he rfl (quad_ne hnz) hk)
  obtain ⟨pl, hpl⟩ : ∃ x, x = packV pf ⟨n, q, t, l⟩ := ⟨_, rfl⟩
  rw [← hpl] at PK hl16 hl64 HBY SPB
  obtain ⟨M, hM⟩ : ∃ M, pl.length = M + 3 := ⟨pl.length - 3, by omega⟩
  obtain ⟨k, hk, hke, hlo, hhi⟩ := round_at at_ M (by omega) (by omega)
  have EQ := quad_eq e0 e1 e2 e3
  have eqf : (((e0 : Int) == 0) && (((e1 : Int) == 0) && (((e2 : Int) == 0) && ((e3 : Int) == 0)))) = false := by
    by_cases a0 : e0 = 0 <;> by_cases a1 : e1 = 0 <;> by_cases a2 : e2 = 0 <;> by_cases a3 : e3 = 0 <;> simp_all
  rw [eqf] at EQ
  have HEB := Lib.hid he
  have HT := Lib.hid hT
  clear hpl hT hw hl hok he eqf hnz he0 he1 he2 he3
  have QC := Lib.hid (quad_cell (w.alloc (.cells #[.int .i64 (n : Int), .int .u32 (q : Int), .int .u32 (t : Int), .slice A l.length c] 25)) e0 e1 e2 e3 54)
  have hMb : M ≤ 61 := by omega
  have hMa : 13 ≤ M := by omega
  have hke2 : (Int.tmod at_ (M : Int) + ((M : Int) + 3) - 3).tmod (M : Int) = (k : Int) := by rw [← hke]; congr 1; omega
  have m0 : ¬ M = 0 := by omega
  have m0i : ¬ (M : Int) = 0 := by omega
  have l16 : ¬ (M : Int) + 3 < 16 := by omega
  have l16' : decide ((M : Int) + 3 < 16) = false := decide_eq_false l16
  go_enter Tryd.func6, Tryd.ntmps6
  go_wp2_with fail
  refine (OF.out _ (by exact HR.out.of (by repeat (first | with_reducible exact Within.refl _ | with_reducible assumption | with_reducible refine Within.alloc ?_ _ | with_reducible refine Within.drew ?_ | with_reducible refine Within.drewN ?_ _ | with_reducible refine Within.setCell ?_ (by first | (simp; done) | (simp; omega)) _ | with_reducible refine Within.trans ?_ (by assumption))))).mono ?_; rintro e1' w1 ⟨v1, rfl, hO1, h1⟩
  obtain ⟨A1, c1, rfl, _, hs1, _⟩ := hO1.form
  have hW1 : Within w w1 := Within.trans (((Within.refl w).alloc _).alloc _) h1
  have HS1 := Lib.hid hs1; clear hs1 hO1
  have hQ1 : ∀ i, i < 4 → w1.cell? ⟨w.heap.size + 1, i, none⟩ = some (.int .u8 (([e0, e1, e2, e3].getD i 0 : Nat) : Int)) := fun i hi => (h1.cells _ _ (by simp)).trans (by have := QC.out i hi; simpa using this)
  have z0 := hQ1 0 (by decide)
  have z1 := hQ1 1 (by decide)
  have z2 := hQ1 2 (by decide)
  have z3 := hQ1 3 (by decide)
  simp only [List.getD_cons_zero, List.getD_cons_succ] at z0 z1 z2 z3
  have ltq : w.heap.size + 1 < w1.heap.size := World.block_lt_of_cell? _ _ z0
  go_wp2_with fail
  refine (PK.out _ A1 c1 (by exact HT.out.of (by repeat (first | with_reducible exact Within.refl _ | with_reducible assumption | with_reducible refine Within.alloc ?_ _ | with_reducible refine Within.drew ?_ | with_reducible refine Within.drewN ?_ _ | with_reducible refine Within.setCell ?_ (by first | (simp; done) | (simp; omega)) _ | with_reducible refine Within.trans ?_ (by assumption)))) (by exact HS1.out.of (by repeat (first | with_reducible exact Within.refl _ | with_reducible assumption | with_reducible refine Within.alloc ?_ _ | with_reducible refine Within.drew ?_ | with_reducible refine Within.drewN ?_ _ | with_reducible refine Within.setCell ?_ (by first | (simp; done) | (simp; omega)) _ | with_reducible refine Within.trans ?_ (by assumption))))).mono ?_; rintro e2' w2 ⟨v2, rfl, hO2, h2⟩
  obtain ⟨A2, c2, rfl, hc2, hs2, _⟩ := hO2.form
  have HS2 := Lib.hid hs2; clear hO2 hs2
  have y0 := (h2.cells _ _ ltq).trans z0
  have y1 := (h2.cells _ _ ltq).trans z1
  have y2 := (h2.cells _ _ ltq).trans z2
  have y3 := (h2.cells _ _ ltq).trans z3
  have HQ2 : Hid (∀ i, i < 4 → w2.cell? ⟨w.heap.size + 1, i, none⟩ = some (.int .u8 (([e0, e1, e2, e3].getD i 0 : Nat) : Int))) := Lib.hid (fun i hi => (h2.cells _ _ ltq).trans (hQ1 i hi))
  have hW2 : Within w w2 := Within.trans hW1 h2
  clear z0 z1 z2 z3 hQ1
  obtain ⟨v3, w3, hrun3, hO3, hB3⟩ := run_app_u8 w2 w2.heap.size (.slice none 0 0) [] pl (OwnB.nil_ _ _) A2 c2 HS2.out (by simp; omega) (Nat.le_refl _)
  rw [List.nil_append] at hO3
  have hW3 : Within w2 w3 := hB3
  obtain ⟨g, c3, rfl, hc3, hg3, hgl, hrow⟩ := hO3.row (by omega)
  rw [hM] at hc2 hc3 hrun3 ⊢
  have RUN3 := Lib.hid hrun3; have HROW := Lib.hid hrow; clear hrun3 hrow hO3
  have HM := Lib.hid hM; clear hM
  go_wp2_with (at_builtin; refine wpList_append_run rfl (.const (.slice none 0 0)) (.tmp 41) 26 rfl _ _ rfl rfl RUN3.out ?_)
  have hPLl : (spo pl k [e0, e1, e2, e3] 0).length = M + 3 := HM.out
  have HBUT0 : But g w3 w3 := But.refl _ _
  have HW3 := Lib.hid hW3; have HW2 := Lib.hid hW2
  go_loopw [43] (fun iv wr => ∃ i : Nat, i ≤ 4 ∧ iv = .int .i64 (i : Int) ∧ RowB wr g (spo pl k [e0, e1, e2, e3] i) ∧ But g w3 wr) (fun iv _ => 4 - (intOf iv).toNat)
  case atStart => exact ⟨0, by omega, rfl, HROW.out, But.refl _ _⟩
  case round =>
    obtain ⟨i, hi, rfl, hrow, hbut⟩ := hrel
    have hgr : g < wr.heap.size := Nat.lt_of_lt_of_le hgl hbut.size
    obtain ⟨sp, hsp⟩ : ∃ sp, sp = spo pl k [e0, e1, e2, e3] i := ⟨_, rfl⟩
    have hspl : sp.length = M + 3 := by rw [hsp, spo_len]; exact HM.out
    rw [← hsp] at hrow
    have hW2r : Within w2 wr := Within.aside HW3.out hbut hg3
    by_cases hlt : i < 4
    · obtain ⟨x, hx⟩ : ∃ x, x = sp.getD (k + i) 0 := ⟨_, rfl⟩
      obtain ⟨y, hy⟩ : ∃ y, y = [e0, e1, e2, e3].getD i 0 := ⟨_, rfl⟩
      have hxl : x < 256 := by rw [hx, hsp]; exact (spo_bytes HBY.out HEB.out i).getD_lt _
      have hyl : y < 256 := by rw [hy]; exact HEB.out.getD_lt _
      have cx := hrow.1 (k + i) (by omega)
      rw [← hx] at cx
      have cy : wr.cell? ⟨w.heap.size + 1, i, none⟩ = some (.int .u8 (y : Int)) := by rw [hy]; exact (hW2r.cells _ _ (World.block_lt_of_cell? _ _ (HQ2.out i hlt))).trans (HQ2.out i hlt)
      have fx := hrow.2
      have ltb := World.block_lt_of_cell? _ _ cy
      have ltb : w.heap.size + 1 < wr.heap.size := ltb
      have hxor := u8_xor_nat x y hxl hyl
      have hset : sp.set (k + i) (x ^^^ y) = spo pl k [e0, e1, e2, e3] (i + 1) := by rw [spo, ← hsp, ← hx, ← hy]
      have b1 : (0 : Int) ≤ (k : Int) + (i : Int) := by omega
      have b2 : (k : Int) + (i : Int) < (M : Int) + 3 := by omega
      have b3 : k + i < M + 3 := by omega
      have wki : IntKind.i64.wrap ((k : Int) + (i : Int)) = (k : Int) + (i : Int) := by rw [IntKind.wrap_i64]; omega
      have tki : ((k : Int) + (i : Int)).toNat = k + i := by omega
      have b4 : (i : Int) < 4 := by omega
      have HRW := Lib.hid hrow; have HBT := Lib.hid hbut; have HSL := Lib.hid hspl; have HST := Lib.hid hset; have HWR := Lib.hid hW2r; clear hrow hbut hspl hset hx hy hsp hW2r
      go_wp2_with fail
      refine wp_region_schG (fun W => W.cell? ⟨g, k + i, none⟩ = some (.int .u8 (x : Int)) ∧ W.cell? ⟨w.heap.size + 1, i, none⟩ = some (.int .u8 (y : Int)) ∧ (∀ o, W.frozen? ⟨g, o, none⟩ = false) ∧ g < W.heap.size ∧ w.heap.size + 1 < W.heap.size ∧ W = wr) 11 (.firm 0 (.firm 1 (.firm 2 (.firm 3 (.firm 4 (.firm 5 (.firm 6 (.firm 7 (.firm 8 (.firm 9 (.firm 10 (.one 11 .nil)))))))))))) (by kernel_rfl) (by kernel_rfl) ⟨cx, cy, fx, hgr, ltb, rfl⟩ ?_
      rintro w0 ⟨kx, ky, kf, kg, kb, ke⟩
      try simp only [Act.put, List.setIfInBounds_toArray, List.set_cons_zero, List.set_cons_succ]
      apply sch_firm rfl rfl (by repeat (first | with_reducible exact Within.refl _ | with_reducible assumption | with_reducible refine Within.alloc ?_ _ | with_reducible refine Within.drew ?_ | with_reducible refine Within.drewN ?_ _ | with_reducible refine Within.setCell ?_ (by first | (simp; done) | (simp; omega)) _ | with_reducible refine Within.trans ?_ (by assumption)))
      · intro wq hq
        have hcq := hq.cells
        clear hq
        go_simp
        first | rfl | (trace_state; fail)
      try simp only [Act.put, List.setIfInBounds_toArray, List.set_cons_zero, List.set_cons_succ]
      apply sch_firm rfl rfl (by repeat (first | with_reducible exact Within.refl _ | with_reducible assumption | with_reducible refine Within.alloc ?_ _ | with_reducible refine Within.drew ?_ | with_reducible refine Within.drewN ?_ _ | with_reducible refine Within.setCell ?_ (by first | (simp; done) | (simp; omega)) _ | with_reducible refine Within.trans ?_ (by assumption)))
      · intro wq hq
        have hcq := hq.cells
        clear hq
        go_simp
        first | rfl | (trace_state; fail)
      try simp only [Act.put, List.setIfInBounds_toArray, List.set_cons_zero, List.set_cons_succ]
      apply sch_firm rfl rfl (by repeat (first | with_reducible exact Within.refl _ | with_reducible assumption | with_reducible refine Within.alloc ?_ _ | with_reducible refine Within.drew ?_ | with_reducible refine Within.drewN ?_ _ | with_reducible refine Within.setCell ?_ (by first | (simp; done) | (simp; omega)) _ | with_reducible refine Within.trans ?_ (by assumption)))
      · intro wq hq
        have hcq := hq.cells
        clear hq
        go_simp
        first | rfl | (trace_state; fail)
      try simp only [Act.put, List.setIfInBounds_toArray, List.set_cons_zero, List.set_cons_succ]
      apply sch_firm rfl rfl (by repeat (first | with_reducible exact Within.refl _ | with_reducible assumption | with_reducible refine Within.alloc ?_ _ | with_reducible refine Within.drew ?_ | with_reducible refine Within.drewN ?_ _ | with_reducible refine Within.setCell ?_ (by first | (simp; done) | (simp; omega)) _ | with_reducible refine Within.trans ?_ (by assumption)))
      · intro wq hq
        have hcq := hq.cells
        clear hq
        go_simp
        first | rfl | (trace_state; fail)
      try simp only [Act.put, List.setIfInBounds_toArray, List.set_cons_zero, List.set_cons_succ]
      apply sch_firm rfl rfl (by repeat (first | with_reducible exact Within.refl _ | with_reducible assumption | with_reducible refine Within.alloc ?_ _ | with_reducible refine Within.drew ?_ | with_reducible refine Within.drewN ?_ _ | with_reducible refine Within.setCell ?_ (by first | (simp; done) | (simp; omega)) _ | with_reducible refine Within.trans ?_ (by assumption)))
      · intro wq hq
        have hcq := hq.cells
        clear hq
        go_simp
        first | rfl | (trace_state; fail)
      try simp only [Act.put, List.setIfInBounds_toArray, List.set_cons_zero, List.set_cons_succ]
      apply sch_firm rfl rfl (by repeat (first | with_reducible exact Within.refl _ | with_reducible assumption | with_reducible refine Within.alloc ?_ _ | with_reducible refine Within.drew ?_ | with_reducible refine Within.drewN ?_ _ | with_reducible refine Within.setCell ?_ (by first | (simp; done) | (simp; omega)) _ | with_reducible refine Within.trans ?_ (by assumption)))
      · intro wq hq
        have hcq := hq.cells
        clear hq
        go_simp
        first | rfl | (trace_state; fail)
      try simp only [Act.put, List.setIfInBounds_toArray, List.set_cons_zero, List.set_cons_succ]
      apply sch_firm rfl rfl (by repeat (first | with_reducible exact Within.refl _ | with_reducible assumption | with_reducible refine Within.alloc ?_ _ | with_reducible refine Within.drew ?_ | with_reducible refine Within.drewN ?_ _ | with_reducible refine Within.setCell ?_ (by first | (simp; done) | (simp; omega)) _ | with_reducible refine Within.trans ?_ (by assumption)))
      · intro wq hq
        have hcq := hq.cells
        clear hq
        go_simp
        first | rfl | (trace_state; fail)
      try simp only [Act.put, List.setIfInBounds_toArray, List.set_cons_zero, List.set_cons_succ]
      apply sch_firm rfl rfl (by repeat (first | with_reducible exact Within.refl _ | with_reducible assumption | with_reducible refine Within.alloc ?_ _ | with_reducible refine Within.drew ?_ | with_reducible refine Within.drewN ?_ _ | with_reducible refine Within.setCell ?_ (by first | (simp; done) | (simp; omega)) _ | with_reducible refine Within.trans ?_ (by assumption)))
      · intro wq hq
        have hcq := hq.cells
        clear hq
        go_simp
        first | rfl | (trace_state; fail)
      try simp only [Act.put, List.setIfInBounds_toArray, List.set_cons_zero, List.set_cons_succ]
      apply sch_firm rfl rfl (by repeat (first | with_reducible exact Within.refl _ | with_reducible assumption | with_reducible refine Within.alloc ?_ _ | with_reducible refine Within.drew ?_ | with_reducible refine Within.drewN ?_ _ | with_reducible refine Within.setCell ?_ (by first | (simp; done) | (simp; omega)) _ | with_reducible refine Within.trans ?_ (by assumption)))
      · intro wq hq
        have hcq := hq.cells
        clear hq
        go_simp
        first | rfl | (trace_state; fail)
      try simp only [Act.put, List.setIfInBounds_toArray, List.set_cons_zero, List.set_cons_succ]
      apply sch_firm rfl rfl (by repeat (first | with_reducible exact Within.refl _ | with_reducible assumption | with_reducible refine Within.alloc ?_ _ | with_reducible refine Within.drew ?_ | with_reducible refine Within.drewN ?_ _ | with_reducible refine Within.setCell ?_ (by first | (simp; done) | (simp; omega)) _ | with_reducible refine Within.trans ?_ (by assumption)))
      · intro wq hq
        have hcq := hq.cells
        clear hq
        go_simp
        first | rfl | (trace_state; fail)
      try simp only [Act.put, List.setIfInBounds_toArray, List.set_cons_zero, List.set_cons_succ]
      apply sch_firm rfl rfl (by repeat (first | with_reducible exact Within.refl _ | with_reducible assumption | with_reducible refine Within.alloc ?_ _ | with_reducible refine Within.drew ?_ | with_reducible refine Within.drewN ?_ _ | with_reducible refine Within.setCell ?_ (by first | (simp; done) | (simp; omega)) _ | with_reducible refine Within.trans ?_ (by assumption)))
      · intro wq hq
        have hcq := hq.cells
        clear hq
        go_simp
        first | rfl | (trace_state; fail)
      try simp only [Act.put, List.setIfInBounds_toArray, List.set_cons_zero, List.set_cons_succ]
      refine sch_one rfl rfl (fun K hK => ?_)
      go_simp
      refine hK _ _ (fun h => absurd h (by decide)) ?_
      clear hK K
      try simp only [Act.put, List.setIfInBounds_toArray, List.set_cons_zero, List.set_cons_succ]
      refine sch_nil ?_
      subst ke
      go_wp2
      go_roundw
      case rel =>
        refine ⟨i + 1, hlt, by go_num, ?_, (HBT.out.drew).own _⟩
        rw [← HST.out]
        exact (HRW.out.of ((Within.refl w0).drew) kg).set (k + i) (x ^^^ y) (by rw [HSL.out]; exact b3)
      case measure => simp [intOf]; omega
    · obtain rfl : i = 4 := by omega
      have hbad := SPB.out k (by rw [HM.out]; omega)
      rw [← hsp] at hbad
      have hsb : Bytes sp := by rw [hsp]; exact spo_bytes HBY.out HEB.out 4
      have UN := fun (h : SlAt wr (some ⟨g, 0, none⟩) (u8v sp)) => Unpack_any (some ⟨g, 0, none⟩) c3 sp hsb (by omega) (by omega) wr (HT.out.of (HW2.out.trans hW2r)) h
      rw [hspl] at UN
      have UN := Lib.hid (UN (hrow.at hgr))
      obtain ⟨er, her⟩ : ∃ er, er = unpackE pf sp := ⟨_, rfl⟩
      rw [← her] at UN hbad
      have hne : (er != 0) = true := bne_iff_ne.2 hbad
      have HWR := Lib.hid (HW2.out.trans hW2r); clear hrow hbut hspl hsp hsb hW2r her hbad
      go_wp2_with fail
      refine UN.out.mono ?_; rintro e5 w5 ⟨v5, rfl, hO5, h5⟩
      obtain ⟨A5, c5, rfl, _, _, _⟩ := hO5.form
      clear hO5
      have hW5 : Within w w5 := HWR.out.trans h5
      go_wp2_with fail
      refine (awake_true _ (by exact HT.out.of hW5)).mono ?_; rintro e6 w6 ⟨rfl, h6⟩
      go_wp2
      go_ret
      exact ⟨rfl, hW5.trans h6⟩

theorem spoilt_walk (s : Int) (q t : Nat) (A : Option Addr) (c : Nat) (l : List Nat) (hq : q < 4294967296) (ht : t < 4294967296) (hw : Words64 l) (hl : l.length * 8 ≤ 140737488355328) (at_ : Int) (e0 e1 e2 e3 : Nat) (he0 : e0 < 256) (he1 : e1 < 256) (he2 : e2 < 256) (he3 : e3 < 256) (w : World) (hT : FmS w) (hr : SlAt w A (u64v l)) : Calls Tryd.prog 6 #[.agg #[.int .i64 s, .int .u32 (q : Int), .int .u32 (t : Int), .slice A l.length c], .int .i64 at_, .agg #[.int .u8 (e0 : Int), .int .u8 (e1 : Int), .int .u8 (e2 : Int), .int .u8 (e3 : Int)]] w fun e w' => e = .returned (.bool true) ∧ Within w w' := by
  by_cases h : checkV pf s l = 0
  · obtain ⟨n, rfl, _, hok⟩ := pack_is (q := q) (t := t) hq ht hw h
    by_cases hz : e0 = 0 ∧ e1 = 0 ∧ e2 = 0 ∧ e3 = 0
    · obtain ⟨rfl, rfl, rfl, rfl⟩ := hz
      exact spoilt_none_walk n q t A c l hw hl hok at_ w hT hr
    · exact spoilt_ok_walk n q t A c l hw hl hok at_ e0 e1 e2 e3 he0 he1 he2 he3 hz w hT hr
  · exact spoilt_bad_walk s q t A c l hq ht hw hl at_ e0 e1 e2 e3 h w hT hr

end Go.Proofs.YtmpcnhiklpahnaaDoor
