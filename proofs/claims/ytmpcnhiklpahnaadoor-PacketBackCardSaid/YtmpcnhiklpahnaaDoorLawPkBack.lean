/- PacketBack: walk. -/
import Derived.Test.YtmpcnhiklpahnaaDoorPk19
namespace Go.Proofs.YtmpcnhiklpahnaaDoor
open Go.RowKit

set_option maxRecDepth 100000 in
set_option maxHeartbeats 1000000 in
theorem back_bad (s : Int) (q t : Nat) (A : Option Addr) (c : Nat) (l : List Nat) (hq : q < 4294967296) (ht : t < 4294967296) (hw : Words64 l) (hl : l.length * 8 ≤ 140737488355328) (hbad : checkV pf s l ≠ 0) (w : World) (hT : FmS w) (hr : SlAt w A (u64v l)) : Calls Tryd.prog 5 #[.agg #[.int .i64 s, .int .u32 (q : Int), .int .u32 (t : Int), .slice A l.length c]] w fun e w' => e = .returned (.bool true) ∧ Within w w' := by
  have OF := Lib.hid (Of_any s q t A c l hw (by omega) (w.alloc (.cells #[.int .i64 s, .int .u32 (q : Int), .int .u32 (t : Int), .slice A l.length c] 25)) (hr.of ((Within.refl w).alloc _)))
  have PK := Lib.hid (fun (W : World) A c (hT : FmS W) (h : SlAt W A (f64v l)) => Pack_any s q t A c l hq ht hw (by omega) W hT h)
  have CK := Lib.hid (fun (W : World) A c (h : SlAt W A (f64v l)) => Check_any s (.int .u32 (q : Int)) (.int .u32 (t : Int)) A c l hw (by omega) W h)
  obtain ⟨pl, hpl⟩ : ∃ x, x = packL s q t l := ⟨_, rfl⟩
  rw [← hpl] at PK
  obtain ⟨ck, hck⟩ : ∃ x, x = checkV pf s l := ⟨_, rfl⟩
  rw [← hck] at PK CK hbad
  have hne : (ck != 0) = true := bne_iff_ne.2 hbad
  have HT := Lib.hid hT
  clear hpl hck hT hr hw hl hq ht hbad
  go_enter Tryd.func5, Tryd.ntmps5
  go_wp2_with fail
  refine OF.out.mono ?_; rintro e1 w1 ⟨v1, rfl, hO1, h1⟩
  obtain ⟨A1, c1, rfl, _, hs1, _⟩ := hO1.form
  have hW1 : Within w w1 := Within.trans ((Within.refl w).alloc _) h1
  have HS1 := Lib.hid hs1; clear hs1 hO1
  go_wp2_with fail
  refine (PK.out _ A1 c1 (by exact HT.out.of (by repeat (first | with_reducible exact Within.refl _ | with_reducible assumption | with_reducible refine Within.alloc ?_ _ | with_reducible refine Within.drew ?_ | with_reducible refine Within.drewN ?_ _ | with_reducible refine Within.setCell ?_ (by first | (simp; done) | (simp; omega)) _ | with_reducible refine Within.trans ?_ (by assumption)))) (by exact HS1.out.of (by repeat (first | with_reducible exact Within.refl _ | with_reducible assumption | with_reducible refine Within.alloc ?_ _ | with_reducible refine Within.drew ?_ | with_reducible refine Within.drewN ?_ _ | with_reducible refine Within.setCell ?_ (by first | (simp; done) | (simp; omega)) _ | with_reducible refine Within.trans ?_ (by assumption))))).mono ?_; rintro e2 w2 ⟨v2, rfl, hO2, h2⟩
  obtain ⟨A2, c2, rfl, _, hs2, _⟩ := hO2.form
  clear hs2 hO2
  have d0 : w2.cell? ⟨w1.heap.size, 0, none⟩ = some (.int .i64 s) := (h2.cells _ _ (by simp)).trans (by simp)
  have d1 : w2.cell? ⟨w1.heap.size, 1, none⟩ = some (.int .u32 (q : Int)) := (h2.cells _ _ (by simp)).trans (by simp)
  have d2 : w2.cell? ⟨w1.heap.size, 2, none⟩ = some (.int .u32 (t : Int)) := (h2.cells _ _ (by simp)).trans (by simp)
  have d3 : w2.cell? ⟨w1.heap.size, 3, none⟩ = some (.slice A1 l.length c1) := (h2.cells _ _ (by simp)).trans (by simp)
  have lt2 : w1.heap.size < w2.heap.size := World.block_lt_of_cell? _ _ d0
  have hW2 : Within w w2 := Within.trans (hW1.alloc _) h2
  have hW12 : Within w1 w2 := Within.trans ((Within.refl w1).alloc _) h2
  go_wp2_with fail
  refine (CK.out _ A1 c1 (by exact HS1.out.of (by repeat (first | with_reducible exact Within.refl _ | with_reducible assumption | with_reducible refine Within.alloc ?_ _ | with_reducible refine Within.drew ?_ | with_reducible refine Within.drewN ?_ _ | with_reducible refine Within.setCell ?_ (by first | (simp; done) | (simp; omega)) _ | with_reducible refine Within.trans ?_ (by assumption))))).mono ?_; rintro e3 w3 ⟨rfl, h3⟩
  go_wp2_with fail
  refine (awake_true _ (by exact HT.out.of (by repeat (first | with_reducible exact Within.refl _ | with_reducible assumption | with_reducible refine Within.alloc ?_ _ | with_reducible refine Within.drew ?_ | with_reducible refine Within.drewN ?_ _ | with_reducible refine Within.setCell ?_ (by first | (simp; done) | (simp; omega)) _ | with_reducible refine Within.trans ?_ (by assumption))))).mono ?_; rintro e4 w4 ⟨rfl, h4⟩
  go_wp2
  go_ret
  exact ⟨rfl, (by repeat (first | with_reducible exact Within.refl _ | with_reducible assumption | with_reducible refine Within.alloc ?_ _ | with_reducible refine Within.drew ?_ | with_reducible refine Within.drewN ?_ _ | with_reducible refine Within.setCell ?_ (by first | (simp; done) | (simp; omega)) _ | with_reducible refine Within.trans ?_ (by assumption)))⟩

set_option maxRecDepth 100000 in
set_option maxHeartbeats 1000000 in
theorem back_ok (n q t : Nat) (A : Option Addr) (c : Nat) (l : List Nat) (hq : q < 4294967296) (ht : t < 4294967296) (hw : Words64 l) (hl : l.length * 8 ≤ 140737488355328) (hok : Rd.Ok pf ⟨n, q, t, l⟩) (w : World) (hT : FmS w) (hr : SlAt w A (u64v l)) : Calls Tryd.prog 5 #[.agg #[.int .i64 (n : Int), .int .u32 (q : Int), .int .u32 (t : Int), .slice A l.length c]] w fun e w' => e = .returned (.bool true) ∧ Within w w' := by
  have OF := Lib.hid (Of_any (n : Int) q t A c l hw (by omega) (w.alloc (.cells #[.int .i64 (n : Int), .int .u32 (q : Int), .int .u32 (t : Int), .slice A l.length c] 25)) (hr.of ((Within.refl w).alloc _)))
  have PK := Lib.hid (fun (W : World) A c (hT : FmS W) (h : SlAt W A (f64v l)) => Pack_fit n q t A c l hok W hT h)
  have UN := Lib.hid (fun (W : World) A c hc (hT : FmS W) (h : SlAt W A (u8v (packV pf ⟨n, q, t, l⟩))) => Unpack_frame ⟨n, q, t, l⟩ hok A c hc W hT h)
  have SM := Lib.hid (fun (W : World) A B c d (h1 : SlAt W A (f64v l)) (h2 : SlAt W B (f64v l)) => Rsame_self (n : Int) (q : Int) (t : Int) A B c d l (by omega) W h1 h2)
  have hlen := (frame_len hok).2
  obtain ⟨pl, hpl⟩ : ∃ x, x = packV pf ⟨n, q, t, l⟩ := ⟨_, rfl⟩
  rw [← hpl] at PK UN hlen
  have le1 : (pl.length : Int) ≤ 64 := by omega
  have HT := Lib.hid hT
  clear hpl hT hr hw hl hq ht hok
  go_enter Tryd.func5, Tryd.ntmps5
  go_wp2_with fail
  refine OF.out.mono ?_; rintro e1 w1 ⟨v1, rfl, hO1, h1⟩
  obtain ⟨A1, c1, rfl, _, hs1, _⟩ := hO1.form
  have hW1 : Within w w1 := Within.trans ((Within.refl w).alloc _) h1
  have HS1 := Lib.hid hs1; clear hs1 hO1
  go_wp2_with fail
  refine (PK.out _ A1 c1 (by exact HT.out.of (by repeat (first | with_reducible exact Within.refl _ | with_reducible assumption | with_reducible refine Within.alloc ?_ _ | with_reducible refine Within.drew ?_ | with_reducible refine Within.drewN ?_ _ | with_reducible refine Within.setCell ?_ (by first | (simp; done) | (simp; omega)) _ | with_reducible refine Within.trans ?_ (by assumption)))) (by exact HS1.out.of (by repeat (first | with_reducible exact Within.refl _ | with_reducible assumption | with_reducible refine Within.alloc ?_ _ | with_reducible refine Within.drew ?_ | with_reducible refine Within.drewN ?_ _ | with_reducible refine Within.setCell ?_ (by first | (simp; done) | (simp; omega)) _ | with_reducible refine Within.trans ?_ (by assumption))))).mono ?_; rintro e2 w2 ⟨v2, rfl, hO2, h2⟩
  obtain ⟨A2, c2, rfl, hc2, hs2, _⟩ := hO2.form
  have HS2 := Lib.hid hs2; have HC2 := Lib.hid hc2; clear hs2 hO2 hc2
  have d0 : w2.cell? ⟨w1.heap.size, 0, none⟩ = some (.int .i64 (n : Int)) := (h2.cells _ _ (by simp)).trans (by simp)
  have d1 : w2.cell? ⟨w1.heap.size, 1, none⟩ = some (.int .u32 (q : Int)) := (h2.cells _ _ (by simp)).trans (by simp)
  have d2 : w2.cell? ⟨w1.heap.size, 2, none⟩ = some (.int .u32 (t : Int)) := (h2.cells _ _ (by simp)).trans (by simp)
  have d3 : w2.cell? ⟨w1.heap.size, 3, none⟩ = some (.slice A1 l.length c1) := (h2.cells _ _ (by simp)).trans (by simp)
  have lt2 : w1.heap.size < w2.heap.size := World.block_lt_of_cell? _ _ d0
  have hW2 : Within w w2 := Within.trans (hW1.alloc _) h2
  have hW12 : Within w1 w2 := Within.trans ((Within.refl w1).alloc _) h2
  go_wp2_with fail
  refine (UN.out _ A2 c2 HC2.out (by exact HT.out.of (by repeat (first | with_reducible exact Within.refl _ | with_reducible assumption | with_reducible refine Within.alloc ?_ _ | with_reducible refine Within.drew ?_ | with_reducible refine Within.drewN ?_ _ | with_reducible refine Within.setCell ?_ (by first | (simp; done) | (simp; omega)) _ | with_reducible refine Within.trans ?_ (by assumption)))) (by exact HS2.out.of (by repeat (first | with_reducible exact Within.refl _ | with_reducible assumption | with_reducible refine Within.alloc ?_ _ | with_reducible refine Within.drew ?_ | with_reducible refine Within.drewN ?_ _ | with_reducible refine Within.setCell ?_ (by first | (simp; done) | (simp; omega)) _ | with_reducible refine Within.trans ?_ (by assumption))))).mono ?_; rintro e3 w3 ⟨v3, rfl, hO3, h3⟩
  obtain ⟨A3, c3, rfl, _, hs3, _⟩ := hO3.form
  have HS3 := Lib.hid hs3; clear hs3 hO3
  have g0 : w3.cell? ⟨w1.heap.size, 0, none⟩ = some (.int .i64 (n : Int)) := (h3.cells _ _ lt2).trans d0
  have g1 : w3.cell? ⟨w1.heap.size, 1, none⟩ = some (.int .u32 (q : Int)) := (h3.cells _ _ lt2).trans d1
  have g2 : w3.cell? ⟨w1.heap.size, 2, none⟩ = some (.int .u32 (t : Int)) := (h3.cells _ _ lt2).trans d2
  have g3 : w3.cell? ⟨w1.heap.size, 3, none⟩ = some (.slice A1 l.length c1) := (h3.cells _ _ lt2).trans d3
  have lt3 : w1.heap.size < w3.heap.size := World.block_lt_of_cell? _ _ g0
  have ne3 : ¬ w1.heap.size = w3.heap.size := by omega
  go_wp2_with fail
  refine (SM.out _ A3 A1 c3 c1 (by exact HS3.out.of (by repeat (first | with_reducible exact Within.refl _ | with_reducible assumption | with_reducible refine Within.alloc ?_ _ | with_reducible refine Within.drew ?_ | with_reducible refine Within.drewN ?_ _ | with_reducible refine Within.setCell ?_ (by first | (simp; done) | (simp; omega)) _ | with_reducible refine Within.trans ?_ (by assumption)))) (by exact HS1.out.of (by repeat (first | with_reducible exact Within.refl _ | with_reducible assumption | with_reducible refine Within.alloc ?_ _ | with_reducible refine Within.drew ?_ | with_reducible refine Within.drewN ?_ _ | with_reducible refine Within.setCell ?_ (by first | (simp; done) | (simp; omega)) _ | with_reducible refine Within.trans ?_ (by assumption))))).mono ?_; rintro e4 w4 ⟨rfl, h4⟩
  go_wp2_with fail
  refine (awake_true _ (by exact HT.out.of (by repeat (first | with_reducible exact Within.refl _ | with_reducible assumption | with_reducible refine Within.alloc ?_ _ | with_reducible refine Within.drew ?_ | with_reducible refine Within.drewN ?_ _ | with_reducible refine Within.setCell ?_ (by first | (simp; done) | (simp; omega)) _ | with_reducible refine Within.trans ?_ (by assumption))))).mono ?_; rintro e5 w5 ⟨rfl, h5⟩
  go_wp2
  go_ret
  exact ⟨rfl, (by repeat (first | with_reducible exact Within.refl _ | with_reducible assumption | with_reducible refine Within.alloc ?_ _ | with_reducible refine Within.drew ?_ | with_reducible refine Within.drewN ?_ _ | with_reducible refine Within.setCell ?_ (by first | (simp; done) | (simp; omega)) _ | with_reducible refine Within.trans ?_ (by assumption)))⟩

theorem back_walk (s : Int) (q t : Nat) (A : Option Addr) (c : Nat) (l : List Nat) (hq : q < 4294967296) (ht : t < 4294967296) (hw : Words64 l) (hl : l.length * 8 ≤ 140737488355328) (w : World) (hT : FmS w) (hr : SlAt w A (u64v l)) : Calls Tryd.prog 5 #[.agg #[.int .i64 s, .int .u32 (q : Int), .int .u32 (t : Int), .slice A l.length c]] w fun e w' => e = .returned (.bool true) ∧ Within w w' := by
  by_cases h : checkV pf s l = 0
  · obtain ⟨n, rfl, _, hok⟩ := pack_is (q := q) (t := t) hq ht hw h
    exact back_ok n q t A c l hq ht hw hl hok w hT hr
  · exact back_bad s q t A c l hq ht hw hl h w hT hr

end Go.Proofs.YtmpcnhiklpahnaaDoor
